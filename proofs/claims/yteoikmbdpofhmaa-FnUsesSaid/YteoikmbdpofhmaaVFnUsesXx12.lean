import Derived.Test.YteoikmbdpofhmaaVFnUsesXx0
import Derived.Test.YteoikmbdpofhmaaVFnUsesXx11
namespace Go.Proofs.Yteoikmbdpofhmaa.XFnUses
open Go.RowKit Go.Proofs.YteoikmbdpofhmaaW.PrintWords Go.Proofs.YteoikmbdpofhmaaW.PrintLast Go.Proofs.YteoikmbdpofhmaaW.PrintMore
attribute [local go_sem] max2_int min2_int max_two min_two max_three min_three max_four min_four
set_option linter.unusedVariables false
set_option linter.unusedSimpArgs false
def spec_Ranked.b0_ : Array Bool := #[false, false, false, false, false, false, false, false, false, false, false, false, false, false, false]
def spec_Ranked.b1_ : Array Bool := #[true, false, false, false, false, false, false, false, false, false, false, false, false, false, false]
def spec_Ranked.b2_ : Array Bool := #[true, true, false, false, false, false, false, false, false, false, false, false, false, false, false]
def spec_Ranked.b3_ : Array Bool := #[true, true, true, false, false, false, false, false, false, false, false, false, false, false, false]
def spec_Ranked.b4_ : Array Bool := #[true, true, true, true, true, true, true, true, true, true, true, true, false, false, false]
def spec_Ranked.b5_ : Array Bool := #[true, true, true, true, true, true, true, true, true, true, true, true, true, false, false]
def spec_Ranked.b6_ : Array Bool := #[true, true, true, true, true, true, true, true, true, true, true, true, true, true, false]
def spec_Ranked.b7_ : Array Bool := #[true, true, true, true, true, true, true, true, true, true, true, true, true, true, true]
theorem spec_Ranked.K3_ {p0 p1 p2 : Prop} (h0 : p0) (h1 : p1) (h2 : p2) : Aside0 p0 ∧ Aside0 p1 ∧ Aside0 p2 := ⟨⟨h0⟩, ⟨h1⟩, ⟨h2⟩⟩
theorem spec_Ranked.K4_ {p0 p1 p2 p3 : Prop} (h0 : p0) (h1 : p1) (h2 : p2) (h3 : p3) : Aside0 p0 ∧ Aside0 p1 ∧ Aside0 p2 ∧ Aside0 p3 := ⟨⟨h0⟩, ⟨h1⟩, ⟨h2⟩, ⟨h3⟩⟩
theorem spec_Ranked.K5_ {p0 p1 p2 p3 p4 : Prop} (h0 : p0) (h1 : p1) (h2 : p2) (h3 : p3) (h4 : p4) : Aside0 p0 ∧ Aside0 p1 ∧ Aside0 p2 ∧ Aside0 p3 ∧ Aside0 p4 := ⟨⟨h0⟩, ⟨h1⟩, ⟨h2⟩, ⟨h3⟩, ⟨h4⟩⟩
theorem spec_Ranked.K6_ {p0 p1 p2 p3 p4 p5 : Prop} (h0 : p0) (h1 : p1) (h2 : p2) (h3 : p3) (h4 : p4) (h5 : p5) : Aside0 p0 ∧ Aside0 p1 ∧ Aside0 p2 ∧ Aside0 p3 ∧ Aside0 p4 ∧ Aside0 p5 := ⟨⟨h0⟩, ⟨h1⟩, ⟨h2⟩, ⟨h3⟩, ⟨h4⟩, ⟨h5⟩⟩
theorem spec_Ranked.K7_ {p0 p1 p2 p3 p4 p5 p6 : Prop} (h0 : p0) (h1 : p1) (h2 : p2) (h3 : p3) (h4 : p4) (h5 : p5) (h6 : p6) : Aside0 p0 ∧ Aside0 p1 ∧ Aside0 p2 ∧ Aside0 p3 ∧ Aside0 p4 ∧ Aside0 p5 ∧ Aside0 p6 := ⟨⟨h0⟩, ⟨h1⟩, ⟨h2⟩, ⟨h3⟩, ⟨h4⟩, ⟨h5⟩, ⟨h6⟩⟩
mutual
def spec_Ranked.l0 : Nat → List Int → Int → List ByteArray → List Int → Int → List (S68) → Option (List Int)
  | 0, _, _, _, _, _, _ => none
  | k + 1, x3, x4, x448000, x448001, x448002, x448003 => if x4 < (x448000.length : Int) then (spec_Ranked.l1 k x3 x4 (x3.length : Int) x448000 x448001 x448002 x448003) else (some x3)
def spec_Ranked.l1 : Nat → List Int → Int → Int → List ByteArray → List Int → Int → List (S68) → Option (List Int)
  | 0, _, _, _, _, _, _, _ => none
  | k + 1, x3, x4, x5, x448000, x448001, x448002, x448003 => if x5 > 0 then (if 0 ≤ (wrap64 (x5 - 1)) then (if (wrap64 (x5 - 1)) < (x3.length : Int) then ((spec_UsesOf.f k x448000 x448001 x448002 x448003 (rd x3 (wrap64 (x5 - 1)))).bind fun t452 => ((spec_UsesOf.f k x448000 x448001 x448002 x448003 x4).bind fun t453 => (if t452 < t453 then (spec_Ranked.l1 k x3 x4 (wrap64 (x5 - 1)) x448000 x448001 x448002 x448003) else ((some (([] : List Int) : List Int)).bind fun y454 => (if 0 ≤ x5 then (if x5 ≤ (x3.length : Int) then ((some (x3.take (x5 : Int).toNat : List Int)).bind fun y457 => (if y454.length + y457.length < 17592186044416 then ((some (y454 ++ y457 : List Int)).bind fun y461 => (if y461.length < 17592186044416 then ((some (y461 ++ [x4] : List Int)).bind fun y464 => ((some (x3.drop (x5 : Int).toNat : List Int)).bind fun y467 => (if y464.length + y467.length < 17592186044416 then (spec_Ranked.l0 k (y464 ++ y467) (wrap64 (x4 + 1)) x448000 x448001 x448002 x448003) else (none)))) else (none))) else (none))) else (none)) else (none)))))) else (none)) else (none)) else ((some (([] : List Int) : List Int)).bind fun y474 => (if 0 ≤ x5 then (if x5 ≤ (x3.length : Int) then ((some (x3.take (x5 : Int).toNat : List Int)).bind fun y477 => (if y474.length + y477.length < 17592186044416 then ((some (y474 ++ y477 : List Int)).bind fun y481 => (if y481.length < 17592186044416 then ((some (y481 ++ [x4] : List Int)).bind fun y484 => ((some (x3.drop (x5 : Int).toNat : List Int)).bind fun y487 => (if y484.length + y487.length < 17592186044416 then (spec_Ranked.l0 k (y484 ++ y487) (wrap64 (x4 + 1)) x448000 x448001 x448002 x448003) else (none)))) else (none))) else (none))) else (none)) else (none)))
end
def spec_Ranked.f (k : Nat) (l0_0 : List ByteArray) (l0_1 : List Int) (a0_2 : Int) (l0_3 : List (S68)) : Option (List Int) := spec_Ranked.l0 k (([] : List Int)) 0 l0_0 l0_1 a0_2 l0_3
def spec_Ranked.T6 : Bool × List (List Nat × List Nat) := (true, [([], []), ([0], [0]), ([1], [1]), ([2], [2]), ([2], [2]), ([2], [2]), ([5, 2], [2, 5]), ([4, 6, 2], [2, 4, 6]), ([7, 2], [2, 7]), ([3, 8, 2, 2], [2, 3, 8]), ([2], [2]), ([2], [2]), ([10, 11, 9, 2], [2, 10, 11]), ([9, 12, 2], [2, 9, 12]), ([2, 13], [2, 13])])
def spec_Ranked.B6 : List Nat := [0, 1, 3, 7, 7, 7, 39, 119, 247, 511, 7, 7, 4095, 8191, 16383]
theorem spec_Ranked.tab6 : rtab .any (opsOf Try.f28 6) = spec_Ranked.T6 := by kernel_rfl
theorem spec_Ranked.bits6 : waitsOk spec_Ranked.T6.2 spec_Ranked.B6 = true := by kernel_rfl
set_option maxHeartbeats 8000000 in
set_option maxRecDepth 100000 in
theorem spec_Ranked.calls (k : Nat) (A0_0 : Option Addr) (c0_0 : Nat) (l0_0 : List ByteArray) (A0_1 : Option Addr) (c0_1 : Nat) (l0_1 : List Int) (a0_2 : Int) (A0_3 : Option Addr) (c0_3 : Nat) (l0_3 : List (S68)) (r : List Int) (w : World) (hr0_0 : Kd.C Kd.string w A0_0 l0_0.length l0_0) (hc0_0 : l0_0.length ≤ c0_0) (hr0_1 : Kd.C (Kd.int .i64) w A0_1 l0_1.length l0_1) (hc0_1 : l0_1.length ≤ c0_1) (hr0_3 : Kd.C k68 w A0_3 l0_3.length l0_3) (hc0_3 : l0_3.length ≤ c0_3) (h : spec_Ranked.f k l0_0 l0_1 a0_2 l0_3 = some r) :
    Calls Try.prog 28 #[.agg #[.slice A0_0 l0_0.length c0_0, .slice A0_1 l0_1.length c0_1, .int .i64 a0_2, .slice A0_3 l0_3.length c0_3]] w fun e w' => ∃ v0_ : Value, e = .returned (v0_) ∧ Kd.R (Kd.int .i64) 3 w' w.heap.size (fun _ => True) v0_ r ∧ Below w.heap.size w w' := by
 have hu46 := Try.underlying46
 have HR0_0 := Aside0.mk hr0_0
 have HC0_0 := Aside0.mk hc0_0
 clear hr0_0 hc0_0
 have HR0_1 := Aside0.mk hr0_1
 have HC0_1 := Aside0.mk hc0_1
 clear hr0_1 hc0_1
 have HR0_3 := Aside0.mk hr0_3
 have HC0_3 := Aside0.mk hc0_3
 clear hr0_3 hc0_3
 have HB := Aside0.mk (Below.refl w.heap.size w)
 have H : (spec_Ranked.l0 k (([] : List Int)) 0 l0_0 l0_1 a0_2 l0_3) = some r := h
 clear h
 obtain ⟨y448, hy448⟩ : ∃ y_ : List Int, y_ = (([] : List Int)) := ⟨_, rfl⟩
 replace H : (spec_Ranked.l0 k y448 0 l0_0 l0_1 a0_2 l0_3) = some r := by first | (rw [hy448]; with_reducible exact H) | (have H2_ := (Option.bind_some _ _).symm.trans H; rw [hy448]; with_reducible exact H2_) | (have H2_ := (Option.bind_some _ _).symm.trans H; with_reducible exact H2_) | with_reducible exact H | (rw [hy448]; exact H) | exact H
 have Ny448 := Aside0.mk hy448
 clear hy448
 have H' := Aside0.mk H
 clear H
 go_enter Try.func28, Try.ntmps28
 go_wp2_with (first | ((with_reducible refine gate_dst (N := 1) rfl ?_); refine box_event ?hg (N := 1) ?hd (cs := #[.slice A0_0 l0_0.length c0_0, .slice A0_1 l0_1.length c0_1, .int .i64 a0_2, .slice A0_3 l0_3.length c0_3]) (t := 46) ?hr ?_; (case hd => rfl); (case hg => rfl); (case hr => exact g10); intro gb447 hg w2 hbox hb; have n_ := spec_Ranked.K4_ (below_step (g4 HB.out) hb) hbox ((g11 HB.out : w.heap.size ≤ gb447)) ((g11 HB.out : w.heap.size ≤ gb447)); clear HB; obtain ⟨HB, BK447, GW447, GE447⟩ := n_; clear hb hbox hg) | ((with_reducible refine gate_dst (N := 7) rfl ?_); refine Kd.R_lit (Kd.int .i64) _ 3 ?hg (N := 7) ?hd (xs := ([] : List Int)) (inner := []) (ok := fun _ => True) (okp := fun _ => True) ?hr ?hp (fun _ hk => hk) trivial (Below.refl _ _) (Nat.le_refl _) (by simp) ?_; (case hd => rfl); (case hg => rfl); (case hr => exact g10); (case hp => exact (Reps.none _ _)); intro v449 w3 ho4 hb hg_ hnew_; clear hg_ hnew_; (first | rw [← Ny448.out] at ho4 | (simp only [Int.reduceToNat] at ho4; rw [← Ny448.out] at ho4)); have n_ := spec_Ranked.K3_ (Kd.R_lower ho4 (below_size (g12 HB.out GE447.out))) (blk_below (g := gb447) (o := .cells #[.slice A0_0 l0_0.length c0_0, .slice A0_1 l0_1.length c0_1, .int .i64 a0_2, .slice A0_3 l0_3.length c0_3] 46 (0, 0)) (g2 BK447.out) hb) (below_step (g12 HB.out GE447.out) hb); clear BK447 HB; obtain ⟨HO450, BK447, HB⟩ := n_; clear hb ho4))
 go_loopg [3, 4] k (fun kq v3 v4 w' => ∃ (x3_1 : List Int) (x4_1 : Int), v4 = .int .i64 x4_1 ∧ Aside0 (spec_Ranked.l0 kq x3_1 x4_1 l0_0 l0_1 a0_2 l0_3 = some r) ∧ Aside0 (kq ≤ k) ∧ Aside0 (Kd.R (Kd.int .i64) 3 w' w.heap.size (fun _ => True) v3 x3_1) ∧ Aside0 (w'.heap[gb447]? = some (.cells #[(.slice A0_0 l0_0.length c0_0), (.slice A0_1 l0_1.length c0_1), .int .i64 a0_2, (.slice A0_3 l0_3.length c0_3)] 46 (0, 0))) ∧ Aside0 (Below w.heap.size w w'))
 case atStart => exact ⟨(y448), (0), (g0), H', ⟨Nat.le_refl _⟩, ⟨g1 HO450.out⟩, ⟨g2 BK447.out⟩, ⟨g12 HB.out GE447.out⟩⟩
 case round =>
  clear H'
  try clear c2
  try clear p2
  obtain ⟨x3_1, x4_1, rfl, HA, HK1, HO_3, BK447, HB⟩ := hrel
  cases gk with
  | zero => exact absurd HA.out (by simp [spec_Ranked.l0])
  | succ k1 =>
   have H := HA.out
   clear HA
   simp only [spec_Ranked.l0] at H
   by_cases c5 : x4_1 < (l0_0.length : Int)
   case neg =>
    rw [if_neg c5] at H
    have c5b0 : decide (x4_1 < (l0_0.length : Int)) = false := decide_eq_false c5
    clear c5
    obtain rfl := Option.some.inj H
    have hcz48_0 : wr.cell? ⟨gb447, 0, none⟩ = some (.slice A0_0 l0_0.length c0_0) := (blk_cell BK447.out 0).trans rfl
    have hcz48_1 : wr.cell? ⟨gb447, 1, none⟩ = some (.slice A0_1 l0_1.length c0_1) := (blk_cell BK447.out 1).trans rfl
    have hcz48_2 : wr.cell? ⟨gb447, 2, none⟩ = some (.int .i64 a0_2) := (blk_cell BK447.out 2).trans rfl
    have hcz48_3 : wr.cell? ⟨gb447, 3, none⟩ = some (.slice A0_3 l0_3.length c0_3) := (blk_cell BK447.out 3).trans rfl
    have hfz48_0 := blk_frozen BK447.out 0
    have hfz48_1 := blk_frozen BK447.out 1
    have hfz48_2 := blk_frozen BK447.out 2
    have hfz48_3 := blk_frozen BK447.out 3
    go_wp2
    go_ret
    exact ⟨_, g5, g1 HO_3.out, g12 HB.out GE447.out⟩
   rw [if_pos c5] at H
   have c5b0 : decide (x4_1 < (l0_0.length : Int)) = true := decide_eq_true c5
   clear c5
   have H' := Aside0.mk H
   clear H
   have hcz6_0 : wr.cell? ⟨gb447, 0, none⟩ = some (.slice A0_0 l0_0.length c0_0) := (blk_cell BK447.out 0).trans rfl
   have hcz6_1 : wr.cell? ⟨gb447, 1, none⟩ = some (.slice A0_1 l0_1.length c0_1) := (blk_cell BK447.out 1).trans rfl
   have hcz6_2 : wr.cell? ⟨gb447, 2, none⟩ = some (.int .i64 a0_2) := (blk_cell BK447.out 2).trans rfl
   have hcz6_3 : wr.cell? ⟨gb447, 3, none⟩ = some (.slice A0_3 l0_3.length c0_3) := (blk_cell BK447.out 3).trans rfl
   have hfz6_0 := blk_frozen BK447.out 0
   have hfz6_1 := blk_frozen BK447.out 1
   have hfz6_2 := blk_frozen BK447.out 2
   have hfz6_3 := blk_frozen BK447.out 3
   obtain ⟨Ao7, co7, eo7⟩ := Kd.R_slice HO_3.out
   subst eo7
   go_wp2
   go_loopg [5] k1 (fun kq v5 w' => ∃ (x5_2 : Int), v5 = .int .i64 x5_2 ∧ Aside0 (spec_Ranked.l1 kq x3_1 x4_1 x5_2 l0_0 l0_1 a0_2 l0_3 = some r) ∧ Aside0 (kq ≤ k1) ∧ Aside0 (Kd.R (Kd.int .i64) 3 w' w.heap.size (fun _ => True) (.slice Ao7 x3_1.length co7) x3_1) ∧ Aside0 (w'.heap[gb447]? = some (.cells #[(.slice A0_0 l0_0.length c0_0), (.slice A0_1 l0_1.length c0_1), .int .i64 a0_2, (.slice A0_3 l0_3.length c0_3)] 46 (0, 0))) ∧ Aside0 (Below w.heap.size w w'))
   case atStart => exact ⟨((x3_1.length : Int)), (g0), H', ⟨Nat.le_refl _⟩, ⟨g1 HO_3.out⟩, ⟨g2 BK447.out⟩, ⟨g12 HB.out GE447.out⟩⟩
   case round =>
    clear H'
    try clear c2
    try clear p2
    try clear c5
    try clear c5b0
    try clear hcz6_0
    try clear hcz6_1
    try clear hcz6_2
    try clear hcz6_3
    try clear hfz6_0
    try clear hfz6_1
    try clear hfz6_2
    try clear hfz6_3
    try clear p2
    obtain ⟨x5_2, rfl, HA, HK2, HO_3, BK447, HB⟩ := hrel
    cases gk with
    | zero => exact absurd HA.out (by simp [spec_Ranked.l1])
    | succ k2 =>
     have H := HA.out
     clear HA
     simp only [spec_Ranked.l1] at H
     by_cases c8 : x5_2 > 0
     case neg =>
      rw [if_neg c8] at H
      have c8b0 : decide (0 < x5_2) = false := decide_eq_false c8
      clear c8
      obtain ⟨y474, hy474⟩ : ∃ y_ : List Int, y_ = (([] : List Int)) := ⟨_, rfl⟩
      replace H : (if 0 ≤ x5_2 then (if x5_2 ≤ (x3_1.length : Int) then ((some (x3_1.take (x5_2 : Int).toNat : List Int)).bind fun y477 => (if y474.length + y477.length < 17592186044416 then ((some (y474 ++ y477 : List Int)).bind fun y481 => (if y481.length < 17592186044416 then ((some (y481 ++ [x4_1] : List Int)).bind fun y484 => ((some (x3_1.drop (x5_2 : Int).toNat : List Int)).bind fun y487 => (if y484.length + y487.length < 17592186044416 then (spec_Ranked.l0 k2 (y484 ++ y487) (wrap64 (x4_1 + 1)) l0_0 l0_1 a0_2 l0_3) else (none)))) else (none))) else (none))) else (none)) else (none)) = some r := by first | (rw [hy474]; with_reducible exact H) | (have H2_ := (Option.bind_some _ _).symm.trans H; rw [hy474]; with_reducible exact H2_) | (have H2_ := (Option.bind_some _ _).symm.trans H; with_reducible exact H2_) | with_reducible exact H | (rw [hy474]; exact H) | exact H
      have Ny474 := Aside0.mk hy474
      clear hy474
      by_cases c33 : 0 ≤ x5_2
      case neg =>
       rw [if_neg c33] at H
       exact absurd H (by simp)
      rw [if_pos c33] at H
      have c33b0 := eq_true c33
      have c33b1 : decide (0 ≤ x5_2) = true := decide_eq_true c33
      clear c33
      by_cases c34 : x5_2 ≤ (x3_1.length : Int)
      case neg =>
       rw [if_neg c34] at H
       exact absurd H (by simp)
      rw [if_pos c34] at H
      have c34b0 := eq_true c34
      have c34b1 : decide (x5_2 ≤ (x3_1.length : Int)) = true := decide_eq_true c34
      clear c34
      obtain ⟨y477, hy477⟩ : ∃ y_ : List Int, y_ = (x3_1.take (x5_2 : Int).toNat) := ⟨_, rfl⟩
      replace H : (if y474.length + y477.length < 17592186044416 then ((some (y474 ++ y477 : List Int)).bind fun y481 => (if y481.length < 17592186044416 then ((some (y481 ++ [x4_1] : List Int)).bind fun y484 => ((some (x3_1.drop (x5_2 : Int).toNat : List Int)).bind fun y487 => (if y484.length + y487.length < 17592186044416 then (spec_Ranked.l0 k2 (y484 ++ y487) (wrap64 (x4_1 + 1)) l0_0 l0_1 a0_2 l0_3) else (none)))) else (none))) else (none)) = some r := by first | (rw [hy477]; with_reducible exact H) | (have H2_ := (Option.bind_some _ _).symm.trans H; rw [hy477]; with_reducible exact H2_) | (have H2_ := (Option.bind_some _ _).symm.trans H; with_reducible exact H2_) | with_reducible exact H | (rw [hy477]; exact H) | exact H
      have Ny477 := Aside0.mk hy477
      clear hy477
      by_cases c35 : y474.length + y477.length < 17592186044416
      case neg =>
       rw [if_neg c35] at H
       exact absurd H (by simp)
      rw [if_pos c35] at H
      have LMc35 := Aside0.mk c35
      clear c35
      obtain ⟨y481, hy481⟩ : ∃ y_ : List Int, y_ = (y474 ++ y477) := ⟨_, rfl⟩
      replace H : (if y481.length < 17592186044416 then ((some (y481 ++ [x4_1] : List Int)).bind fun y484 => ((some (x3_1.drop (x5_2 : Int).toNat : List Int)).bind fun y487 => (if y484.length + y487.length < 17592186044416 then (spec_Ranked.l0 k2 (y484 ++ y487) (wrap64 (x4_1 + 1)) l0_0 l0_1 a0_2 l0_3) else (none)))) else (none)) = some r := by first | (rw [hy481]; with_reducible exact H) | (have H2_ := (Option.bind_some _ _).symm.trans H; rw [hy481]; with_reducible exact H2_) | (have H2_ := (Option.bind_some _ _).symm.trans H; with_reducible exact H2_) | with_reducible exact H | (rw [hy481]; exact H) | exact H
      have Ny481 := Aside0.mk hy481
      clear hy481
      by_cases c36 : y481.length < 17592186044416
      case neg =>
       rw [if_neg c36] at H
       exact absurd H (by simp)
      rw [if_pos c36] at H
      have LMc36 := Aside0.mk c36
      clear c36
      obtain ⟨y484, hy484⟩ : ∃ y_ : List Int, y_ = (y481 ++ [x4_1]) := ⟨_, rfl⟩
      replace H : ((some (x3_1.drop (x5_2 : Int).toNat : List Int)).bind fun y487 => (if y484.length + y487.length < 17592186044416 then (spec_Ranked.l0 k2 (y484 ++ y487) (wrap64 (x4_1 + 1)) l0_0 l0_1 a0_2 l0_3) else (none))) = some r := by first | (rw [hy484]; with_reducible exact H) | (have H2_ := (Option.bind_some _ _).symm.trans H; rw [hy484]; with_reducible exact H2_) | (have H2_ := (Option.bind_some _ _).symm.trans H; with_reducible exact H2_) | with_reducible exact H | (rw [hy484]; exact H) | exact H
      have Ny484 := Aside0.mk hy484
      clear hy484
      have c37b0 := eq_true (of_decide_eq_true (g6) : 0 ≤ x5_2)
      have c38b0 := eq_true (of_decide_eq_true (g6) : x5_2 ≤ (x3_1.length : Int))
      obtain ⟨y487, hy487⟩ : ∃ y_ : List Int, y_ = (x3_1.drop (x5_2 : Int).toNat) := ⟨_, rfl⟩
      replace H : (if y484.length + y487.length < 17592186044416 then (spec_Ranked.l0 k2 (y484 ++ y487) (wrap64 (x4_1 + 1)) l0_0 l0_1 a0_2 l0_3) else (none)) = some r := by first | (rw [hy487]; with_reducible exact H) | (have H2_ := (Option.bind_some _ _).symm.trans H; rw [hy487]; with_reducible exact H2_) | (have H2_ := (Option.bind_some _ _).symm.trans H; with_reducible exact H2_) | with_reducible exact H | (rw [hy487]; exact H) | exact H
      have Ny487 := Aside0.mk hy487
      clear hy487
      by_cases c39 : y484.length + y487.length < 17592186044416
      case neg =>
       rw [if_neg c39] at H
       exact absurd H (by simp)
      rw [if_pos c39] at H
      have LMc39 := Aside0.mk c39
      clear c39
      obtain ⟨y491, hy491⟩ : ∃ y_ : List Int, y_ = (y484 ++ y487) := ⟨_, rfl⟩
      replace H : (spec_Ranked.l0 k2 y491 (wrap64 (x4_1 + 1)) l0_0 l0_1 a0_2 l0_3) = some r := by first | (rw [hy491]; with_reducible exact H) | (have H2_ := (Option.bind_some _ _).symm.trans H; rw [hy491]; with_reducible exact H2_) | (have H2_ := (Option.bind_some _ _).symm.trans H; with_reducible exact H2_) | with_reducible exact H | (rw [hy491]; exact H) | exact H
      have Ny491 := Aside0.mk hy491
      clear hy491
      have H' := Aside0.mk H
      clear H
      try go_wp2
      have n_ := spec_Ranked.K3_ (Kd.R_drew HO_3.out) (blk_drew BK447.out) (below_drew1 HB.out)
      clear HO_3 BK447 HB
      obtain ⟨HO_3, BK447, HB⟩ := n_
      refine start_ (n := 15) (S := fun w' => True) (ds := []) spec_Ranked.b0_ (by kernel_rfl) rfl rfl trivial (fun hHeld => ?_); refine with_tabW spec_Ranked.tab6 spec_Ranked.bits6 (fun HT_ HW_ => ?_)
      generalize wr.drew = w40 at HO_3 BK447 HB hHeld ⊢
      refine pure_ (i := 0) (N := some 17) (v := ?_) (a' := ?_) spec_Ranked.b1_ rfl rfl (any_of HT_.out (by kernel_rfl)) (fun _ _ _ h => h) (Or.inl ⟨by rfl, ?_⟩) ?_ ?_
      rotate_left
      ·intro w'
       go_simp
       with_reducible rfl
      rotate_left
      ·exact ga0
      refine pure_ (i := 1) (N := some 18) (v := ?_) (a' := ?_) spec_Ranked.b2_ rfl rfl (any_of HT_.out (by kernel_rfl)) (fun _ _ _ h => h) (Or.inl ⟨by rfl, ?_⟩) ?_ ?_
      rotate_left
      ·intro w'
       go_simp
       with_reducible rfl
      rotate_left
      ·exact ga0
      refine pure_ (i := 2) (N := some 19) (v := ?_) (a' := ?_) spec_Ranked.b3_ rfl rfl (any_of HT_.out (by kernel_rfl)) (fun _ _ _ h => h) (Or.inl ⟨by rfl, ?_⟩) ?_ ?_
      rotate_left
      ·intro w'
       go_simp
       with_reducible rfl
      rotate_left
      ·exact ga0
      refine pure_ (i := 3) (N := some 20) (v := undef) (a' := ?_) #[true, true, true, true, false, false, false, false, false, false, false, false, false, false, false] rfl rfl (any_of HT_.out (by kernel_rfl)) (fun _ _ _ h => h) (Or.inr ⟨by rfl, rfl⟩) ?_ ?_
      rotate_left
      ·exact ga0
      refine pure_ (i := 4) (N := some 21) (v := undef) (a' := ?_) #[true, true, true, true, true, false, false, false, false, false, false, false, false, false, false] rfl rfl (any_of HT_.out (by kernel_rfl)) (fun _ _ _ h => h) (Or.inr ⟨by rfl, rfl⟩) ?_ ?_
      rotate_left
      ·exact ga0
      refine pure_ (i := 5) (N := some 22) (v := undef) (a' := ?_) #[true, true, true, true, true, true, false, false, false, false, false, false, false, false, false] rfl rfl (any_of HT_.out (by kernel_rfl)) (fun _ _ _ h => h) (Or.inr ⟨by rfl, rfl⟩) ?_ ?_
      rotate_left
      ·exact ga0
      refine pure_ (i := 6) (N := some 23) (v := undef) (a' := ?_) #[true, true, true, true, true, true, true, false, false, false, false, false, false, false, false] rfl rfl (any_of HT_.out (by kernel_rfl)) (fun _ _ _ h => h) (Or.inr ⟨by rfl, rfl⟩) ?_ ?_
      rotate_left
      ·exact ga0
      refine pure_ (i := 7) (N := some 24) (v := undef) (a' := ?_) #[true, true, true, true, true, true, true, true, false, false, false, false, false, false, false] rfl rfl (any_of HT_.out (by kernel_rfl)) (fun _ _ _ h => h) (Or.inr ⟨by rfl, rfl⟩) ?_ ?_
      rotate_left
      ·exact ga0
      refine pure_ (i := 8) (N := some 25) (v := undef) (a' := ?_) #[true, true, true, true, true, true, true, true, true, false, false, false, false, false, false] rfl rfl (any_of HT_.out (by kernel_rfl)) (fun _ _ _ h => h) (Or.inr ⟨by rfl, rfl⟩) ?_ ?_
      rotate_left
      ·exact ga0
      refine pure_ (i := 9) (N := some 26) (v := undef) (a' := ?_) #[true, true, true, true, true, true, true, true, true, true, false, false, false, false, false] rfl rfl (any_of HT_.out (by kernel_rfl)) (fun _ _ _ h => h) (Or.inr ⟨by rfl, rfl⟩) ?_ ?_
      rotate_left
      ·exact ga0
      refine pure_ (i := 10) (N := some 27) (v := undef) (a' := ?_) #[true, true, true, true, true, true, true, true, true, true, true, false, false, false, false] rfl rfl (any_of HT_.out (by kernel_rfl)) (fun _ _ _ h => h) (Or.inr ⟨by rfl, rfl⟩) ?_ ?_
      rotate_left
      ·exact ga0
      refine pure_ (i := 11) (N := some 28) (v := undef) (a' := ?_) spec_Ranked.b4_ rfl rfl (any_of HT_.out (by kernel_rfl)) (fun _ _ _ h => h) (Or.inr ⟨by rfl, rfl⟩) ?_ ?_
      rotate_left
      ·exact ga0
      refine pure_ (i := 12) (N := some 29) (v := undef) (a' := ?_) spec_Ranked.b5_ rfl rfl (any_of HT_.out (by kernel_rfl)) (fun _ _ _ h => h) (Or.inr ⟨by rfl, rfl⟩) ?_ ?_
      rotate_left
      ·exact ga0
      refine pure_ (i := 13) (N := some 30) (v := undef) (a' := ?_) spec_Ranked.b6_ rfl rfl (any_of HT_.out (by kernel_rfl)) (fun _ _ _ h => h) (Or.inr ⟨by rfl, rfl⟩) ?_ ?_
      rotate_left
      ·exact ga0
      refine pure_ (i := 14) (N := some 31) (v := ?_) (a' := ?_) spec_Ranked.b7_ rfl rfl (any_of HT_.out (by kernel_rfl)) (fun _ _ _ h => h) (Or.inl ⟨by rfl, ?_⟩) ?_ ?_
      rotate_left
      ·intro w'
       go_simp
       with_reducible rfl
      rotate_left
      ·exact ga0
      refine done_ (done_of HT_.out (by kernel_rfl)) ?_
      try go_wp2_with (first | ((with_reducible refine gate_dst (N := 34) rfl ?_); refine Kd.R_lit (Kd.int .i64) _ 3 ?hg (N := 34) ?hd (xs := ([] : List Int)) (inner := []) (ok := fun _ => True) (okp := fun _ => True) ?hr ?hp (fun _ hk => hk) trivial (Below.refl _ _) (Nat.le_refl _) (by simp) ?_; (case hd => rfl); (case hg => rfl); (case hr => exact g10); (case hp => exact (Reps.none _ _)); intro v475 w41 ho42 hb hg_ hnew_; clear hg_ hnew_; (first | rw [← Ny474.out] at ho42 | (simp only [Int.reduceToNat] at ho42; rw [← Ny474.out] at ho42)); have n_ := spec_Ranked.K4_ (Kd.R_elder' (g1 HO_3.out) (Kd.R_base ho42) hb) (Kd.R_lower (Kd.R_new' ho42 (Kd.R_lt (g1 HO_3.out))) (below_size (g12 HB.out GE447.out))) (blk_below (g := gb447) (o := .cells #[.slice A0_0 l0_0.length c0_0, .slice A0_1 l0_1.length c0_1, .int .i64 a0_2, .slice A0_3 l0_3.length c0_3] 46 (0, 0)) (g2 BK447.out) hb) (below_step (g12 HB.out GE447.out) hb); clear HO_3 BK447 HB; obtain ⟨HO_3, HO476, BK447, HB⟩ := n_; clear hb ho42; have q43 : (x5_2 : Int) ≤ ((x3_1.length : Int) : Int) := of_decide_eq_true (g6); obtain ⟨i043, hi043, _, hsz43, _⟩ := info_parts info3; have hroom43 : x3_1.length ≤ co7 := (Kd.R_reads' HO_3.out).2.1; have hC43 : Kd.C (Kd.int .i64) _ Ao7 x3_1.length x3_1 := (Kd.R_reads' HO_3.out).2.2; have hcut43 := cut_to (P := Try.prog) 26 3 .i64 Try.underlying26 hi043 Ao7 x3_1.length co7 x5_2 (of_decide_eq_true (g6)) q43 hroom43; have hr43 := Kd.C_take (m := (x5_2 : Int).toNat) hC43 (by omega); have hy43 : y477.length = (x5_2 : Int).toNat := (by rw [Ny477.out, List.length_take]; omega); rw [← Ny477.out] at hr43; rw [← hy43] at hcut43; have HR480 := Aside0.mk hr43; have HC480 := Aside0.mk (show y477.length ≤ co7 from by omega); clear hr43 hC43 hroom43 hi043 hsz43; have KY43 := Aside0.mk hy43; clear hy43; have KL43 := Aside0.mk (show (x5_2 : Int).toNat ≤ x3_1.length from by omega); replace q43 := eq_true q43) | ((with_reducible refine gate_builtin (b := .append) (xs := #[.tmp 34, .tmp 37]) rfl ?_); at_builtin; refine Kd.R_append_rows (Kd.int .i64) (w0 := w) w.heap.size rfl (.tmp 34) (.tmp 37) 26 3 (.int .i64 0) 8 rfl Try.underlying26 info3 rfl (by decide) (by omega) v475 y474 y477 _ _ _ (fun k_ => some k_ ≠ (.slice Ao7 x3_1.length co7 : Value).ownBlock) (fun _ => False) rfl rfl ?aO ?aR (fun _ _ h => h) (fun _ h => h.elim) ?aF ?aB ?aS ?aL ?_; (case aR => exact g19 HR480.out); (case aB => exact g13 HB.out GE447.out); (case aF => exact (fun k_ hk => Kd.fresh' (Kd.R_lt (g1 HO_3.out)) k_ hk)); (case aO => exact (by (with_reducible repeat (first | apply Kd.R_alloc | apply Kd.R_drewN | apply Kd.R_drew)); exact Kd.R_mono HO476.out (fun _ hk => hk.2))); (case aS => exact g15 HB.out GE447.out); (case aL => have := LMc35.out; omega); intro v482 w44 ho hb hg hat; rw [← Ny481.out] at ho; have n_ := spec_Ranked.K5_ (Kd.R_after (ok := (fun _ => True)) (g1 HO_3.out) hg hat) (blk_grown (g := gb447) (o := .cells #[.slice A0_0 l0_0.length c0_0, .slice A0_1 l0_1.length c0_1, .int .i64 a0_2, .slice A0_3 l0_3.length c0_3] 46 (0, 0)) (g2 BK447.out) hg (Kd.R_ne HO476.out BK447.out (by decide))) hb ((show Kd.C (Kd.int .i64) w44 Ao7 y477.length y477 from by rw [Ny477.out]; exact Kd.C_take (m := (x5_2 : Int).toNat) ((Kd.R_reads' (Kd.R_after (ok := (fun _ => True)) (g1 HO_3.out) hg hat)).2.2) KL43.out)) ho; clear HO_3 BK447 HB HR480 HO476; obtain ⟨HO_3, BK447, HB, HR480, HO483⟩ := n_; clear ho hb hg hat) | ((with_reducible refine gate_builtin (b := .append) (xs := #[.tmp 38, .tmp 40]) rfl ?_); at_builtin; refine Kd.R_append (Kd.int .i64) (w0 := w) w.heap.size rfl (.tmp 38) (.tmp 40) 26 3 (.int .i64 0) 8 rfl Try.underlying26 info3 rfl (by decide) (by omega) v482 y481 x4_1 [.int .i64 x4_1] (fun k_ => some k_ ≠ (.slice Ao7 x3_1.length co7 : Value).ownBlock) (fun _ => False) rfl rfl ?aP (fun _ hk => hk.elim) ?aF ?aO ?aB ?aS ?aL ?_; (case aP => exact rfl); (case aB => exact g13 HB.out GE447.out); (case aF => exact (fun k_ hk => Kd.fresh' (Kd.R_lt (g1 HO_3.out)) k_ hk)); (case aO => exact g14 HO483.out); (case aS => exact g15 HB.out GE447.out); (case aL => have := LMc36.out; omega); intro v485 w45 ho hb hg hat; rw [← Ny484.out] at ho; have n_ := spec_Ranked.K5_ (Kd.R_after (ok := (fun _ => True)) (g1 HO_3.out) hg hat) (blk_grown (g := gb447) (o := .cells #[.slice A0_0 l0_0.length c0_0, .slice A0_1 l0_1.length c0_1, .int .i64 a0_2, .slice A0_3 l0_3.length c0_3] 46 (0, 0)) (g2 BK447.out) hg (Kd.R_ne HO483.out BK447.out (by decide))) hb ((show Kd.C (Kd.int .i64) w45 Ao7 y477.length y477 from by rw [Ny477.out]; exact Kd.C_take (m := (x5_2 : Int).toNat) ((Kd.R_reads' (Kd.R_after (ok := (fun _ => True)) (g1 HO_3.out) hg hat)).2.2) KL43.out)) ho; clear HO_3 BK447 HB HR480 HO483; obtain ⟨HO_3, BK447, HB, HR480, HO486⟩ := n_; clear ho hb hg hat; have q46 : (x5_2 : Int) ≤ ((x3_1.length : Int) : Int) := of_decide_eq_true (g6); obtain ⟨i046, hi046, _, hsz46, _⟩ := info_parts info3; have hroom46 : x3_1.length ≤ co7 := (Kd.R_reads' HO_3.out).2.1; have hC46 : Kd.C (Kd.int .i64) _ Ao7 x3_1.length x3_1 := (Kd.R_reads' HO_3.out).2.2; have q046 : (0 : Int) ≤ (x5_2 : Int) := of_decide_eq_true (g6); have hcut46 := cut_from (P := Try.prog) 26 3 .i64 Try.underlying26 hi046 1 hsz46 Ao7 x3_1.length co7 x5_2 q046 q46; have hr46 := Kd.C_drop (m := (x5_2 : Int).toNat) (c := co7) hC46 (by omega) hroom46; obtain ⟨A46, hA46⟩ : ∃ A1, A1 = (if co7 = (x5_2 : Int).toNat then Ao7 else (Ao7 : Option Addr).map (·.add ((x5_2 : Int).toNat * 1))) := ⟨_, rfl⟩; obtain ⟨c46, hc46⟩ : ∃ c1, c1 = co7 - (x5_2 : Int).toNat := ⟨_, rfl⟩; have hy46 : y487.length = x3_1.length - (x5_2 : Int).toNat := (by rw [Ny487.out, List.length_drop] <;> omega); rw [show (x3_1).drop (x5_2 : Int).toNat = y487 from Ny487.out.symm] at hr46; replace hr46 : Kd.C (Kd.int .i64) _ A46 y487.length y487 := (by rw [hA46]; exact hr46); rw [← hy46, ← hA46, ← hc46] at hcut46; have HR490 := Aside0.mk hr46; have HC490 := Aside0.mk (show y487.length ≤ c46 from by rw [hy46, hc46]; exact Nat.sub_le_sub_right hroom46 _); clear hr46 hC46 hroom46 hi046 hsz46 hc46; have KY46 := Aside0.mk hy46; have KA46 := Aside0.mk hA46; clear hy46 hA46; have KL46 := Aside0.mk (show (x5_2 : Int).toNat ≤ x3_1.length from by omega); replace q46 := eq_true q46) | ((with_reducible refine gate_builtin (b := .append) (xs := #[.tmp 42, .tmp 45]) rfl ?_); at_builtin; refine Kd.R_append_rows (Kd.int .i64) (w0 := w) w.heap.size rfl (.tmp 42) (.tmp 45) 26 3 (.int .i64 0) 8 rfl Try.underlying26 info3 rfl (by decide) (by omega) v485 y484 y487 _ _ _ (fun k_ => some k_ ≠ (.slice Ao7 x3_1.length co7 : Value).ownBlock) (fun _ => False) rfl rfl ?aO ?aR (fun _ _ h => h) (fun _ h => h.elim) ?aF ?aB ?aS ?aL ?_; (case aR => exact g19 HR490.out); (case aB => exact g13 HB.out GE447.out); (case aF => exact (fun k_ hk => Kd.fresh' (Kd.R_lt (g1 HO_3.out)) k_ hk)); (case aO => exact g14 HO486.out); (case aS => exact g15 HB.out GE447.out); (case aL => have := LMc39.out; omega); intro v492 w47 ho hb hg hat; rw [← Ny491.out] at ho; have n_ := spec_Ranked.K6_ (Kd.R_after (ok := (fun _ => True)) (g1 HO_3.out) hg hat) (blk_grown (g := gb447) (o := .cells #[.slice A0_0 l0_0.length c0_0, .slice A0_1 l0_1.length c0_1, .int .i64 a0_2, .slice A0_3 l0_3.length c0_3] 46 (0, 0)) (g2 BK447.out) hg (Kd.R_ne HO486.out BK447.out (by decide))) hb ((show Kd.C (Kd.int .i64) w47 Ao7 y477.length y477 from by rw [Ny477.out]; exact Kd.C_take (m := (x5_2 : Int).toNat) ((Kd.R_reads' (Kd.R_after (ok := (fun _ => True)) (g1 HO_3.out) hg hat)).2.2) KL43.out)) ((show Kd.C (Kd.int .i64) w47 A46 y487.length y487 from by rw [Ny487.out, KA46.out]; exact Kd.C_drop (m := (x5_2 : Int).toNat) (c := co7) ((Kd.R_reads' (Kd.R_after (ok := (fun _ => True)) (g1 HO_3.out) hg hat)).2.2) KL46.out ((Kd.R_reads' (Kd.R_after (ok := (fun _ => True)) (g1 HO_3.out) hg hat)).2.1))) ho; clear HO_3 BK447 HB HR480 HR490 HO486; obtain ⟨HO_3, BK447, HB, HR480, HR490, HO493⟩ := n_; clear ho hb hg hat))
      go_roundg k2
      case measure => have := HK1.out; have := HK2.out; omega
      case rel => exact ⟨(y491), (wrap64 (x4_1 + 1)), (g0), H', ⟨by have := HK1.out; have := HK2.out; omega⟩, ⟨by (with_reducible repeat (first | apply Kd.R_alloc | apply Kd.R_drewN | apply Kd.R_drew)); exact Kd.R_mono HO493.out (fun _ hk => trivial)⟩, ⟨g2 BK447.out⟩, ⟨g12 HB.out GE447.out⟩⟩
     rw [if_pos c8] at H
     have c8b0 : decide (0 < x5_2) = true := decide_eq_true c8
     clear c8
     obtain ⟨ji9, hji9⟩ : ∃ j_ : Int, (wrap64 (x5_2 - 1)) = j_ := ⟨_, rfl⟩
     replace H : (if 0 ≤ (ji9) then (if (ji9) < (x3_1.length : Int) then ((spec_UsesOf.f k2 l0_0 l0_1 a0_2 l0_3 (rd x3_1 (ji9))).bind fun t452 => ((spec_UsesOf.f k2 l0_0 l0_1 a0_2 l0_3 x4_1).bind fun t453 => (if t452 < t453 then (spec_Ranked.l1 k2 x3_1 x4_1 ji9 l0_0 l0_1 a0_2 l0_3) else ((some (([] : List Int) : List Int)).bind fun y454 => (if 0 ≤ x5_2 then (if x5_2 ≤ (x3_1.length : Int) then ((some (x3_1.take (x5_2 : Int).toNat : List Int)).bind fun y457 => (if y454.length + y457.length < 17592186044416 then ((some (y454 ++ y457 : List Int)).bind fun y461 => (if y461.length < 17592186044416 then ((some (y461 ++ [x4_1] : List Int)).bind fun y464 => ((some (x3_1.drop (x5_2 : Int).toNat : List Int)).bind fun y467 => (if y464.length + y467.length < 17592186044416 then (spec_Ranked.l0 k2 (y464 ++ y467) (wrap64 (x4_1 + 1)) l0_0 l0_1 a0_2 l0_3) else (none)))) else (none))) else (none))) else (none)) else (none)))))) else (none)) else (none)) = some r := by first | (rw [hji9] at H; exact H) | (simp only [hji9] at H ⊢; exact H)
     have hji9w : (IntKind.i64.wrap (x5_2 - 1)) = ji9 := (i64_w _).trans hji9
     by_cases c10 : 0 ≤ (ji9)
     case neg =>
      rw [if_neg c10] at H
      exact absurd H (by simp)
     rw [if_pos c10] at H
     have c10b0 : decide (0 ≤ (ji9)) = true := decide_eq_true c10
     clear c10
     by_cases c11 : (ji9) < (x3_1.length : Int)
     case neg =>
      rw [if_neg c11] at H
      exact absurd H (by simp)
     rw [if_pos c11] at H
     have c11b0 : decide ((ji9) < (x3_1.length : Int)) = true := decide_eq_true c11
     clear c11
     replace H := Option.bind_eq_some_iff.mp H
     obtain ⟨t452, A120, H⟩ := H
     replace H : ((spec_UsesOf.f k2 l0_0 l0_1 a0_2 l0_3 x4_1).bind fun t453 => (if t452 < t453 then (spec_Ranked.l1 k2 x3_1 x4_1 ji9 l0_0 l0_1 a0_2 l0_3) else ((some (([] : List Int) : List Int)).bind fun y454 => (if 0 ≤ x5_2 then (if x5_2 ≤ (x3_1.length : Int) then ((some (x3_1.take (x5_2 : Int).toNat : List Int)).bind fun y457 => (if y454.length + y457.length < 17592186044416 then ((some (y454 ++ y457 : List Int)).bind fun y461 => (if y461.length < 17592186044416 then ((some (y461 ++ [x4_1] : List Int)).bind fun y464 => ((some (x3_1.drop (x5_2 : Int).toNat : List Int)).bind fun y467 => (if y464.length + y467.length < 17592186044416 then (spec_Ranked.l0 k2 (y464 ++ y467) (wrap64 (x4_1 + 1)) l0_0 l0_1 a0_2 l0_3) else (none)))) else (none))) else (none))) else (none)) else (none))))) = some r := H
     have A12 := Aside0.mk A120
     clear A120
     replace H := Option.bind_eq_some_iff.mp H
     obtain ⟨t453, A130, H⟩ := H
     replace H : (if t452 < t453 then (spec_Ranked.l1 k2 x3_1 x4_1 ji9 l0_0 l0_1 a0_2 l0_3) else ((some (([] : List Int) : List Int)).bind fun y454 => (if 0 ≤ x5_2 then (if x5_2 ≤ (x3_1.length : Int) then ((some (x3_1.take (x5_2 : Int).toNat : List Int)).bind fun y457 => (if y454.length + y457.length < 17592186044416 then ((some (y454 ++ y457 : List Int)).bind fun y461 => (if y461.length < 17592186044416 then ((some (y461 ++ [x4_1] : List Int)).bind fun y464 => ((some (x3_1.drop (x5_2 : Int).toNat : List Int)).bind fun y467 => (if y464.length + y467.length < 17592186044416 then (spec_Ranked.l0 k2 (y464 ++ y467) (wrap64 (x4_1 + 1)) l0_0 l0_1 a0_2 l0_3) else (none)))) else (none))) else (none))) else (none)) else (none)))) = some r := H
     have A13 := Aside0.mk A130
     clear A130
     have HZ14 := Aside0.mk H
     clear H
     try go_wp2
     have n_ := spec_Ranked.K3_ (Kd.R_drew HO_3.out) (blk_drew BK447.out) (below_drew1 HB.out)
     clear HO_3 BK447 HB
     obtain ⟨HO_3, BK447, HB⟩ := n_
     have p451 : 0 ≤ ((ji9) : Int) := of_decide_eq_true (g6)
     have q451 : (ji9) < (x3_1.length : Int) := of_decide_eq_true (g6)
     obtain ⟨ad451, e451, hx451_0⟩ := Kd.at_int (Kd.R_reads' HO_3.out).2.2 (ji9) p451 q451
     cases e451
     replace p451 := eq_true p451
     replace q451 := eq_true q451
     refine start_ (n := 15) (S := fun w' => w'.cell? ⟨gb447, 0, none⟩ = some (.slice A0_0 l0_0.length c0_0) ∧ w'.cell? ⟨gb447, 1, none⟩ = some (.slice A0_1 l0_1.length c0_1) ∧ w'.cell? ⟨gb447, 2, none⟩ = some (.int .i64 a0_2) ∧ w'.cell? ⟨gb447, 3, none⟩ = some (.slice A0_3 l0_3.length c0_3) ∧ w'.cell? (ad451.add ((ji9)).toNat) = some (.int .i64 (rd x3_1 (ji9)))) (ds := []) spec_Ranked.b0_ (by kernel_rfl) rfl rfl ⟨(blk_cell BK447.out 0).trans rfl, (blk_cell BK447.out 1).trans rfl, (blk_cell BK447.out 2).trans rfl, (blk_cell BK447.out 3).trans rfl, hx451_0⟩ (fun hHeld => ?_); refine with_tabW spec_Ranked.tab6 spec_Ranked.bits6 (fun HT_ HW_ => ?_)
     generalize wr.drew = w15 at HO_3 BK447 HB hx451_0 hHeld ⊢
     refine pure_ (i := 0) (N := some 17) (v := ?_) (a' := ?_) spec_Ranked.b1_ rfl rfl (any_of HT_.out (by kernel_rfl)) (fun _ _ _ h => h) (Or.inl ⟨by rfl, ?_⟩) ?_ ?_
     rotate_left
     ·intro w'
      go_simp
      with_reducible rfl
     rotate_left
     ·exact ga0
     refine pure_ (i := 1) (N := some 18) (v := ?_) (a' := ?_) spec_Ranked.b2_ rfl rfl (any_of HT_.out (by kernel_rfl)) (fun _ _ _ h => h) (Or.inl ⟨by rfl, ?_⟩) ?_ ?_
     rotate_left
     ·intro w'
      go_simp
      with_reducible rfl
     rotate_left
     ·exact ga0
     refine pure_ (i := 2) (N := some 19) (v := ?_) (a' := ?_) spec_Ranked.b3_ rfl rfl (any_of HT_.out (by kernel_rfl)) (fun _ _ _ h => h) (Or.inl ⟨by rfl, ?_⟩) ?_ ?_
     rotate_left
     ·intro w'
      go_simp
      with_reducible rfl
     rotate_left
     ·exact ga0
     refine pure_ (i := 4) (N := some 21) (v := ?_) (a' := ?_) #[true, true, true, false, true, false, false, false, false, false, false, false, false, false, false] rfl rfl (any_of HT_.out (by kernel_rfl)) (fun _ _ _ h => h) (Or.inl ⟨by rfl, ?_⟩) ?_ ?_
     rotate_left
     ·intro w'
      go_simp
      with_reducible rfl
     rotate_left
     ·exact ga0
     refine pure_ (i := 5) (N := some 22) (v := ?_) (a' := ?_) #[true, true, true, false, true, true, false, false, false, false, false, false, false, false, false] rfl rfl (any_of HT_.out (by kernel_rfl)) (fun _ _ _ h => h) (Or.inl ⟨by rfl, ?_⟩) ?_ ?_
     rotate_left
     ·intro w'
      go_simp
      with_reducible rfl
     rotate_left
     ·exact ga0
     refine pure_ (i := 6) (N := some 23) (v := ?_) (a' := ?_) #[true, true, true, false, true, true, true, false, false, false, false, false, false, false, false] rfl rfl (any_of HT_.out (by kernel_rfl)) (fun _ _ _ h => h) (Or.inl ⟨by rfl, ?_⟩) ?_ ?_
     rotate_left
     ·intro w'
      go_simp
      with_reducible rfl
     rotate_left
     ·exact ga0
     refine pure_ (i := 7) (N := some 24) (v := ?_) (a' := ?_) #[true, true, true, false, true, true, true, true, false, false, false, false, false, false, false] rfl rfl (any_of HT_.out (by kernel_rfl)) (fun _ _ _ h => h) (Or.inl ⟨by rfl, ?_⟩) ?_ ?_
     rotate_left
     ·intro w'
      go_simp
      with_reducible rfl
     rotate_left
     ·exact ga0
     refine pure_ (i := 11) (N := some 28) (v := ?_) (a' := ?_) #[true, true, true, false, true, true, true, true, false, false, false, true, false, false, false] rfl rfl (any_of HT_.out (by kernel_rfl)) (fun _ _ _ h => h) (Or.inl ⟨by rfl, ?_⟩) ?_ ?_
     rotate_left
     ·intro w'
      go_simp
      with_reducible rfl
     rotate_left
     ·exact ga0
     refine take_ (i := 3) (N := some 20) (v := ?_) (a' := ?_) #[true, true, true, true, true, true, true, true, false, false, false, true, false, false, false] rfl rfl (take_ofW HT_.out HW_.out (by kernel_rfl)) (fun _ _ _ h => h) (Or.inl ⟨by rfl, ?_⟩) hHeld ?_ ?_
     rotate_left
     ·rintro w' ⟨s0, s1, s2, s3, s4⟩
      go_simp
      with_reducible rfl
     rotate_left
     ·exact ga0
     refine take_ (i := 8) (N := some 25) (v := ?_) (a' := ?_) #[true, true, true, true, true, true, true, true, true, false, false, true, false, false, false] rfl rfl (take_ofW HT_.out HW_.out (by kernel_rfl)) (fun _ _ _ h => h) (Or.inl ⟨by rfl, ?_⟩) hHeld ?_ ?_
     rotate_left
     ·rintro w' ⟨s0, s1, s2, s3, s4⟩
      go_simp
      with_reducible rfl
     rotate_left
     ·exact ga0
     refine take_ (i := 10) (N := some 27) (v := ?_) (a' := ?_) #[true, true, true, true, true, true, true, true, true, false, true, true, false, false, false] rfl rfl (take_ofW HT_.out HW_.out (by kernel_rfl)) (fun _ _ _ h => h) (Or.inl ⟨by rfl, ?_⟩) hHeld ?_ ?_
     rotate_left
     ·rintro w' ⟨s0, s1, s2, s3, s4⟩
      go_simp
      with_reducible rfl
     rotate_left
     ·exact ga0
     refine one_ (i := 9) (N := some 26) spec_Ranked.b4_ rfl rfl (one_of HT_.out (by kernel_rfl)) (by decide) (fun K hK => ?_)
     refine goes_ Try.func79 (by kernel_rfl) rfl #[.agg #[.slice A0_0 l0_0.length c0_0, .slice A0_1 l0_1.length c0_1, .int .i64 a0_2, .slice A0_3 l0_3.length c0_3], .int .i64 (rd x3_1 (ji9))] (by rfl) rfl rfl (by (try simp only [List.map_toArray, List.map_cons, List.map_nil]); first | done | (simp only [hji9]; rfl) | rfl | (simp only [List.length_drop, List.length_take]; rfl)) ?_
     with_reducible refine (spec_UsesOf.calls k2 _ _ l0_0 _ _ l0_1 a0_2 _ _ l0_3 (rd x3_1 (ji9)) t452 _ ?side1 ?side2 ?side3 ?side4 ?side5 ?side6 A12.out).mono ?_
     (case side1 => exact g20 HR0_0.out HB.out)
     (case side2 => exact HC0_0.out)
     (case side3 => exact g20 HR0_1.out HB.out)
     (case side4 => exact HC0_1.out)
     (case side5 => exact g20 HR0_3.out HB.out)
     (case side6 => exact HC0_3.out)
     rintro e w16 ⟨rfl, hb⟩
     have HS4_ := (hb.cell (World.block_lt_of_cell? _ _ (hHeld.2.2.2.2))).trans (hHeld.2.2.2.2)
     refine ⟨_, rfl, ?_⟩
     have n_ := spec_Ranked.K3_ (Kd.R_below (g1 HO_3.out) hb) (blk_below (g := gb447) (o := .cells #[.slice A0_0 l0_0.length c0_0, .slice A0_1 l0_1.length c0_1, .int .i64 a0_2, .slice A0_3 l0_3.length c0_3] 46 (0, 0)) (g2 BK447.out) hb) (below_step (g12 HB.out GE447.out) hb)
     clear HO_3 BK447 HB
     obtain ⟨HO_3, BK447, HB⟩ := n_
     (try clear hb)
     (try clear hb2)
     (try clear hk)
     (try clear hi)
     refine hK.out _ _ ⟨(blk_cell BK447.out 0).trans rfl, (blk_cell BK447.out 1).trans rfl, (blk_cell BK447.out 2).trans rfl, (blk_cell BK447.out 3).trans rfl, HS4_⟩ (fun hHeld => ?_)
     clear hK K
     refine norm_ (a' := ?_) ?_ ?_
     rotate_left
     ·show Act.put _ (some 26) _ = _
      simp only [Act.put, List.setIfInBounds_toArray, List.set_cons_zero, List.set_cons_succ, i64_w, i32_w]
      rfl
     refine one_ (i := 12) (N := some 29) spec_Ranked.b5_ rfl rfl (one_of HT_.out (by kernel_rfl)) (by decide) (fun K hK => ?_)
     refine goes_ Try.func79 (by kernel_rfl) rfl #[.agg #[.slice A0_0 l0_0.length c0_0, .slice A0_1 l0_1.length c0_1, .int .i64 a0_2, .slice A0_3 l0_3.length c0_3], .int .i64 x4_1] (by rfl) rfl rfl (g9) ?_
     with_reducible refine (spec_UsesOf.calls k2 _ _ l0_0 _ _ l0_1 a0_2 _ _ l0_3 x4_1 t453 _ ?side1 ?side2 ?side3 ?side4 ?side5 ?side6 A13.out).mono ?_
     (case side1 => exact g20 HR0_0.out HB.out)
     (case side2 => exact HC0_0.out)
     (case side3 => exact g20 HR0_1.out HB.out)
     (case side4 => exact HC0_1.out)
     (case side5 => exact g20 HR0_3.out HB.out)
     (case side6 => exact HC0_3.out)
     rintro e w17 ⟨rfl, hb⟩
     have HS4_ := (hb.cell (World.block_lt_of_cell? _ _ (hHeld.2.2.2.2))).trans (hHeld.2.2.2.2)
     refine ⟨_, rfl, ?_⟩
     have n_ := spec_Ranked.K3_ (Kd.R_below (g1 HO_3.out) hb) (blk_below (g := gb447) (o := .cells #[.slice A0_0 l0_0.length c0_0, .slice A0_1 l0_1.length c0_1, .int .i64 a0_2, .slice A0_3 l0_3.length c0_3] 46 (0, 0)) (g2 BK447.out) hb) (below_step (g12 HB.out GE447.out) hb)
     clear HO_3 BK447 HB
     obtain ⟨HO_3, BK447, HB⟩ := n_
     (try clear hb)
     (try clear hb2)
     (try clear hk)
     (try clear hi)
     refine hK.out _ _ ⟨(blk_cell BK447.out 0).trans rfl, (blk_cell BK447.out 1).trans rfl, (blk_cell BK447.out 2).trans rfl, (blk_cell BK447.out 3).trans rfl, HS4_⟩ (fun hHeld => ?_)
     clear hK K
     refine norm_ (a' := ?_) ?_ ?_
     rotate_left
     ·show Act.put _ (some 29) _ = _
      simp only [Act.put, List.setIfInBounds_toArray, List.set_cons_zero, List.set_cons_succ, i64_w, i32_w]
      rfl
     refine pure_ (i := 13) (N := some 30) (v := ?_) (a' := ?_) spec_Ranked.b6_ rfl rfl (any_of HT_.out (by kernel_rfl)) (fun _ _ _ h => h) (Or.inl ⟨by rfl, ?_⟩) ?_ ?_
     rotate_left
     ·intro w'
      go_simp
      with_reducible rfl
     rotate_left
     ·exact ga0
     refine pure_ (i := 14) (N := some 31) (v := ?_) (a' := ?_) spec_Ranked.b7_ rfl rfl (any_of HT_.out (by kernel_rfl)) (fun _ _ _ h => h) (Or.inl ⟨by rfl, ?_⟩) ?_ ?_
     rotate_left
     ·intro w'
      go_simp
      with_reducible rfl
     rotate_left
     ·exact ga0
     refine done_ (done_of HT_.out (by kernel_rfl)) ?_
     go_upto_if 31 with (fail)
     have H := HZ14.out
     clear HZ14
     by_cases c18 : t452 < t453
     case pos =>
      rw [if_pos c18] at H
      have c18b0 : decide (t452 < t453) = true := decide_eq_true c18
      clear c18
      (first | rw [c18b0] | (simp only [i64_w, i32_w]; rw [c18b0]) | skip)
      have H' := Aside0.mk H
      clear H
      go_wp2
      go_roundg k2
      case measure => have := HK1.out; have := HK2.out; omega
      case rel => exact ⟨(ji9), (by first | rfl | (simp; done) | (simp only [← hji9] <;> (first | rfl | simp)) | (simp [*]; done)), H', ⟨by have := HK1.out; have := HK2.out; omega⟩, ⟨g1 HO_3.out⟩, ⟨g2 BK447.out⟩, ⟨g12 HB.out GE447.out⟩⟩
     rw [if_neg c18] at H
     have c18b0 : decide (t452 < t453) = false := decide_eq_false c18
     clear c18
     (first | rw [c18b0] | (simp only [i64_w, i32_w]; rw [c18b0]) | skip)
     obtain ⟨y454, hy454⟩ : ∃ y_ : List Int, y_ = (([] : List Int)) := ⟨_, rfl⟩
     replace H : (if 0 ≤ x5_2 then (if x5_2 ≤ (x3_1.length : Int) then ((some (x3_1.take (x5_2 : Int).toNat : List Int)).bind fun y457 => (if y454.length + y457.length < 17592186044416 then ((some (y454 ++ y457 : List Int)).bind fun y461 => (if y461.length < 17592186044416 then ((some (y461 ++ [x4_1] : List Int)).bind fun y464 => ((some (x3_1.drop (x5_2 : Int).toNat : List Int)).bind fun y467 => (if y464.length + y467.length < 17592186044416 then (spec_Ranked.l0 k2 (y464 ++ y467) (wrap64 (x4_1 + 1)) l0_0 l0_1 a0_2 l0_3) else (none)))) else (none))) else (none))) else (none)) else (none)) = some r := by first | (rw [hy454]; with_reducible exact H) | (have H2_ := (Option.bind_some _ _).symm.trans H; rw [hy454]; with_reducible exact H2_) | (have H2_ := (Option.bind_some _ _).symm.trans H; with_reducible exact H2_) | with_reducible exact H | (rw [hy454]; exact H) | exact H
     have Ny454 := Aside0.mk hy454
     clear hy454
     by_cases c19 : 0 ≤ x5_2
     case neg =>
      rw [if_neg c19] at H
      exact absurd H (by simp)
     rw [if_pos c19] at H
     have c19b0 := eq_true c19
     have c19b1 : decide (0 ≤ x5_2) = true := decide_eq_true c19
     clear c19
     by_cases c20 : x5_2 ≤ (x3_1.length : Int)
     case neg =>
      rw [if_neg c20] at H
      exact absurd H (by simp)
     rw [if_pos c20] at H
     have c20b0 := eq_true c20
     have c20b1 : decide (x5_2 ≤ (x3_1.length : Int)) = true := decide_eq_true c20
     clear c20
     obtain ⟨y457, hy457⟩ : ∃ y_ : List Int, y_ = (x3_1.take (x5_2 : Int).toNat) := ⟨_, rfl⟩
     replace H : (if y454.length + y457.length < 17592186044416 then ((some (y454 ++ y457 : List Int)).bind fun y461 => (if y461.length < 17592186044416 then ((some (y461 ++ [x4_1] : List Int)).bind fun y464 => ((some (x3_1.drop (x5_2 : Int).toNat : List Int)).bind fun y467 => (if y464.length + y467.length < 17592186044416 then (spec_Ranked.l0 k2 (y464 ++ y467) (wrap64 (x4_1 + 1)) l0_0 l0_1 a0_2 l0_3) else (none)))) else (none))) else (none)) = some r := by first | (rw [hy457]; with_reducible exact H) | (have H2_ := (Option.bind_some _ _).symm.trans H; rw [hy457]; with_reducible exact H2_) | (have H2_ := (Option.bind_some _ _).symm.trans H; with_reducible exact H2_) | with_reducible exact H | (rw [hy457]; exact H) | exact H
     have Ny457 := Aside0.mk hy457
     clear hy457
     by_cases c21 : y454.length + y457.length < 17592186044416
     case neg =>
      rw [if_neg c21] at H
      exact absurd H (by simp)
     rw [if_pos c21] at H
     have LMc21 := Aside0.mk c21
     clear c21
     obtain ⟨y461, hy461⟩ : ∃ y_ : List Int, y_ = (y454 ++ y457) := ⟨_, rfl⟩
     replace H : (if y461.length < 17592186044416 then ((some (y461 ++ [x4_1] : List Int)).bind fun y464 => ((some (x3_1.drop (x5_2 : Int).toNat : List Int)).bind fun y467 => (if y464.length + y467.length < 17592186044416 then (spec_Ranked.l0 k2 (y464 ++ y467) (wrap64 (x4_1 + 1)) l0_0 l0_1 a0_2 l0_3) else (none)))) else (none)) = some r := by first | (rw [hy461]; with_reducible exact H) | (have H2_ := (Option.bind_some _ _).symm.trans H; rw [hy461]; with_reducible exact H2_) | (have H2_ := (Option.bind_some _ _).symm.trans H; with_reducible exact H2_) | with_reducible exact H | (rw [hy461]; exact H) | exact H
     have Ny461 := Aside0.mk hy461
     clear hy461
     by_cases c22 : y461.length < 17592186044416
     case neg =>
      rw [if_neg c22] at H
      exact absurd H (by simp)
     rw [if_pos c22] at H
     have LMc22 := Aside0.mk c22
     clear c22
     obtain ⟨y464, hy464⟩ : ∃ y_ : List Int, y_ = (y461 ++ [x4_1]) := ⟨_, rfl⟩
     replace H : ((some (x3_1.drop (x5_2 : Int).toNat : List Int)).bind fun y467 => (if y464.length + y467.length < 17592186044416 then (spec_Ranked.l0 k2 (y464 ++ y467) (wrap64 (x4_1 + 1)) l0_0 l0_1 a0_2 l0_3) else (none))) = some r := by first | (rw [hy464]; with_reducible exact H) | (have H2_ := (Option.bind_some _ _).symm.trans H; rw [hy464]; with_reducible exact H2_) | (have H2_ := (Option.bind_some _ _).symm.trans H; with_reducible exact H2_) | with_reducible exact H | (rw [hy464]; exact H) | exact H
     have Ny464 := Aside0.mk hy464
     clear hy464
     have c23b0 := eq_true (of_decide_eq_true (g6) : 0 ≤ x5_2)
     have c24b0 := eq_true (of_decide_eq_true (g6) : x5_2 ≤ (x3_1.length : Int))
     obtain ⟨y467, hy467⟩ : ∃ y_ : List Int, y_ = (x3_1.drop (x5_2 : Int).toNat) := ⟨_, rfl⟩
     replace H : (if y464.length + y467.length < 17592186044416 then (spec_Ranked.l0 k2 (y464 ++ y467) (wrap64 (x4_1 + 1)) l0_0 l0_1 a0_2 l0_3) else (none)) = some r := by first | (rw [hy467]; with_reducible exact H) | (have H2_ := (Option.bind_some _ _).symm.trans H; rw [hy467]; with_reducible exact H2_) | (have H2_ := (Option.bind_some _ _).symm.trans H; with_reducible exact H2_) | with_reducible exact H | (rw [hy467]; exact H) | exact H
     have Ny467 := Aside0.mk hy467
     clear hy467
     by_cases c25 : y464.length + y467.length < 17592186044416
     case neg =>
      rw [if_neg c25] at H
      exact absurd H (by simp)
     rw [if_pos c25] at H
     have LMc25 := Aside0.mk c25
     clear c25
     obtain ⟨y471, hy471⟩ : ∃ y_ : List Int, y_ = (y464 ++ y467) := ⟨_, rfl⟩
     replace H : (spec_Ranked.l0 k2 y471 (wrap64 (x4_1 + 1)) l0_0 l0_1 a0_2 l0_3) = some r := by first | (rw [hy471]; with_reducible exact H) | (have H2_ := (Option.bind_some _ _).symm.trans H; rw [hy471]; with_reducible exact H2_) | (have H2_ := (Option.bind_some _ _).symm.trans H; with_reducible exact H2_) | with_reducible exact H | (rw [hy471]; exact H) | exact H
     have Ny471 := Aside0.mk hy471
     clear hy471
     have H' := Aside0.mk H
     clear H
     go_wp2_with (first | ((with_reducible refine gate_dst (N := 34) rfl ?_); refine Kd.R_lit (Kd.int .i64) _ 3 ?hg (N := 34) ?hd (xs := ([] : List Int)) (inner := []) (ok := fun _ => True) (okp := fun _ => True) ?hr ?hp (fun _ hk => hk) trivial (Below.refl _ _) (Nat.le_refl _) (by simp) ?_; (case hd => rfl); (case hg => rfl); (case hr => exact g10); (case hp => exact (Reps.none _ _)); intro v455 w26 ho27 hb hg_ hnew_; clear hg_ hnew_; (first | rw [← Ny454.out] at ho27 | (simp only [Int.reduceToNat] at ho27; rw [← Ny454.out] at ho27)); have n_ := spec_Ranked.K4_ (Kd.R_elder' (g1 HO_3.out) (Kd.R_base ho27) hb) (Kd.R_lower (Kd.R_new' ho27 (Kd.R_lt (g1 HO_3.out))) (below_size (g12 HB.out GE447.out))) (blk_below (g := gb447) (o := .cells #[.slice A0_0 l0_0.length c0_0, .slice A0_1 l0_1.length c0_1, .int .i64 a0_2, .slice A0_3 l0_3.length c0_3] 46 (0, 0)) (g2 BK447.out) hb) (below_step (g12 HB.out GE447.out) hb); clear HO_3 BK447 HB; obtain ⟨HO_3, HO456, BK447, HB⟩ := n_; clear hb ho27; have q28 : (x5_2 : Int) ≤ ((x3_1.length : Int) : Int) := of_decide_eq_true (g6); obtain ⟨i028, hi028, _, hsz28, _⟩ := info_parts info3; have hroom28 : x3_1.length ≤ co7 := (Kd.R_reads' HO_3.out).2.1; have hC28 : Kd.C (Kd.int .i64) _ (some ad451) x3_1.length x3_1 := (Kd.R_reads' HO_3.out).2.2; have hcut28 := cut_to (P := Try.prog) 26 3 .i64 Try.underlying26 hi028 (some ad451) x3_1.length co7 x5_2 (of_decide_eq_true (g6)) q28 hroom28; have hr28 := Kd.C_take (m := (x5_2 : Int).toNat) hC28 (by omega); have hy28 : y457.length = (x5_2 : Int).toNat := (by rw [Ny457.out, List.length_take]; omega); rw [← Ny457.out] at hr28; rw [← hy28] at hcut28; have HR460 := Aside0.mk hr28; have HC460 := Aside0.mk (show y457.length ≤ co7 from by omega); clear hr28 hC28 hroom28 hi028 hsz28; have KY28 := Aside0.mk hy28; clear hy28; have KL28 := Aside0.mk (show (x5_2 : Int).toNat ≤ x3_1.length from by omega); replace q28 := eq_true q28) | ((with_reducible refine gate_builtin (b := .append) (xs := #[.tmp 34, .tmp 37]) rfl ?_); at_builtin; refine Kd.R_append_rows (Kd.int .i64) (w0 := w) w.heap.size rfl (.tmp 34) (.tmp 37) 26 3 (.int .i64 0) 8 rfl Try.underlying26 info3 rfl (by decide) (by omega) v455 y454 y457 _ _ _ (fun k_ => some k_ ≠ (.slice (some ad451) x3_1.length co7 : Value).ownBlock) (fun _ => False) rfl rfl ?aO ?aR (fun _ _ h => h) (fun _ h => h.elim) ?aF ?aB ?aS ?aL ?_; (case aR => exact g19 HR460.out); (case aB => exact g13 HB.out GE447.out); (case aF => exact (fun k_ hk => Kd.fresh' (Kd.R_lt (g1 HO_3.out)) k_ hk)); (case aO => exact (by (with_reducible repeat (first | apply Kd.R_alloc | apply Kd.R_drewN | apply Kd.R_drew)); exact Kd.R_mono HO456.out (fun _ hk => hk.2))); (case aS => exact g15 HB.out GE447.out); (case aL => have := LMc21.out; omega); intro v462 w29 ho hb hg hat; rw [← Ny461.out] at ho; have n_ := spec_Ranked.K5_ (Kd.R_after (ok := (fun _ => True)) (g1 HO_3.out) hg hat) (blk_grown (g := gb447) (o := .cells #[.slice A0_0 l0_0.length c0_0, .slice A0_1 l0_1.length c0_1, .int .i64 a0_2, .slice A0_3 l0_3.length c0_3] 46 (0, 0)) (g2 BK447.out) hg (Kd.R_ne HO456.out BK447.out (by decide))) hb ((show Kd.C (Kd.int .i64) w29 (some ad451) y457.length y457 from by rw [Ny457.out]; exact Kd.C_take (m := (x5_2 : Int).toNat) ((Kd.R_reads' (Kd.R_after (ok := (fun _ => True)) (g1 HO_3.out) hg hat)).2.2) KL28.out)) ho; clear HO_3 BK447 HB HR460 HO456; obtain ⟨HO_3, BK447, HB, HR460, HO463⟩ := n_; clear ho hb hg hat) | ((with_reducible refine gate_builtin (b := .append) (xs := #[.tmp 38, .tmp 40]) rfl ?_); at_builtin; refine Kd.R_append (Kd.int .i64) (w0 := w) w.heap.size rfl (.tmp 38) (.tmp 40) 26 3 (.int .i64 0) 8 rfl Try.underlying26 info3 rfl (by decide) (by omega) v462 y461 x4_1 [.int .i64 x4_1] (fun k_ => some k_ ≠ (.slice (some ad451) x3_1.length co7 : Value).ownBlock) (fun _ => False) rfl rfl ?aP (fun _ hk => hk.elim) ?aF ?aO ?aB ?aS ?aL ?_; (case aP => exact rfl); (case aB => exact g13 HB.out GE447.out); (case aF => exact (fun k_ hk => Kd.fresh' (Kd.R_lt (g1 HO_3.out)) k_ hk)); (case aO => exact g14 HO463.out); (case aS => exact g15 HB.out GE447.out); (case aL => have := LMc22.out; omega); intro v465 w30 ho hb hg hat; rw [← Ny464.out] at ho; have n_ := spec_Ranked.K5_ (Kd.R_after (ok := (fun _ => True)) (g1 HO_3.out) hg hat) (blk_grown (g := gb447) (o := .cells #[.slice A0_0 l0_0.length c0_0, .slice A0_1 l0_1.length c0_1, .int .i64 a0_2, .slice A0_3 l0_3.length c0_3] 46 (0, 0)) (g2 BK447.out) hg (Kd.R_ne HO463.out BK447.out (by decide))) hb ((show Kd.C (Kd.int .i64) w30 (some ad451) y457.length y457 from by rw [Ny457.out]; exact Kd.C_take (m := (x5_2 : Int).toNat) ((Kd.R_reads' (Kd.R_after (ok := (fun _ => True)) (g1 HO_3.out) hg hat)).2.2) KL28.out)) ho; clear HO_3 BK447 HB HR460 HO463; obtain ⟨HO_3, BK447, HB, HR460, HO466⟩ := n_; clear ho hb hg hat; have q31 : (x5_2 : Int) ≤ ((x3_1.length : Int) : Int) := of_decide_eq_true (g6); obtain ⟨i031, hi031, _, hsz31, _⟩ := info_parts info3; have hroom31 : x3_1.length ≤ co7 := (Kd.R_reads' HO_3.out).2.1; have hC31 : Kd.C (Kd.int .i64) _ (some ad451) x3_1.length x3_1 := (Kd.R_reads' HO_3.out).2.2; have q031 : (0 : Int) ≤ (x5_2 : Int) := of_decide_eq_true (g6); have hcut31 := cut_from (P := Try.prog) 26 3 .i64 Try.underlying26 hi031 1 hsz31 (some ad451) x3_1.length co7 x5_2 q031 q31; have hr31 := Kd.C_drop (m := (x5_2 : Int).toNat) (c := co7) hC31 (by omega) hroom31; obtain ⟨A31, hA31⟩ : ∃ A1, A1 = (if co7 = (x5_2 : Int).toNat then (some ad451) else ((some ad451) : Option Addr).map (·.add ((x5_2 : Int).toNat * 1))) := ⟨_, rfl⟩; obtain ⟨c31, hc31⟩ : ∃ c1, c1 = co7 - (x5_2 : Int).toNat := ⟨_, rfl⟩; have hy31 : y467.length = x3_1.length - (x5_2 : Int).toNat := (by rw [Ny467.out, List.length_drop] <;> omega); rw [show (x3_1).drop (x5_2 : Int).toNat = y467 from Ny467.out.symm] at hr31; replace hr31 : Kd.C (Kd.int .i64) _ A31 y467.length y467 := (by rw [hA31]; exact hr31); rw [← hy31, ← hA31, ← hc31] at hcut31; have HR470 := Aside0.mk hr31; have HC470 := Aside0.mk (show y467.length ≤ c31 from by rw [hy31, hc31]; exact Nat.sub_le_sub_right hroom31 _); clear hr31 hC31 hroom31 hi031 hsz31 hc31; have KY31 := Aside0.mk hy31; have KA31 := Aside0.mk hA31; clear hy31 hA31; have KL31 := Aside0.mk (show (x5_2 : Int).toNat ≤ x3_1.length from by omega); replace q31 := eq_true q31) | ((with_reducible refine gate_builtin (b := .append) (xs := #[.tmp 42, .tmp 45]) rfl ?_); at_builtin; refine Kd.R_append_rows (Kd.int .i64) (w0 := w) w.heap.size rfl (.tmp 42) (.tmp 45) 26 3 (.int .i64 0) 8 rfl Try.underlying26 info3 rfl (by decide) (by omega) v465 y464 y467 _ _ _ (fun k_ => some k_ ≠ (.slice (some ad451) x3_1.length co7 : Value).ownBlock) (fun _ => False) rfl rfl ?aO ?aR (fun _ _ h => h) (fun _ h => h.elim) ?aF ?aB ?aS ?aL ?_; (case aR => exact g19 HR470.out); (case aB => exact g13 HB.out GE447.out); (case aF => exact (fun k_ hk => Kd.fresh' (Kd.R_lt (g1 HO_3.out)) k_ hk)); (case aO => exact g14 HO466.out); (case aS => exact g15 HB.out GE447.out); (case aL => have := LMc25.out; omega); intro v472 w32 ho hb hg hat; rw [← Ny471.out] at ho; have n_ := spec_Ranked.K6_ (Kd.R_after (ok := (fun _ => True)) (g1 HO_3.out) hg hat) (blk_grown (g := gb447) (o := .cells #[.slice A0_0 l0_0.length c0_0, .slice A0_1 l0_1.length c0_1, .int .i64 a0_2, .slice A0_3 l0_3.length c0_3] 46 (0, 0)) (g2 BK447.out) hg (Kd.R_ne HO466.out BK447.out (by decide))) hb ((show Kd.C (Kd.int .i64) w32 (some ad451) y457.length y457 from by rw [Ny457.out]; exact Kd.C_take (m := (x5_2 : Int).toNat) ((Kd.R_reads' (Kd.R_after (ok := (fun _ => True)) (g1 HO_3.out) hg hat)).2.2) KL28.out)) ((show Kd.C (Kd.int .i64) w32 A31 y467.length y467 from by rw [Ny467.out, KA31.out]; exact Kd.C_drop (m := (x5_2 : Int).toNat) (c := co7) ((Kd.R_reads' (Kd.R_after (ok := (fun _ => True)) (g1 HO_3.out) hg hat)).2.2) KL31.out ((Kd.R_reads' (Kd.R_after (ok := (fun _ => True)) (g1 HO_3.out) hg hat)).2.1))) ho; clear HO_3 BK447 HB HR460 HR470 HO466; obtain ⟨HO_3, BK447, HB, HR460, HR470, HO473⟩ := n_; clear ho hb hg hat))
     go_roundg k2
     case measure => have := HK1.out; have := HK2.out; omega
     case rel => exact ⟨(y471), (wrap64 (x4_1 + 1)), (g0), H', ⟨by have := HK1.out; have := HK2.out; omega⟩, ⟨by (with_reducible repeat (first | apply Kd.R_alloc | apply Kd.R_drewN | apply Kd.R_drew)); exact Kd.R_mono HO473.out (fun _ hk => trivial)⟩, ⟨g2 BK447.out⟩, ⟨g12 HB.out GE447.out⟩⟩
def laws_sameInts.l0 : Nat → List Int → List Int → Int → Option (Bool)
  | 0, _, _, _ => none
  | k + 1, x0, x1, x5 => if x5 < (x0.length : Int) then (if 0 ≤ x5 then (if x5 < (x1.length : Int) then (if (rd x0 x5) = (rd x1 x5) then (laws_sameInts.l0 k x0 x1 (wrap64 (x5 + 1))) else (some false)) else (none)) else (none)) else (some true)
def laws_sameInts.f (k : Nat) (l0 : List Int) (l1 : List Int) : Option (Bool) := if (l0.length : Int) = (l1.length : Int) then (laws_sameInts.l0 k l0 l1 0) else (some false)
set_option maxHeartbeats 8000000 in
set_option maxRecDepth 100000 in
theorem laws_sameInts.calls (k : Nat) (A0 : Option Addr) (c0 : Nat) (l0 : List Int) (A1 : Option Addr) (c1 : Nat) (l1 : List Int) (r : Bool) (w : World) (hr0 : Kd.C (Kd.int .i64) w A0 l0.length l0) (hc0 : l0.length ≤ c0) (hr1 : Kd.C (Kd.int .i64) w A1 l1.length l1) (hc1 : l1.length ≤ c1) (h : laws_sameInts.f k l0 l1 = some r) :
    Calls Try.prog 15 #[.slice A0 l0.length c0, .slice A1 l1.length c1] w fun e w' => e = .returned (.bool r) ∧ Drawn0 w w' := by
 have HR0 := Aside0.mk hr0
 have HC0 := Aside0.mk hc0
 clear hr0 hc0
 have HR1 := Aside0.mk hr1
 have HC1 := Aside0.mk hc1
 clear hr1 hc1
 have H : (if (l0.length : Int) = (l1.length : Int) then (laws_sameInts.l0 k l0 l1 0) else (some false)) = some r := h
 clear h
 by_cases c3 : (l0.length : Int) = (l1.length : Int)
 case neg =>
  rw [if_neg c3] at H
  have c3b0 : ((l0.length : Int) == (l1.length : Int)) = false := beq_eq_false_iff_ne.mpr c3
  have c3b1 : ((l0.length : Int) != (l1.length : Int)) = true := bne_iff_ne.mpr c3
  have c3b2 : (l0.length == l1.length) = false := by first | simpa using c3 | (simp at c3 ⊢; omega)
  obtain rfl := Option.some.inj H
  go_enter Try.func15, Try.ntmps15
  go_wp2
  repeat (go_quiet (fail); try go_wp2)
  go_ret
  exact ⟨g0, g21⟩
 rw [if_pos c3] at H
 have c3b0 : ((l0.length : Int) == (l1.length : Int)) = true := beq_iff_eq.mpr c3
 have c3b1 : ((l0.length : Int) != (l1.length : Int)) = false := bne_eq_false_iff_eq.mpr c3
 have c3b2 : (l0.length == l1.length) = true := by first | simpa using c3 | (simp at c3 ⊢; omega)
 clear c3
 have H' := Aside0.mk H
 clear H
 go_enter Try.func15, Try.ntmps15
 go_wp2
 repeat (go_quiet (fail); try go_wp2)
 go_loopg [5] k (fun kq v5 w' => ∃ (x5_1 : Int), v5 = .int .i64 x5_1 ∧ Aside0 (laws_sameInts.l0 kq l0 l1 x5_1 = some r) ∧ Aside0 (kq ≤ k) ∧ Drawn0 w w')
 case atStart => exact ⟨(0), (g0), H', ⟨Nat.le_refl _⟩, g21⟩
 case round =>
  clear H'
  try clear c1
  try clear p2
  try clear c3
  try clear c3b0
  try clear c3b1
  try clear c3b2
  obtain ⟨x5_1, rfl, HA, HK1, ⟨m1, rfl⟩⟩ := hrel
  cases gk with
  | zero => exact absurd HA.out (by simp [laws_sameInts.l0])
  | succ k1 =>
   have H := HA.out
   clear HA
   simp only [laws_sameInts.l0] at H
   by_cases c4 : x5_1 < (l0.length : Int)
   case neg =>
    rw [if_neg c4] at H
    have c4b0 : decide (x5_1 < (l0.length : Int)) = false := decide_eq_false c4
    clear c4
    obtain rfl := Option.some.inj H
    go_wp2
    repeat (go_quiet (fail); try go_wp2)
    go_ret
    exact ⟨g0, g21⟩
   rw [if_pos c4] at H
   have c4b0 : decide (x5_1 < (l0.length : Int)) = true := decide_eq_true c4
   clear c4
   by_cases c5 : 0 ≤ x5_1
   case neg =>
    rw [if_neg c5] at H
    exact absurd H (by simp)
   rw [if_pos c5] at H
   have c5b0 : decide (0 ≤ x5_1) = true := decide_eq_true c5
   clear c5
   by_cases c6 : x5_1 < (l1.length : Int)
   case neg =>
    rw [if_neg c6] at H
    exact absurd H (by simp)
   rw [if_pos c6] at H
   have c6b0 : decide (x5_1 < (l1.length : Int)) = true := decide_eq_true c6
   clear c6
   by_cases c7 : (rd l0 x5_1) = (rd l1 x5_1)
   case neg =>
    rw [if_neg c7] at H
    have c7b0 : ((rd l0 x5_1) == (rd l1 x5_1)) = false := beq_eq_false_iff_ne.mpr c7
    have c7b1 : ((rd l0 x5_1) != (rd l1 x5_1)) = true := bne_iff_ne.mpr c7
    obtain rfl := Option.some.inj H
    have p494 : 0 ≤ (x5_1 : Int) := of_decide_eq_true (g6)
    have q494 : x5_1 < (l0.length : Int) := of_decide_eq_true (g6)
    obtain ⟨ad494, e494, hx494_0⟩ := Kd.at_int HR0.out x5_1 p494 q494
    cases e494
    replace p494 := eq_true p494
    replace q494 := eq_true q494
    have p495 : 0 ≤ (x5_1 : Int) := of_decide_eq_true (g6)
    have q495 : x5_1 < (l1.length : Int) := of_decide_eq_true (g6)
    obtain ⟨ad495, e495, hx495_0⟩ := Kd.at_int HR1.out x5_1 p495 q495
    cases e495
    replace p495 := eq_true p495
    replace q495 := eq_true q495
    go_wp2
    repeat (go_quiet (fail); try go_wp2)
    go_ret
    exact ⟨g0, g21⟩
   rw [if_pos c7] at H
   have c7b0 : ((rd l0 x5_1) == (rd l1 x5_1)) = true := beq_iff_eq.mpr c7
   have c7b1 : ((rd l0 x5_1) != (rd l1 x5_1)) = false := bne_eq_false_iff_eq.mpr c7
   clear c7
   have H' := Aside0.mk H
   clear H
   have p494 : 0 ≤ (x5_1 : Int) := of_decide_eq_true (g6)
   have q494 : x5_1 < (l0.length : Int) := of_decide_eq_true (g6)
   obtain ⟨ad494, e494, hx494_0⟩ := Kd.at_int HR0.out x5_1 p494 q494
   cases e494
   replace p494 := eq_true p494
   replace q494 := eq_true q494
   have p495 : 0 ≤ (x5_1 : Int) := of_decide_eq_true (g6)
   have q495 : x5_1 < (l1.length : Int) := of_decide_eq_true (g6)
   obtain ⟨ad495, e495, hx495_0⟩ := Kd.at_int HR1.out x5_1 p495 q495
   cases e495
   replace p495 := eq_true p495
   replace q495 := eq_true q495
   go_wp2
   repeat (go_quiet (fail); try go_wp2)
   go_roundg k1
   case measure => have := HK1.out; omega
   case rel => exact ⟨(wrap64 (x5_1 + 1)), (g0), H', ⟨by have := HK1.out; omega⟩, g21⟩
def impl_NodesIn.l0 : Nat → Int → List (S68) → Int → Int → Option (Int)
  | 0, _, _, _, _ => none
  | k + 1, x3, x7, x8, x9 => if x9 < x8 then (if 0 ≤ x9 then (if x9 < (x7.length : Int) then (impl_NodesIn.l0 k (wrap64 (x3 + (((rd_T68 x7 x9).f0).length : Int))) x7 x8 (wrap64 (x9 + 1))) else (none)) else (none)) else (some x3)
def impl_NodesIn.f (k : Nat) (l0_0 : List ByteArray) (l0_1 : List Int) (a0_2 : Int) (l0_3 : List (S68)) : Option (Int) := impl_NodesIn.l0 k 0 l0_3 (l0_3.length : Int) 0
set_option maxHeartbeats 8000000 in
set_option maxRecDepth 100000 in
theorem impl_NodesIn.calls (k : Nat) (A0_0 : Option Addr) (c0_0 : Nat) (l0_0 : List ByteArray) (A0_1 : Option Addr) (c0_1 : Nat) (l0_1 : List Int) (a0_2 : Int) (A0_3 : Option Addr) (c0_3 : Nat) (l0_3 : List (S68)) (r : Int) (w : World) (hr0_0 : Kd.C Kd.string w A0_0 l0_0.length l0_0) (hc0_0 : l0_0.length ≤ c0_0) (hr0_1 : Kd.C (Kd.int .i64) w A0_1 l0_1.length l0_1) (hc0_1 : l0_1.length ≤ c0_1) (hr0_3 : Kd.C k68 w A0_3 l0_3.length l0_3) (hc0_3 : l0_3.length ≤ c0_3) (h : impl_NodesIn.f k l0_0 l0_1 a0_2 l0_3 = some r) :
    Calls Try.prog 34 #[.agg #[.slice A0_0 l0_0.length c0_0, .slice A0_1 l0_1.length c0_1, .int .i64 a0_2, .slice A0_3 l0_3.length c0_3]] w fun e w' => e = .returned (.int .i64 r) ∧ Below w.heap.size w w' := by
 have hu46 := Try.underlying46
 have hu68 := Try.underlying68
 have HR0_0 := Aside0.mk hr0_0
 have HC0_0 := Aside0.mk hc0_0
 clear hr0_0 hc0_0
 have HR0_1 := Aside0.mk hr0_1
 have HC0_1 := Aside0.mk hc0_1
 clear hr0_1 hc0_1
 have HR0_3 := Aside0.mk hr0_3
 have HC0_3 := Aside0.mk hc0_3
 clear hr0_3 hc0_3
 have HB := Aside0.mk (Below.refl w.heap.size w)
 have H : (impl_NodesIn.l0 k 0 l0_3 (l0_3.length : Int) 0) = some r := h
 clear h
 have H' := Aside0.mk H
 clear H
 go_enter Try.func34, Try.ntmps34
 go_wp2_with (first | ((with_reducible refine gate_dst (N := 1) rfl ?_); refine box_event ?hg (N := 1) ?hd (cs := #[.slice A0_0 l0_0.length c0_0, .slice A0_1 l0_1.length c0_1, .int .i64 a0_2, .slice A0_3 l0_3.length c0_3]) (t := 46) ?hr ?_; (case hd => rfl); (case hg => rfl); (case hr => exact g10); intro gb496 hg w2 hbox hb; have n_ := spec_Ranked.K4_ (below_step (g4 HB.out) hb) hbox ((g11 HB.out : w.heap.size ≤ gb496)) ((g11 HB.out : w.heap.size ≤ gb496)); clear HB; obtain ⟨HB, BK496, GW496, GE496⟩ := n_; clear hb hbox hg; have hcz3_0 : w2.cell? ⟨gb496, 0, none⟩ = some (.slice A0_0 l0_0.length c0_0) := (blk_cell BK496.out 0).trans rfl; have hcz3_1 : w2.cell? ⟨gb496, 1, none⟩ = some (.slice A0_1 l0_1.length c0_1) := (blk_cell BK496.out 1).trans rfl; have hcz3_2 : w2.cell? ⟨gb496, 2, none⟩ = some (.int .i64 a0_2) := (blk_cell BK496.out 2).trans rfl; have hcz3_3 : w2.cell? ⟨gb496, 3, none⟩ = some (.slice A0_3 l0_3.length c0_3) := (blk_cell BK496.out 3).trans rfl; have hfz3_0 := blk_frozen BK496.out 0; have hfz3_1 := blk_frozen BK496.out 1; have hfz3_2 := blk_frozen BK496.out 2; have hfz3_3 := blk_frozen BK496.out 3))
 go_loopg [3, 9] k (fun kq v3 v9 w' => ∃ (x3_1 : Int) (x9_1 : Int), v3 = .int .i64 x3_1 ∧ v9 = .int .i64 x9_1 ∧ Aside0 (impl_NodesIn.l0 kq x3_1 l0_3 (l0_3.length : Int) x9_1 = some r) ∧ Aside0 (kq ≤ k) ∧ Aside0 (w'.heap[gb496]? = some (.cells #[(.slice A0_0 l0_0.length c0_0), (.slice A0_1 l0_1.length c0_1), .int .i64 a0_2, (.slice A0_3 l0_3.length c0_3)] 46 (0, 0))) ∧ Aside0 (Below w.heap.size w w'))
 case atStart => exact ⟨(0), (0), (g0), (g0), H', ⟨Nat.le_refl _⟩, ⟨g2 BK496.out⟩, ⟨g12 HB.out GE496.out⟩⟩
 case round =>
  clear H'
  try clear p2
  try clear c3
  try clear hcz3_0
  try clear hcz3_1
  try clear hcz3_2
  try clear hcz3_3
  try clear hfz3_0
  try clear hfz3_1
  try clear hfz3_2
  try clear hfz3_3
  obtain ⟨x3_1, x9_1, rfl, rfl, HA, HK1, BK496, HB⟩ := hrel
  cases gk with
  | zero => exact absurd HA.out (by simp [impl_NodesIn.l0])
  | succ k1 =>
   have H := HA.out
   clear HA
   simp only [impl_NodesIn.l0] at H
   by_cases c4 : x9_1 < (l0_3.length : Int)
   case neg =>
    rw [if_neg c4] at H
    have c4b0 : decide (x9_1 < (l0_3.length : Int)) = false := decide_eq_false c4
    clear c4
    obtain rfl := Option.some.inj H
    go_wp2
    go_ret
    exact ⟨g5, g12 HB.out GE496.out⟩
   rw [if_pos c4] at H
   have c4b0 : decide (x9_1 < (l0_3.length : Int)) = true := decide_eq_true c4
   clear c4
   by_cases c5 : 0 ≤ x9_1
   case neg =>
    rw [if_neg c5] at H
    exact absurd H (by simp)
   rw [if_pos c5] at H
   have c5b0 : decide (0 ≤ x9_1) = true := decide_eq_true c5
   clear c5
   by_cases c6 : x9_1 < (l0_3.length : Int)
   case neg =>
    rw [if_neg c6] at H
    exact absurd H (by simp)
   rw [if_pos c6] at H
   have c6b0 : decide (x9_1 < (l0_3.length : Int)) = true := decide_eq_true c6
   clear c6
   have H' := Aside0.mk H
   clear H
   have p497 : 0 ≤ (x9_1 : Int) := of_decide_eq_true (g6)
   have q497 : x9_1 < (l0_3.length : Int) := of_decide_eq_true (g6)
   obtain ⟨ad497, A497_0, c497_0, e497, hx497_0, hl497_0, hi497_0⟩ := at_T68 HR0_3.out x9_1 p497 q497
   cases e497
   replace hx497_0 := (HB.out.cell (World.block_lt_of_cell? w _ hx497_0)).trans hx497_0
   have HR497_0 := Aside0.mk hi497_0
   have HC497_0 := Aside0.mk hl497_0
   clear hi497_0 hl497_0
   replace p497 := eq_true p497
   replace q497 := eq_true q497
   go_wp2_with (first | ((with_reducible refine gate_dst (N := 5) rfl ?_); refine box_event ?hg (N := 5) ?hd (cs := #[.slice none 0 0]) (t := 68) ?hr ?_; (case hd => rfl); (case hg => rfl); (case hr => exact g10); intro gb498 hg w7 hbox hb; have n_ := spec_Ranked.K7_ (blk_below (g := gb496) (o := .cells #[.slice A0_0 l0_0.length c0_0, .slice A0_1 l0_1.length c0_1, .int .i64 a0_2, .slice (some ad497) l0_3.length c0_3] 46 (0, 0)) (g2 BK496.out) hb) (below_step (g12 HB.out GE496.out) hb) hbox ((g16 HB.out GE496.out : w.heap.size ≤ gb498)) ((g16 HB.out GE496.out : w.heap.size ≤ gb498)) ((by rw [hg]; exact Nat.ne_of_lt (blk_lt (g := gb496) (o := .cells #[.slice A0_0 l0_0.length c0_0, .slice A0_1 l0_1.length c0_1, .int .i64 a0_2, .slice (some ad497) l0_3.length c0_3] 46 (0, 0)) (g2 BK496.out)) : gb496 ≠ gb498)) ((by rw [hg]; exact Nat.ne_of_gt (blk_lt (g := gb496) (o := .cells #[.slice A0_0 l0_0.length c0_0, .slice A0_1 l0_1.length c0_1, .int .i64 a0_2, .slice (some ad497) l0_3.length c0_3] 46 (0, 0)) (g2 BK496.out)) : gb498 ≠ gb496)); clear BK496 HB; obtain ⟨BK496, HB, BK498, GW498, GE498, NB496_498, NB498_496⟩ := n_; clear hb hbox hg; have hnb8 := NB498_496.out; have hnc8 := NB496_498.out; have hcz9_0 : w7.cell? ⟨gb498, 0, none⟩ = some (.slice none 0 0) := (blk_cell BK498.out 0).trans rfl; have hfz9_0 := blk_frozen BK498.out 0))
   go_roundg k1
   case measure => have := HK1.out; omega
   case rel => exact ⟨(wrap64 (x3_1 + (((rd_T68 l0_3 x9_1).f0).length : Int))), (wrap64 (x9_1 + 1)), (g0), (g0), H', ⟨by have := HK1.out; omega⟩, ⟨g22 NB496_498.out BK496.out⟩, ⟨g18 HB.out GE496.out GE498.out⟩⟩
end Go.Proofs.Yteoikmbdpofhmaa.XFnUses
