import Derived.Test.YtcgmdpnhlkbpbaaDoorVFnNodeTextXx0
import Derived.Test.YtcgmdpnhlkbpbaaDoorVFnNodeTextXx1
import Derived.Test.YtcgmdpnhlkbpbaaDoorVFnNodeTextXx8
namespace Go.Proofs.YtcgmdpnhlkbpbaaDoor.XFnNodeText
open Go.RowKit Go.Proofs.YtcgmdpnhlkbpbaaDoorW.PrintWords Go.Proofs.YtcgmdpnhlkbpbaaDoorW.PrintLast Go.Proofs.YtcgmdpnhlkbpbaaDoorW.PrintMore
attribute [local go_sem] max2_int min2_int max_two min_two max_three min_three max_four min_four
set_option linter.unusedVariables false
set_option linter.unusedSimpArgs false
theorem impl_NodeText.K2_ {p0 p1 : Prop} (h0 : p0) (h1 : p1) : Aside0 p0 ∧ Aside0 p1 := ⟨⟨h0⟩, ⟨h1⟩⟩
theorem impl_NodeText.K4_ {p0 p1 p2 p3 : Prop} (h0 : p0) (h1 : p1) (h2 : p2) (h3 : p3) : Aside0 p0 ∧ Aside0 p1 ∧ Aside0 p2 ∧ Aside0 p3 := ⟨⟨h0⟩, ⟨h1⟩, ⟨h2⟩, ⟨h3⟩⟩
attribute [local go_sem high] eqA23
def impl_NodeText.j0 : Nat → Bool → Int → Int → Int → Int → Int → Option (ByteArray)
  | 0, _, _, _, _, _, _ => none
  | k + 1, x40, x323000, x323001, x323002, x323003, x323004 => if x40 = true then (some (⟨#[]⟩ : ByteArray)) else ((impl_Digits.f x323000).bind fun t329 => (if t329.size + 1 ≤ 9223372036854775807 then ((impl_Digits.f x323001).bind fun t330 => (if (t329 ++ (⟨#[60]⟩ : ByteArray)).size + t330.size ≤ 9223372036854775807 then (if ((t329 ++ (⟨#[60]⟩ : ByteArray)) ++ t330).size + 1 ≤ 9223372036854775807 then ((impl_Digits.f x323002).bind fun t331 => (if (((t329 ++ (⟨#[60]⟩ : ByteArray)) ++ t330) ++ (⟨#[58]⟩ : ByteArray)).size + t331.size ≤ 9223372036854775807 then (if ((((t329 ++ (⟨#[60]⟩ : ByteArray)) ++ t330) ++ (⟨#[58]⟩ : ByteArray)) ++ t331).size + 1 ≤ 9223372036854775807 then ((impl_Digits.f x323003).bind fun t332 => (if (((((t329 ++ (⟨#[60]⟩ : ByteArray)) ++ t330) ++ (⟨#[58]⟩ : ByteArray)) ++ t331) ++ (⟨#[44]⟩ : ByteArray)).size + t332.size ≤ 9223372036854775807 then (some ((((((t329 ++ (⟨#[60]⟩ : ByteArray)) ++ t330) ++ (⟨#[58]⟩ : ByteArray)) ++ t331) ++ (⟨#[44]⟩ : ByteArray)) ++ t332)) else (none))) else (none)) else (none))) else (none)) else (none))) else (none)))
def impl_NodeText.f (k : Nat) (a0_0 : Int) (a0_1 : Int) (a0_2 : Int) (a0_3 : Int) (a0_4 : Int) : Option (ByteArray) := (impl_isLeaf.f a0_0 a0_1 a0_2 a0_3 a0_4).bind fun t323 => (if t323 = true then (if (!(a0_0 == (-1)) || (!(a0_1 == 0) || (!(a0_2 == 0) || (!(a0_3 == 0))))) = true then (some (⟨#[]⟩ : ByteArray)) else ((impl_Digits.f a0_4).bind fun t324 => (if 1 + t324.size ≤ 9223372036854775807 then (some ((⟨#[61]⟩ : ByteArray) ++ t324)) else (none)))) else ((impl_within.f a0_0 0 3).bind fun t325 => (if t325 = true then ((impl_isDecimal.f a0_1).bind fun t326 => (if t326 = true then ((impl_within.f a0_2 1 30).bind fun t327 => (if t327 = true then ((impl_within.f a0_3 1 30).bind fun t328 => (if t328 = true then (impl_NodeText.j0 k (a0_4 != 0) a0_0 a0_1 a0_2 a0_3 a0_4) else (impl_NodeText.j0 k true a0_0 a0_1 a0_2 a0_3 a0_4))) else (impl_NodeText.j0 k true a0_0 a0_1 a0_2 a0_3 a0_4))) else (impl_NodeText.j0 k true a0_0 a0_1 a0_2 a0_3 a0_4))) else (impl_NodeText.j0 k true a0_0 a0_1 a0_2 a0_3 a0_4))))
def impl_NodeText.T7 : Bool × List (List Nat × List Nat) := (true, [([], []), ([0], [0]), ([1], [1]), ([2], [2]), ([], []), ([4], [4]), ([5, 2], [5]), ([3, 6], [3, 6]), ([7], [7]), ([], []), ([9], [9]), ([10, 6], [10]), ([8, 11], [8, 11]), ([12], [12]), ([], []), ([14], [14]), ([15, 11], [15]), ([13, 16], [13, 16]), ([17, 16, 0, 1, 2, 3, 4, 5, 6, 7, 8, 9, 10, 11, 12, 13, 14, 15, 16, 17], [17])])
def impl_NodeText.B7 : List Nat := [0, 1, 3, 7, 0, 16, 55, 127, 255, 0, 512, 1655, 4095, 8191, 0, 16384, 52855, 131071, 262143]
theorem impl_NodeText.tab7 : rtab .any (opsOf Tryd.f19 7) = impl_NodeText.T7 := by kernel_rfl
theorem impl_NodeText.bits7 : waitsOk impl_NodeText.T7.2 impl_NodeText.B7 = true := by kernel_rfl
set_option maxHeartbeats 8000000 in
set_option maxRecDepth 100000 in
theorem impl_NodeText.calls (k : Nat) (a0_0 : Int) (a0_1 : Int) (a0_2 : Int) (a0_3 : Int) (a0_4 : Int) (r : ByteArray) (w : World) (hT : TabW w) (h : impl_NodeText.f k a0_0 a0_1 a0_2 a0_3 a0_4 = some r) :
    Calls Tryd.prog 19 #[.agg #[.int .i64 a0_0, .int .i64 a0_1, .int .i64 a0_2, .int .i64 a0_3, .int .i64 a0_4]] w fun e w' => e = .returned (.string r) ∧ Below w.heap.size w w' := by
 have hu23 := Tryd.underlying23
 have HB := Aside0.mk (Below.refl w.heap.size w)
 have HT := Aside0.mk hT
 clear hT
 have H : ((impl_isLeaf.f a0_0 a0_1 a0_2 a0_3 a0_4).bind fun t323 => (if t323 = true then (if (!(a0_0 == (-1)) || (!(a0_1 == 0) || (!(a0_2 == 0) || (!(a0_3 == 0))))) = true then (some (⟨#[]⟩ : ByteArray)) else ((impl_Digits.f a0_4).bind fun t324 => (if 1 + t324.size ≤ 9223372036854775807 then (some ((⟨#[61]⟩ : ByteArray) ++ t324)) else (none)))) else ((impl_within.f a0_0 0 3).bind fun t325 => (if t325 = true then ((impl_isDecimal.f a0_1).bind fun t326 => (if t326 = true then ((impl_within.f a0_2 1 30).bind fun t327 => (if t327 = true then ((impl_within.f a0_3 1 30).bind fun t328 => (if t328 = true then (impl_NodeText.j0 k (a0_4 != 0) a0_0 a0_1 a0_2 a0_3 a0_4) else (impl_NodeText.j0 k true a0_0 a0_1 a0_2 a0_3 a0_4))) else (impl_NodeText.j0 k true a0_0 a0_1 a0_2 a0_3 a0_4))) else (impl_NodeText.j0 k true a0_0 a0_1 a0_2 a0_3 a0_4))) else (impl_NodeText.j0 k true a0_0 a0_1 a0_2 a0_3 a0_4))))) = some r := h
 clear h
 replace H := Option.bind_eq_some_iff.mp H
 obtain ⟨t323, A20, H⟩ := H
 replace H : (if t323 = true then (if (!(a0_0 == (-1)) || (!(a0_1 == 0) || (!(a0_2 == 0) || (!(a0_3 == 0))))) = true then (some (⟨#[]⟩ : ByteArray)) else ((impl_Digits.f a0_4).bind fun t324 => (if 1 + t324.size ≤ 9223372036854775807 then (some ((⟨#[61]⟩ : ByteArray) ++ t324)) else (none)))) else ((impl_within.f a0_0 0 3).bind fun t325 => (if t325 = true then ((impl_isDecimal.f a0_1).bind fun t326 => (if t326 = true then ((impl_within.f a0_2 1 30).bind fun t327 => (if t327 = true then ((impl_within.f a0_3 1 30).bind fun t328 => (if t328 = true then (impl_NodeText.j0 k (a0_4 != 0) a0_0 a0_1 a0_2 a0_3 a0_4) else (impl_NodeText.j0 k true a0_0 a0_1 a0_2 a0_3 a0_4))) else (impl_NodeText.j0 k true a0_0 a0_1 a0_2 a0_3 a0_4))) else (impl_NodeText.j0 k true a0_0 a0_1 a0_2 a0_3 a0_4))) else (impl_NodeText.j0 k true a0_0 a0_1 a0_2 a0_3 a0_4)))) = some r := H
 have A2 := Aside0.mk A20
 clear A20
 have HZ3 := Aside0.mk H
 clear H
 go_enter Tryd.func19, Tryd.ntmps19
 go_upto_if 4 with (first | ((with_reducible refine gate_dst (N := 1) rfl ?_); refine box_event ?hg (N := 1) ?hd (cs := #[.int .i64 a0_0, .int .i64 a0_1, .int .i64 a0_2, .int .i64 a0_3, .int .i64 a0_4]) (t := 23) ?hr ?_; (case hd => rfl); (case hg => rfl); (case hr => first | (go_simp; done) | (go_simp; rfl)); intro gb322 hg w4 hbox hb; have n_ := impl_NodeText.K4_ (below_step (by repeat (first | (with_reducible first | exact HB.out | apply below_alloc | apply pw_below_drewN | apply below_drew1) | exact HB.out)) hb) hbox ((by rw [hg]; exact (below_size (by repeat (first | (with_reducible first | exact HB.out | apply below_alloc | apply pw_below_drewN | apply below_drew1) | exact HB.out))) : w.heap.size ≤ gb322)) ((by rw [hg]; exact (below_size (by repeat (first | (with_reducible first | exact HB.out | apply below_alloc | apply pw_below_drewN | apply below_drew1) | exact HB.out))) : w.heap.size ≤ gb322)); clear HB; obtain ⟨HB, BK322, GW322, GE322⟩ := n_; clear hb hbox hg; have hcz5_0 : w4.cell? ⟨gb322, 0, none⟩ = some (.int .i64 a0_0) := (blk_cell BK322.out 0).trans rfl; have hcz5_1 : w4.cell? ⟨gb322, 1, none⟩ = some (.int .i64 a0_1) := (blk_cell BK322.out 1).trans rfl; have hcz5_2 : w4.cell? ⟨gb322, 2, none⟩ = some (.int .i64 a0_2) := (blk_cell BK322.out 2).trans rfl; have hcz5_3 : w4.cell? ⟨gb322, 3, none⟩ = some (.int .i64 a0_3) := (blk_cell BK322.out 3).trans rfl; have hcz5_4 : w4.cell? ⟨gb322, 4, none⟩ = some (.int .i64 a0_4) := (blk_cell BK322.out 4).trans rfl; have hfz5_0 := blk_frozen BK322.out 0; have hfz5_1 := blk_frozen BK322.out 1; have hfz5_2 := blk_frozen BK322.out 2; have hfz5_3 := blk_frozen BK322.out 3; have hfz5_4 := blk_frozen BK322.out 4) | ((with_reducible refine gate_callee (f := 61) rfl ?_); refine goesL_ (some 4) rfl rfl Tryd.func61 (by kernel_rfl) rfl #[.agg #[.int .i64 a0_0, .int .i64 a0_1, .int .i64 a0_2, .int .i64 a0_3, .int .i64 a0_4]] rfl (by (try simp only [List.map_toArray, List.map_cons, List.map_nil]); first | done | rfl | (simp only [List.length_drop, List.length_take]; rfl)) ?_; (with_reducible refine (impl_isLeaf.calls a0_0 a0_1 a0_2 a0_3 a0_4 t323 _ A2.out).mono ?_); rintro e w6 ⟨rfl, hb⟩; refine ⟨_, rfl, ?_⟩; have n_ := impl_NodeText.K2_ (blk_below (g := gb322) (o := .cells #[.int .i64 a0_0, .int .i64 a0_1, .int .i64 a0_2, .int .i64 a0_3, .int .i64 a0_4] 23 (0, 0)) (by (with_reducible repeat (first | refine blk_drewN ?_ _ | refine blk_drew ?_ | refine blk_alloc ?_ _)); exact BK322.out) hb) (below_step (by repeat (first | (with_reducible first | exact HB.out | apply below_alloc | apply pw_below_drewN | apply below_drew1 | refine below_set ?_ GE322.out) | exact HB.out)) hb); clear BK322 HB; obtain ⟨BK322, HB⟩ := n_; (try clear hb); (try clear hb2); (try clear hk); (try clear hi)))
 (try simp only [Act.put, List.setIfInBounds_toArray, List.set_cons_zero, List.set_cons_succ])
 have H := HZ3.out
 clear HZ3
 by_cases c7 : t323 = true
 case pos =>
  subst c7
  have H1 : (if (!(a0_0 == (-1)) || (!(a0_1 == 0) || (!(a0_2 == 0) || (!(a0_3 == 0))))) = true then (some (⟨#[]⟩ : ByteArray)) else ((impl_Digits.f a0_4).bind fun t324 => (if 1 + t324.size ≤ 9223372036854775807 then (some ((⟨#[61]⟩ : ByteArray) ++ t324)) else (none)))) = some r := by rw [if_pos rfl] at H; exact H
  clear H
  have H := H1
  clear H1
  by_cases c8 : (!(a0_0 == (-1)) || (!(a0_1 == 0) || (!(a0_2 == 0) || (!(a0_3 == 0))))) = true
  case pos =>
   rw [if_pos c8] at H
   have c8b0 : (!(a0_0 == (-1)) || (!(a0_1 == 0) || (!(a0_2 == 0) || (!(a0_3 == 0))))) = true := c8
   clear c8
   (first | rw [c8b0] | (simp only [i64_w, i32_w]; rw [c8b0]) | skip)
   obtain rfl := Option.some.inj H
   have hcz9_0 : w6.cell? ⟨gb322, 0, none⟩ = some (.int .i64 a0_0) := (blk_cell BK322.out 0).trans rfl
   have hcz9_1 : w6.cell? ⟨gb322, 1, none⟩ = some (.int .i64 a0_1) := (blk_cell BK322.out 1).trans rfl
   have hcz9_2 : w6.cell? ⟨gb322, 2, none⟩ = some (.int .i64 a0_2) := (blk_cell BK322.out 2).trans rfl
   have hcz9_3 : w6.cell? ⟨gb322, 3, none⟩ = some (.int .i64 a0_3) := (blk_cell BK322.out 3).trans rfl
   have hcz9_4 : w6.cell? ⟨gb322, 4, none⟩ = some (.int .i64 a0_4) := (blk_cell BK322.out 4).trans rfl
   have hfz9_0 := blk_frozen BK322.out 0
   have hfz9_1 := blk_frozen BK322.out 1
   have hfz9_2 := blk_frozen BK322.out 2
   have hfz9_3 := blk_frozen BK322.out 3
   have hfz9_4 := blk_frozen BK322.out 4
   go_wp2
   go_ret
   exact ⟨by first | rfl | (simp [errW_none, errW_some] <;> rfl) | (simp [*, errW_none, errW_some] <;> rfl), by repeat (first | (with_reducible first | exact HB.out | apply below_alloc | apply pw_below_drewN | apply below_drew1 | refine below_set ?_ GE322.out) | exact HB.out)⟩
  rw [if_neg c8] at H
  have c8b0 : (!(a0_0 == (-1)) || (!(a0_1 == 0) || (!(a0_2 == 0) || (!(a0_3 == 0))))) = false := by simpa using c8
  clear c8
  (first | rw [c8b0] | (simp only [i64_w, i32_w]; rw [c8b0]) | skip)
  replace H := Option.bind_eq_some_iff.mp H
  obtain ⟨t324, A100, H⟩ := H
  replace H : (if 1 + t324.size ≤ 9223372036854775807 then (some ((⟨#[61]⟩ : ByteArray) ++ t324)) else (none)) = some r := H
  have A10 := Aside0.mk A100
  clear A100
  by_cases c11 : 1 + t324.size ≤ 9223372036854775807
  case neg =>
   rw [if_neg c11] at H
   exact absurd H (by simp)
  rw [if_pos c11] at H
  have c11b0 := eq_true c11
  have c11b1 : decide (1 + t324.size ≤ 9223372036854775807) = true := decide_eq_true c11
  try have c11b2 : (9223372036854775807 < 1 + t324.size) = False := eq_false (Nat.not_lt.2 c11)
  obtain rfl := Option.some.inj H
  have hcz12_0 : w6.cell? ⟨gb322, 0, none⟩ = some (.int .i64 a0_0) := (blk_cell BK322.out 0).trans rfl
  have hcz12_1 : w6.cell? ⟨gb322, 1, none⟩ = some (.int .i64 a0_1) := (blk_cell BK322.out 1).trans rfl
  have hcz12_2 : w6.cell? ⟨gb322, 2, none⟩ = some (.int .i64 a0_2) := (blk_cell BK322.out 2).trans rfl
  have hcz12_3 : w6.cell? ⟨gb322, 3, none⟩ = some (.int .i64 a0_3) := (blk_cell BK322.out 3).trans rfl
  have hcz12_4 : w6.cell? ⟨gb322, 4, none⟩ = some (.int .i64 a0_4) := (blk_cell BK322.out 4).trans rfl
  have hfz12_0 := blk_frozen BK322.out 0
  have hfz12_1 := blk_frozen BK322.out 1
  have hfz12_2 := blk_frozen BK322.out 2
  have hfz12_3 := blk_frozen BK322.out 3
  have hfz12_4 := blk_frozen BK322.out 4
  go_wp2_with (first | ((with_reducible refine gate_callee (f := 56) rfl ?_); refine goesL_ (some 12) rfl rfl Tryd.func56 (by kernel_rfl) rfl #[.int .i64 a0_4] rfl (by (try simp only [List.map_toArray, List.map_cons, List.map_nil]); first | done | rfl | (simp only [List.length_drop, List.length_take]; rfl)) ?_; (with_reducible refine (impl_Digits.calls a0_4 t324 _ ?side1 A10.out).mono ?_); (case side1 => exact tab_below HT.out (by repeat (first | (with_reducible first | exact HB.out | apply below_alloc | apply pw_below_drewN | apply below_drew1 | refine below_set ?_ GE322.out) | exact HB.out))); rintro e w13 ⟨rfl, hb⟩; refine ⟨_, rfl, ?_⟩; have n_ := impl_NodeText.K2_ (blk_below (g := gb322) (o := .cells #[.int .i64 a0_0, .int .i64 a0_1, .int .i64 a0_2, .int .i64 a0_3, .int .i64 a0_4] 23 (0, 0)) (by (with_reducible repeat (first | refine blk_drewN ?_ _ | refine blk_drew ?_ | refine blk_alloc ?_ _)); exact BK322.out) hb) (below_step (by repeat (first | (with_reducible first | exact HB.out | apply below_alloc | apply pw_below_drewN | apply below_drew1 | refine below_set ?_ GE322.out) | exact HB.out)) hb); clear BK322 HB; obtain ⟨BK322, HB⟩ := n_; (try clear hb); (try clear hb2); (try clear hk); (try clear hi)))
  go_ret
  exact ⟨by first | rfl | (simp [errW_none, errW_some] <;> rfl) | (simp [*, errW_none, errW_some] <;> rfl), by repeat (first | (with_reducible first | exact HB.out | apply below_alloc | apply pw_below_drewN | apply below_drew1 | refine below_set ?_ GE322.out) | exact HB.out)⟩
 replace c7 := Bool.eq_false_iff.mpr c7
 subst c7
 have H1 : ((impl_within.f a0_0 0 3).bind fun t325 => (if t325 = true then ((impl_isDecimal.f a0_1).bind fun t326 => (if t326 = true then ((impl_within.f a0_2 1 30).bind fun t327 => (if t327 = true then ((impl_within.f a0_3 1 30).bind fun t328 => (if t328 = true then (impl_NodeText.j0 k (a0_4 != 0) a0_0 a0_1 a0_2 a0_3 a0_4) else (impl_NodeText.j0 k true a0_0 a0_1 a0_2 a0_3 a0_4))) else (impl_NodeText.j0 k true a0_0 a0_1 a0_2 a0_3 a0_4))) else (impl_NodeText.j0 k true a0_0 a0_1 a0_2 a0_3 a0_4))) else (impl_NodeText.j0 k true a0_0 a0_1 a0_2 a0_3 a0_4))) = some r := by rw [if_neg (show ¬ (false = true) by decide)] at H; exact H
 clear H
 have H := H1
 clear H1
 have HC14 := Aside0.mk H
 clear H
 go_upto_region 5 with (fail)
 go_cut [40] (fun v40 wc => ∃ (kq : Nat) (x40_13 : Bool), v40 = .bool x40_13 ∧ Aside0 (impl_NodeText.j0 kq x40_13 a0_0 a0_1 a0_2 a0_3 a0_4 = some r) ∧ Aside0 (kq ≤ k) ∧ Aside0 (wc.heap[gb322]? = some (.cells #[.int .i64 a0_0, .int .i64 a0_1, .int .i64 a0_2, .int .i64 a0_3, .int .i64 a0_4] 23 (0, 0))) ∧ Aside0 (Below w.heap.size w wc))
 case first =>
  have H := HC14.out
  clear HC14
  replace H := Option.bind_eq_some_iff.mp H
  obtain ⟨t325, A150, H⟩ := H
  replace H : (if t325 = true then ((impl_isDecimal.f a0_1).bind fun t326 => (if t326 = true then ((impl_within.f a0_2 1 30).bind fun t327 => (if t327 = true then ((impl_within.f a0_3 1 30).bind fun t328 => (if t328 = true then (impl_NodeText.j0 k (a0_4 != 0) a0_0 a0_1 a0_2 a0_3 a0_4) else (impl_NodeText.j0 k true a0_0 a0_1 a0_2 a0_3 a0_4))) else (impl_NodeText.j0 k true a0_0 a0_1 a0_2 a0_3 a0_4))) else (impl_NodeText.j0 k true a0_0 a0_1 a0_2 a0_3 a0_4))) else (impl_NodeText.j0 k true a0_0 a0_1 a0_2 a0_3 a0_4)) = some r := H
  have A15 := Aside0.mk A150
  clear A150
  by_cases c16 : t325 = true
  case neg =>
   replace c16 := Bool.eq_false_iff.mpr c16
   subst c16
   have H1 : (impl_NodeText.j0 k true a0_0 a0_1 a0_2 a0_3 a0_4) = some r := by rw [if_neg (show ¬ (false = true) by decide)] at H; exact H
   clear H
   have H := H1
   clear H1
   have H' := Aside0.mk H
   clear H
   have hcz27_0 : w6.cell? ⟨gb322, 0, none⟩ = some (.int .i64 a0_0) := (blk_cell BK322.out 0).trans rfl
   have hcz27_1 : w6.cell? ⟨gb322, 1, none⟩ = some (.int .i64 a0_1) := (blk_cell BK322.out 1).trans rfl
   have hcz27_2 : w6.cell? ⟨gb322, 2, none⟩ = some (.int .i64 a0_2) := (blk_cell BK322.out 2).trans rfl
   have hcz27_3 : w6.cell? ⟨gb322, 3, none⟩ = some (.int .i64 a0_3) := (blk_cell BK322.out 3).trans rfl
   have hcz27_4 : w6.cell? ⟨gb322, 4, none⟩ = some (.int .i64 a0_4) := (blk_cell BK322.out 4).trans rfl
   have hfz27_0 := blk_frozen BK322.out 0
   have hfz27_1 := blk_frozen BK322.out 1
   have hfz27_2 := blk_frozen BK322.out 2
   have hfz27_3 := blk_frozen BK322.out 3
   have hfz27_4 := blk_frozen BK322.out 4
   go_wp2_with (first | ((with_reducible refine gate_callee (f := 62) rfl ?_); refine goesL_ (some 16) rfl rfl Tryd.func62 (by kernel_rfl) rfl #[.int .i64 a0_0, .int .i64 0, .int .i64 3] rfl (by (try simp only [List.map_toArray, List.map_cons, List.map_nil]); first | done | rfl | (simp only [List.length_drop, List.length_take]; rfl)) ?_; (with_reducible refine (impl_within.calls a0_0 0 3 false _ A15.out).mono ?_); rintro e w' ⟨rfl, ⟨nd, rfl⟩⟩; refine ⟨_, rfl, ?_⟩))
   go_meet
   case rel => exact ⟨_, (true), (by first | rfl | (simp; done) | (simp [*]; done)), H', ⟨by first | omega | exact Nat.le_refl _⟩, ⟨by (with_reducible repeat (first | refine blk_drewN ?_ _ | refine blk_drew ?_ | refine blk_alloc ?_ _)); exact BK322.out⟩, ⟨by repeat (first | (with_reducible first | exact HB.out | apply below_alloc | apply pw_below_drewN | apply below_drew1 | refine below_set ?_ GE322.out) | exact HB.out)⟩⟩
  subst c16
  have H1 : ((impl_isDecimal.f a0_1).bind fun t326 => (if t326 = true then ((impl_within.f a0_2 1 30).bind fun t327 => (if t327 = true then ((impl_within.f a0_3 1 30).bind fun t328 => (if t328 = true then (impl_NodeText.j0 k (a0_4 != 0) a0_0 a0_1 a0_2 a0_3 a0_4) else (impl_NodeText.j0 k true a0_0 a0_1 a0_2 a0_3 a0_4))) else (impl_NodeText.j0 k true a0_0 a0_1 a0_2 a0_3 a0_4))) else (impl_NodeText.j0 k true a0_0 a0_1 a0_2 a0_3 a0_4))) = some r := by rw [if_pos rfl] at H; exact H
  clear H
  have H := H1
  clear H1
  replace H := Option.bind_eq_some_iff.mp H
  obtain ⟨t326, A170, H⟩ := H
  replace H : (if t326 = true then ((impl_within.f a0_2 1 30).bind fun t327 => (if t327 = true then ((impl_within.f a0_3 1 30).bind fun t328 => (if t328 = true then (impl_NodeText.j0 k (a0_4 != 0) a0_0 a0_1 a0_2 a0_3 a0_4) else (impl_NodeText.j0 k true a0_0 a0_1 a0_2 a0_3 a0_4))) else (impl_NodeText.j0 k true a0_0 a0_1 a0_2 a0_3 a0_4))) else (impl_NodeText.j0 k true a0_0 a0_1 a0_2 a0_3 a0_4)) = some r := H
  have A17 := Aside0.mk A170
  clear A170
  by_cases c18 : t326 = true
  case neg =>
   replace c18 := Bool.eq_false_iff.mpr c18
   subst c18
   have H1 : (impl_NodeText.j0 k true a0_0 a0_1 a0_2 a0_3 a0_4) = some r := by rw [if_neg (show ¬ (false = true) by decide)] at H; exact H
   clear H
   have H := H1
   clear H1
   have H' := Aside0.mk H
   clear H
   have hcz26_0 : w6.cell? ⟨gb322, 0, none⟩ = some (.int .i64 a0_0) := (blk_cell BK322.out 0).trans rfl
   have hcz26_1 : w6.cell? ⟨gb322, 1, none⟩ = some (.int .i64 a0_1) := (blk_cell BK322.out 1).trans rfl
   have hcz26_2 : w6.cell? ⟨gb322, 2, none⟩ = some (.int .i64 a0_2) := (blk_cell BK322.out 2).trans rfl
   have hcz26_3 : w6.cell? ⟨gb322, 3, none⟩ = some (.int .i64 a0_3) := (blk_cell BK322.out 3).trans rfl
   have hcz26_4 : w6.cell? ⟨gb322, 4, none⟩ = some (.int .i64 a0_4) := (blk_cell BK322.out 4).trans rfl
   have hfz26_0 := blk_frozen BK322.out 0
   have hfz26_1 := blk_frozen BK322.out 1
   have hfz26_2 := blk_frozen BK322.out 2
   have hfz26_3 := blk_frozen BK322.out 3
   have hfz26_4 := blk_frozen BK322.out 4
   go_wp2_with (first | ((with_reducible refine gate_callee (f := 62) rfl ?_); refine goesL_ (some 16) rfl rfl Tryd.func62 (by kernel_rfl) rfl #[.int .i64 a0_0, .int .i64 0, .int .i64 3] rfl (by (try simp only [List.map_toArray, List.map_cons, List.map_nil]); first | done | rfl | (simp only [List.length_drop, List.length_take]; rfl)) ?_; (with_reducible refine (impl_within.calls a0_0 0 3 true _ A15.out).mono ?_); rintro e w' ⟨rfl, ⟨nd, rfl⟩⟩; refine ⟨_, rfl, ?_⟩) | (go_at_call 63; (with_reducible refine (impl_isDecimal.calls a0_1 false _ A17.out).mono ?_); rintro e w' ⟨rfl, ⟨nd, rfl⟩⟩))
   go_meet
   case rel => exact ⟨_, (true), (by first | rfl | (simp; done) | (simp [*]; done)), H', ⟨by first | omega | exact Nat.le_refl _⟩, ⟨by (with_reducible repeat (first | refine blk_drewN ?_ _ | refine blk_drew ?_ | refine blk_alloc ?_ _)); exact BK322.out⟩, ⟨by repeat (first | (with_reducible first | exact HB.out | apply below_alloc | apply pw_below_drewN | apply below_drew1 | refine below_set ?_ GE322.out) | exact HB.out)⟩⟩
  subst c18
  have H1 : ((impl_within.f a0_2 1 30).bind fun t327 => (if t327 = true then ((impl_within.f a0_3 1 30).bind fun t328 => (if t328 = true then (impl_NodeText.j0 k (a0_4 != 0) a0_0 a0_1 a0_2 a0_3 a0_4) else (impl_NodeText.j0 k true a0_0 a0_1 a0_2 a0_3 a0_4))) else (impl_NodeText.j0 k true a0_0 a0_1 a0_2 a0_3 a0_4))) = some r := by rw [if_pos rfl] at H; exact H
  clear H
  have H := H1
  clear H1
  replace H := Option.bind_eq_some_iff.mp H
  obtain ⟨t327, A190, H⟩ := H
  replace H : (if t327 = true then ((impl_within.f a0_3 1 30).bind fun t328 => (if t328 = true then (impl_NodeText.j0 k (a0_4 != 0) a0_0 a0_1 a0_2 a0_3 a0_4) else (impl_NodeText.j0 k true a0_0 a0_1 a0_2 a0_3 a0_4))) else (impl_NodeText.j0 k true a0_0 a0_1 a0_2 a0_3 a0_4)) = some r := H
  have A19 := Aside0.mk A190
  clear A190
  by_cases c20 : t327 = true
  case neg =>
   replace c20 := Bool.eq_false_iff.mpr c20
   subst c20
   have H1 : (impl_NodeText.j0 k true a0_0 a0_1 a0_2 a0_3 a0_4) = some r := by rw [if_neg (show ¬ (false = true) by decide)] at H; exact H
   clear H
   have H := H1
   clear H1
   have H' := Aside0.mk H
   clear H
   have hcz25_0 : w6.cell? ⟨gb322, 0, none⟩ = some (.int .i64 a0_0) := (blk_cell BK322.out 0).trans rfl
   have hcz25_1 : w6.cell? ⟨gb322, 1, none⟩ = some (.int .i64 a0_1) := (blk_cell BK322.out 1).trans rfl
   have hcz25_2 : w6.cell? ⟨gb322, 2, none⟩ = some (.int .i64 a0_2) := (blk_cell BK322.out 2).trans rfl
   have hcz25_3 : w6.cell? ⟨gb322, 3, none⟩ = some (.int .i64 a0_3) := (blk_cell BK322.out 3).trans rfl
   have hcz25_4 : w6.cell? ⟨gb322, 4, none⟩ = some (.int .i64 a0_4) := (blk_cell BK322.out 4).trans rfl
   have hfz25_0 := blk_frozen BK322.out 0
   have hfz25_1 := blk_frozen BK322.out 1
   have hfz25_2 := blk_frozen BK322.out 2
   have hfz25_3 := blk_frozen BK322.out 3
   have hfz25_4 := blk_frozen BK322.out 4
   go_wp2_with (first | ((with_reducible refine gate_callee (f := 62) rfl ?_); refine goesL_ (some 16) rfl rfl Tryd.func62 (by kernel_rfl) rfl #[.int .i64 a0_0, .int .i64 0, .int .i64 3] rfl (by (try simp only [List.map_toArray, List.map_cons, List.map_nil]); first | done | rfl | (simp only [List.length_drop, List.length_take]; rfl)) ?_; (with_reducible refine (impl_within.calls a0_0 0 3 true _ A15.out).mono ?_); rintro e w' ⟨rfl, ⟨nd, rfl⟩⟩; refine ⟨_, rfl, ?_⟩) | (go_at_call 63; (with_reducible refine (impl_isDecimal.calls a0_1 true _ A17.out).mono ?_); rintro e w' ⟨rfl, ⟨nd, rfl⟩⟩) | (go_at_call 62; (with_reducible refine (impl_within.calls a0_2 1 30 false _ A19.out).mono ?_); rintro e w' ⟨rfl, ⟨nd, rfl⟩⟩))
   go_meet
   case rel => exact ⟨_, (true), (by first | rfl | (simp; done) | (simp [*]; done)), H', ⟨by first | omega | exact Nat.le_refl _⟩, ⟨by (with_reducible repeat (first | refine blk_drewN ?_ _ | refine blk_drew ?_ | refine blk_alloc ?_ _)); exact BK322.out⟩, ⟨by repeat (first | (with_reducible first | exact HB.out | apply below_alloc | apply pw_below_drewN | apply below_drew1 | refine below_set ?_ GE322.out) | exact HB.out)⟩⟩
  subst c20
  have H1 : ((impl_within.f a0_3 1 30).bind fun t328 => (if t328 = true then (impl_NodeText.j0 k (a0_4 != 0) a0_0 a0_1 a0_2 a0_3 a0_4) else (impl_NodeText.j0 k true a0_0 a0_1 a0_2 a0_3 a0_4))) = some r := by rw [if_pos rfl] at H; exact H
  clear H
  have H := H1
  clear H1
  replace H := Option.bind_eq_some_iff.mp H
  obtain ⟨t328, A210, H⟩ := H
  replace H : (if t328 = true then (impl_NodeText.j0 k (a0_4 != 0) a0_0 a0_1 a0_2 a0_3 a0_4) else (impl_NodeText.j0 k true a0_0 a0_1 a0_2 a0_3 a0_4)) = some r := H
  have A21 := Aside0.mk A210
  clear A210
  by_cases c22 : t328 = true
  case pos =>
   subst c22
   have H1 : (impl_NodeText.j0 k (a0_4 != 0) a0_0 a0_1 a0_2 a0_3 a0_4) = some r := by rw [if_pos rfl] at H; exact H
   clear H
   have H := H1
   clear H1
   have H' := Aside0.mk H
   clear H
   have hcz23_0 : w6.cell? ⟨gb322, 0, none⟩ = some (.int .i64 a0_0) := (blk_cell BK322.out 0).trans rfl
   have hcz23_1 : w6.cell? ⟨gb322, 1, none⟩ = some (.int .i64 a0_1) := (blk_cell BK322.out 1).trans rfl
   have hcz23_2 : w6.cell? ⟨gb322, 2, none⟩ = some (.int .i64 a0_2) := (blk_cell BK322.out 2).trans rfl
   have hcz23_3 : w6.cell? ⟨gb322, 3, none⟩ = some (.int .i64 a0_3) := (blk_cell BK322.out 3).trans rfl
   have hcz23_4 : w6.cell? ⟨gb322, 4, none⟩ = some (.int .i64 a0_4) := (blk_cell BK322.out 4).trans rfl
   have hfz23_0 := blk_frozen BK322.out 0
   have hfz23_1 := blk_frozen BK322.out 1
   have hfz23_2 := blk_frozen BK322.out 2
   have hfz23_3 := blk_frozen BK322.out 3
   have hfz23_4 := blk_frozen BK322.out 4
   go_wp2_with (first | ((with_reducible refine gate_callee (f := 62) rfl ?_); refine goesL_ (some 16) rfl rfl Tryd.func62 (by kernel_rfl) rfl #[.int .i64 a0_0, .int .i64 0, .int .i64 3] rfl (by (try simp only [List.map_toArray, List.map_cons, List.map_nil]); first | done | rfl | (simp only [List.length_drop, List.length_take]; rfl)) ?_; (with_reducible refine (impl_within.calls a0_0 0 3 true _ A15.out).mono ?_); rintro e w' ⟨rfl, ⟨nd, rfl⟩⟩; refine ⟨_, rfl, ?_⟩) | (go_at_call 63; (with_reducible refine (impl_isDecimal.calls a0_1 true _ A17.out).mono ?_); rintro e w' ⟨rfl, ⟨nd, rfl⟩⟩) | (go_at_call 62; (with_reducible refine (impl_within.calls a0_2 1 30 true _ A19.out).mono ?_); rintro e w' ⟨rfl, ⟨nd, rfl⟩⟩) | (go_at_call 62; (with_reducible refine (impl_within.calls a0_3 1 30 true _ A21.out).mono ?_); rintro e w' ⟨rfl, ⟨nd, rfl⟩⟩))
   go_meet
   case rel => exact ⟨_, ((a0_4 != 0)), (by first | rfl | (simp; done) | (simp [*]; done)), H', ⟨by first | omega | exact Nat.le_refl _⟩, ⟨by (with_reducible repeat (first | refine blk_drewN ?_ _ | refine blk_drew ?_ | refine blk_alloc ?_ _)); exact BK322.out⟩, ⟨by repeat (first | (with_reducible first | exact HB.out | apply below_alloc | apply pw_below_drewN | apply below_drew1 | refine below_set ?_ GE322.out) | exact HB.out)⟩⟩
  replace c22 := Bool.eq_false_iff.mpr c22
  subst c22
  have H1 : (impl_NodeText.j0 k true a0_0 a0_1 a0_2 a0_3 a0_4) = some r := by rw [if_neg (show ¬ (false = true) by decide)] at H; exact H
  clear H
  have H := H1
  clear H1
  have H' := Aside0.mk H
  clear H
  have hcz24_0 : w6.cell? ⟨gb322, 0, none⟩ = some (.int .i64 a0_0) := (blk_cell BK322.out 0).trans rfl
  have hcz24_1 : w6.cell? ⟨gb322, 1, none⟩ = some (.int .i64 a0_1) := (blk_cell BK322.out 1).trans rfl
  have hcz24_2 : w6.cell? ⟨gb322, 2, none⟩ = some (.int .i64 a0_2) := (blk_cell BK322.out 2).trans rfl
  have hcz24_3 : w6.cell? ⟨gb322, 3, none⟩ = some (.int .i64 a0_3) := (blk_cell BK322.out 3).trans rfl
  have hcz24_4 : w6.cell? ⟨gb322, 4, none⟩ = some (.int .i64 a0_4) := (blk_cell BK322.out 4).trans rfl
  have hfz24_0 := blk_frozen BK322.out 0
  have hfz24_1 := blk_frozen BK322.out 1
  have hfz24_2 := blk_frozen BK322.out 2
  have hfz24_3 := blk_frozen BK322.out 3
  have hfz24_4 := blk_frozen BK322.out 4
  go_wp2_with (first | ((with_reducible refine gate_callee (f := 62) rfl ?_); refine goesL_ (some 16) rfl rfl Tryd.func62 (by kernel_rfl) rfl #[.int .i64 a0_0, .int .i64 0, .int .i64 3] rfl (by (try simp only [List.map_toArray, List.map_cons, List.map_nil]); first | done | rfl | (simp only [List.length_drop, List.length_take]; rfl)) ?_; (with_reducible refine (impl_within.calls a0_0 0 3 true _ A15.out).mono ?_); rintro e w' ⟨rfl, ⟨nd, rfl⟩⟩; refine ⟨_, rfl, ?_⟩) | (go_at_call 63; (with_reducible refine (impl_isDecimal.calls a0_1 true _ A17.out).mono ?_); rintro e w' ⟨rfl, ⟨nd, rfl⟩⟩) | (go_at_call 62; (with_reducible refine (impl_within.calls a0_2 1 30 true _ A19.out).mono ?_); rintro e w' ⟨rfl, ⟨nd, rfl⟩⟩) | (go_at_call 62; (with_reducible refine (impl_within.calls a0_3 1 30 false _ A21.out).mono ?_); rintro e w' ⟨rfl, ⟨nd, rfl⟩⟩))
  go_meet
  case rel => exact ⟨_, (true), (by first | rfl | (simp; done) | (simp [*]; done)), H', ⟨by first | omega | exact Nat.le_refl _⟩, ⟨by (with_reducible repeat (first | refine blk_drewN ?_ _ | refine blk_drew ?_ | refine blk_alloc ?_ _)); exact BK322.out⟩, ⟨by repeat (first | (with_reducible first | exact HB.out | apply below_alloc | apply pw_below_drewN | apply below_drew1 | refine below_set ?_ GE322.out) | exact HB.out)⟩⟩
 case rest =>
  clear HC14
  try clear c1
  try clear c2
  try clear p2
  try clear c5
  try clear c6
  try clear c7
  try clear c8
  try clear c8b0
  try clear c11
  try clear c11b0
  try clear c11b1
  try clear c11b2
  try clear c16
  try clear c18
  try clear c19
  try clear c20
  try clear c22
  try clear hcz12_0
  try clear hcz12_1
  try clear hcz12_2
  try clear hcz12_3
  try clear hcz12_4
  try clear hcz23_0
  try clear hcz23_1
  try clear hcz23_2
  try clear hcz23_3
  try clear hcz23_4
  try clear hcz24_0
  try clear hcz24_1
  try clear hcz24_2
  try clear hcz24_3
  try clear hcz24_4
  try clear hcz25_0
  try clear hcz25_1
  try clear hcz25_2
  try clear hcz25_3
  try clear hcz25_4
  try clear hcz26_0
  try clear hcz26_1
  try clear hcz26_2
  try clear hcz26_3
  try clear hcz26_4
  try clear hcz27_0
  try clear hcz27_1
  try clear hcz27_2
  try clear hcz27_3
  try clear hcz27_4
  try clear hcz5_0
  try clear hcz5_1
  try clear hcz5_2
  try clear hcz5_3
  try clear hcz5_4
  try clear hcz9_0
  try clear hcz9_1
  try clear hcz9_2
  try clear hcz9_3
  try clear hcz9_4
  try clear hfz12_0
  try clear hfz12_1
  try clear hfz12_2
  try clear hfz12_3
  try clear hfz12_4
  try clear hfz23_0
  try clear hfz23_1
  try clear hfz23_2
  try clear hfz23_3
  try clear hfz23_4
  try clear hfz24_0
  try clear hfz24_1
  try clear hfz24_2
  try clear hfz24_3
  try clear hfz24_4
  try clear hfz25_0
  try clear hfz25_1
  try clear hfz25_2
  try clear hfz25_3
  try clear hfz25_4
  try clear hfz26_0
  try clear hfz26_1
  try clear hfz26_2
  try clear hfz26_3
  try clear hfz26_4
  try clear hfz27_0
  try clear hfz27_1
  try clear hfz27_2
  try clear hfz27_3
  try clear hfz27_4
  try clear hfz5_0
  try clear hfz5_1
  try clear hfz5_2
  try clear hfz5_3
  try clear hfz5_4
  try clear hfz9_0
  try clear hfz9_1
  try clear hfz9_2
  try clear hfz9_3
  try clear hfz9_4
  obtain ⟨kq, x40_13, rfl, HA, HJ13, BK322, HB⟩ := hcut
  cases kq with
  | zero => exact absurd HA.out (by simp [impl_NodeText.j0])
  | succ kj13 =>
   have H := HA.out
   clear HA
   simp only [impl_NodeText.j0] at H
   by_cases c28 : x40_13 = true
   case pos =>
    subst c28
    have H1 : (some (⟨#[]⟩ : ByteArray)) = some r := by rw [if_pos rfl] at H; exact H
    clear H
    have H := H1
    clear H1
    obtain rfl := Option.some.inj H
    go_wp2
    go_ret
    exact ⟨by first | rfl | (simp [errW_none, errW_some] <;> rfl) | (simp [*, errW_none, errW_some] <;> rfl), by repeat (first | (with_reducible first | exact HB.out | apply below_alloc | apply pw_below_drewN | apply below_drew1 | refine below_set ?_ GE322.out) | exact HB.out)⟩
   replace c28 := Bool.eq_false_iff.mpr c28
   subst c28
   have H1 : ((impl_Digits.f a0_0).bind fun t329 => (if t329.size + 1 ≤ 9223372036854775807 then ((impl_Digits.f a0_1).bind fun t330 => (if (t329 ++ (⟨#[60]⟩ : ByteArray)).size + t330.size ≤ 9223372036854775807 then (if ((t329 ++ (⟨#[60]⟩ : ByteArray)) ++ t330).size + 1 ≤ 9223372036854775807 then ((impl_Digits.f a0_2).bind fun t331 => (if (((t329 ++ (⟨#[60]⟩ : ByteArray)) ++ t330) ++ (⟨#[58]⟩ : ByteArray)).size + t331.size ≤ 9223372036854775807 then (if ((((t329 ++ (⟨#[60]⟩ : ByteArray)) ++ t330) ++ (⟨#[58]⟩ : ByteArray)) ++ t331).size + 1 ≤ 9223372036854775807 then ((impl_Digits.f a0_3).bind fun t332 => (if (((((t329 ++ (⟨#[60]⟩ : ByteArray)) ++ t330) ++ (⟨#[58]⟩ : ByteArray)) ++ t331) ++ (⟨#[44]⟩ : ByteArray)).size + t332.size ≤ 9223372036854775807 then (some ((((((t329 ++ (⟨#[60]⟩ : ByteArray)) ++ t330) ++ (⟨#[58]⟩ : ByteArray)) ++ t331) ++ (⟨#[44]⟩ : ByteArray)) ++ t332)) else (none))) else (none)) else (none))) else (none)) else (none))) else (none))) = some r := by rw [if_neg (show ¬ (false = true) by decide)] at H; exact H
   clear H
   have H := H1
   clear H1
   replace H := Option.bind_eq_some_iff.mp H
   obtain ⟨t329, A290, H⟩ := H
   replace H : (if t329.size + 1 ≤ 9223372036854775807 then ((impl_Digits.f a0_1).bind fun t330 => (if (t329 ++ (⟨#[60]⟩ : ByteArray)).size + t330.size ≤ 9223372036854775807 then (if ((t329 ++ (⟨#[60]⟩ : ByteArray)) ++ t330).size + 1 ≤ 9223372036854775807 then ((impl_Digits.f a0_2).bind fun t331 => (if (((t329 ++ (⟨#[60]⟩ : ByteArray)) ++ t330) ++ (⟨#[58]⟩ : ByteArray)).size + t331.size ≤ 9223372036854775807 then (if ((((t329 ++ (⟨#[60]⟩ : ByteArray)) ++ t330) ++ (⟨#[58]⟩ : ByteArray)) ++ t331).size + 1 ≤ 9223372036854775807 then ((impl_Digits.f a0_3).bind fun t332 => (if (((((t329 ++ (⟨#[60]⟩ : ByteArray)) ++ t330) ++ (⟨#[58]⟩ : ByteArray)) ++ t331) ++ (⟨#[44]⟩ : ByteArray)).size + t332.size ≤ 9223372036854775807 then (some ((((((t329 ++ (⟨#[60]⟩ : ByteArray)) ++ t330) ++ (⟨#[58]⟩ : ByteArray)) ++ t331) ++ (⟨#[44]⟩ : ByteArray)) ++ t332)) else (none))) else (none)) else (none))) else (none)) else (none))) else (none)) = some r := H
   have A29 := Aside0.mk A290
   clear A290
   by_cases c30 : t329.size + 1 ≤ 9223372036854775807
   case neg =>
    rw [if_neg c30] at H
    exact absurd H (by simp)
   rw [if_pos c30] at H
   have c30b0 := eq_true c30
   have c30b1 : decide (t329.size + 1 ≤ 9223372036854775807) = true := decide_eq_true c30
   try have c30b2 : (9223372036854775807 < t329.size + 1) = False := eq_false (Nat.not_lt.2 c30)
   replace H := Option.bind_eq_some_iff.mp H
   obtain ⟨t330, A310, H⟩ := H
   replace H : (if (t329 ++ (⟨#[60]⟩ : ByteArray)).size + t330.size ≤ 9223372036854775807 then (if ((t329 ++ (⟨#[60]⟩ : ByteArray)) ++ t330).size + 1 ≤ 9223372036854775807 then ((impl_Digits.f a0_2).bind fun t331 => (if (((t329 ++ (⟨#[60]⟩ : ByteArray)) ++ t330) ++ (⟨#[58]⟩ : ByteArray)).size + t331.size ≤ 9223372036854775807 then (if ((((t329 ++ (⟨#[60]⟩ : ByteArray)) ++ t330) ++ (⟨#[58]⟩ : ByteArray)) ++ t331).size + 1 ≤ 9223372036854775807 then ((impl_Digits.f a0_3).bind fun t332 => (if (((((t329 ++ (⟨#[60]⟩ : ByteArray)) ++ t330) ++ (⟨#[58]⟩ : ByteArray)) ++ t331) ++ (⟨#[44]⟩ : ByteArray)).size + t332.size ≤ 9223372036854775807 then (some ((((((t329 ++ (⟨#[60]⟩ : ByteArray)) ++ t330) ++ (⟨#[58]⟩ : ByteArray)) ++ t331) ++ (⟨#[44]⟩ : ByteArray)) ++ t332)) else (none))) else (none)) else (none))) else (none)) else (none)) = some r := H
   have A31 := Aside0.mk A310
   clear A310
   by_cases c32 : (t329 ++ (⟨#[60]⟩ : ByteArray)).size + t330.size ≤ 9223372036854775807
   case neg =>
    rw [if_neg c32] at H
    exact absurd H (by simp)
   rw [if_pos c32] at H
   have c32b0 := eq_true c32
   have c32b1 : decide ((t329 ++ (⟨#[60]⟩ : ByteArray)).size + t330.size ≤ 9223372036854775807) = true := decide_eq_true c32
   try have c32b2 : (9223372036854775807 < (t329 ++ (⟨#[60]⟩ : ByteArray)).size + t330.size) = False := eq_false (Nat.not_lt.2 c32)
   (try (have c32n := c32; simp only [ByteArray.size_append, show (⟨#[60]⟩ : ByteArray).size = 1 from rfl] at c32n; have c32m := eq_false (Nat.not_lt.2 c32n)))
   by_cases c33 : ((t329 ++ (⟨#[60]⟩ : ByteArray)) ++ t330).size + 1 ≤ 9223372036854775807
   case neg =>
    rw [if_neg c33] at H
    exact absurd H (by simp)
   rw [if_pos c33] at H
   have c33b0 := eq_true c33
   have c33b1 : decide (((t329 ++ (⟨#[60]⟩ : ByteArray)) ++ t330).size + 1 ≤ 9223372036854775807) = true := decide_eq_true c33
   try have c33b2 : (9223372036854775807 < ((t329 ++ (⟨#[60]⟩ : ByteArray)) ++ t330).size + 1) = False := eq_false (Nat.not_lt.2 c33)
   (try (have c33n := c33; simp only [ByteArray.size_append, show (⟨#[60]⟩ : ByteArray).size = 1 from rfl] at c33n; have c33m := eq_false (Nat.not_lt.2 c33n)))
   replace H := Option.bind_eq_some_iff.mp H
   obtain ⟨t331, A340, H⟩ := H
   replace H : (if (((t329 ++ (⟨#[60]⟩ : ByteArray)) ++ t330) ++ (⟨#[58]⟩ : ByteArray)).size + t331.size ≤ 9223372036854775807 then (if ((((t329 ++ (⟨#[60]⟩ : ByteArray)) ++ t330) ++ (⟨#[58]⟩ : ByteArray)) ++ t331).size + 1 ≤ 9223372036854775807 then ((impl_Digits.f a0_3).bind fun t332 => (if (((((t329 ++ (⟨#[60]⟩ : ByteArray)) ++ t330) ++ (⟨#[58]⟩ : ByteArray)) ++ t331) ++ (⟨#[44]⟩ : ByteArray)).size + t332.size ≤ 9223372036854775807 then (some ((((((t329 ++ (⟨#[60]⟩ : ByteArray)) ++ t330) ++ (⟨#[58]⟩ : ByteArray)) ++ t331) ++ (⟨#[44]⟩ : ByteArray)) ++ t332)) else (none))) else (none)) else (none)) = some r := H
   have A34 := Aside0.mk A340
   clear A340
   by_cases c35 : (((t329 ++ (⟨#[60]⟩ : ByteArray)) ++ t330) ++ (⟨#[58]⟩ : ByteArray)).size + t331.size ≤ 9223372036854775807
   case neg =>
    rw [if_neg c35] at H
    exact absurd H (by simp)
   rw [if_pos c35] at H
   have c35b0 := eq_true c35
   have c35b1 : decide ((((t329 ++ (⟨#[60]⟩ : ByteArray)) ++ t330) ++ (⟨#[58]⟩ : ByteArray)).size + t331.size ≤ 9223372036854775807) = true := decide_eq_true c35
   try have c35b2 : (9223372036854775807 < (((t329 ++ (⟨#[60]⟩ : ByteArray)) ++ t330) ++ (⟨#[58]⟩ : ByteArray)).size + t331.size) = False := eq_false (Nat.not_lt.2 c35)
   (try (have c35n := c35; simp only [ByteArray.size_append, show (⟨#[58]⟩ : ByteArray).size = 1 from rfl, show (⟨#[60]⟩ : ByteArray).size = 1 from rfl] at c35n; have c35m := eq_false (Nat.not_lt.2 c35n)))
   by_cases c36 : ((((t329 ++ (⟨#[60]⟩ : ByteArray)) ++ t330) ++ (⟨#[58]⟩ : ByteArray)) ++ t331).size + 1 ≤ 9223372036854775807
   case neg =>
    rw [if_neg c36] at H
    exact absurd H (by simp)
   rw [if_pos c36] at H
   have c36b0 := eq_true c36
   have c36b1 : decide (((((t329 ++ (⟨#[60]⟩ : ByteArray)) ++ t330) ++ (⟨#[58]⟩ : ByteArray)) ++ t331).size + 1 ≤ 9223372036854775807) = true := decide_eq_true c36
   try have c36b2 : (9223372036854775807 < ((((t329 ++ (⟨#[60]⟩ : ByteArray)) ++ t330) ++ (⟨#[58]⟩ : ByteArray)) ++ t331).size + 1) = False := eq_false (Nat.not_lt.2 c36)
   (try (have c36n := c36; simp only [ByteArray.size_append, show (⟨#[58]⟩ : ByteArray).size = 1 from rfl, show (⟨#[60]⟩ : ByteArray).size = 1 from rfl] at c36n; have c36m := eq_false (Nat.not_lt.2 c36n)))
   replace H := Option.bind_eq_some_iff.mp H
   obtain ⟨t332, A370, H⟩ := H
   replace H : (if (((((t329 ++ (⟨#[60]⟩ : ByteArray)) ++ t330) ++ (⟨#[58]⟩ : ByteArray)) ++ t331) ++ (⟨#[44]⟩ : ByteArray)).size + t332.size ≤ 9223372036854775807 then (some ((((((t329 ++ (⟨#[60]⟩ : ByteArray)) ++ t330) ++ (⟨#[58]⟩ : ByteArray)) ++ t331) ++ (⟨#[44]⟩ : ByteArray)) ++ t332)) else (none)) = some r := H
   have A37 := Aside0.mk A370
   clear A370
   by_cases c38 : (((((t329 ++ (⟨#[60]⟩ : ByteArray)) ++ t330) ++ (⟨#[58]⟩ : ByteArray)) ++ t331) ++ (⟨#[44]⟩ : ByteArray)).size + t332.size ≤ 9223372036854775807
   case neg =>
    rw [if_neg c38] at H
    exact absurd H (by simp)
   rw [if_pos c38] at H
   have c38b0 := eq_true c38
   have c38b1 : decide ((((((t329 ++ (⟨#[60]⟩ : ByteArray)) ++ t330) ++ (⟨#[58]⟩ : ByteArray)) ++ t331) ++ (⟨#[44]⟩ : ByteArray)).size + t332.size ≤ 9223372036854775807) = true := decide_eq_true c38
   try have c38b2 : (9223372036854775807 < (((((t329 ++ (⟨#[60]⟩ : ByteArray)) ++ t330) ++ (⟨#[58]⟩ : ByteArray)) ++ t331) ++ (⟨#[44]⟩ : ByteArray)).size + t332.size) = False := eq_false (Nat.not_lt.2 c38)
   (try (have c38n := c38; simp only [ByteArray.size_append, show (⟨#[44]⟩ : ByteArray).size = 1 from rfl, show (⟨#[58]⟩ : ByteArray).size = 1 from rfl, show (⟨#[60]⟩ : ByteArray).size = 1 from rfl] at c38n; have c38m := eq_false (Nat.not_lt.2 c38n)))
   obtain rfl := Option.some.inj H
   try go_wp2
   have n_ := impl_NodeText.K2_ (blk_drew BK322.out) (below_drew1 HB.out)
   clear BK322 HB
   obtain ⟨BK322, HB⟩ := n_
   refine start_ (n := 19) (S := fun w' => w'.cell? ⟨gb322, 0, none⟩ = some (.int .i64 a0_0) ∧ w'.cell? ⟨gb322, 1, none⟩ = some (.int .i64 a0_1) ∧ w'.cell? ⟨gb322, 2, none⟩ = some (.int .i64 a0_2) ∧ w'.cell? ⟨gb322, 3, none⟩ = some (.int .i64 a0_3) ∧ w'.cell? ⟨gb322, 4, none⟩ = some (.int .i64 a0_4)) (ds := []) #[false, false, false, false, false, false, false, false, false, false, false, false, false, false, false, false, false, false, false] (by kernel_rfl) rfl rfl ⟨(blk_cell BK322.out 0).trans rfl, (blk_cell BK322.out 1).trans rfl, (blk_cell BK322.out 2).trans rfl, (blk_cell BK322.out 3).trans rfl, (blk_cell BK322.out 4).trans rfl⟩ (fun hHeld => ?_); refine with_tabW impl_NodeText.tab7 impl_NodeText.bits7 (fun HT_ HW_ => ?_)
   generalize wc.drew = w39 at BK322 HB hHeld ⊢
   refine pure_ (i := 0) (N := some 41) (v := ?_) (a' := ?_) #[true, false, false, false, false, false, false, false, false, false, false, false, false, false, false, false, false, false, false] rfl rfl (any_of HT_.out (by kernel_rfl)) (fun _ _ _ h => h) (Or.inl ⟨by rfl, ?_⟩) ?_ ?_
   rotate_left
   ·intro w'
    go_simp
    with_reducible rfl
   rotate_left
   ·simp only [Act.put, List.setIfInBounds_toArray, List.set_cons_zero, List.set_cons_succ, i64_w, i32_w]
    rfl
   refine pure_ (i := 4) (N := some 45) (v := ?_) (a' := ?_) #[true, false, false, false, true, false, false, false, false, false, false, false, false, false, false, false, false, false, false] rfl rfl (any_of HT_.out (by kernel_rfl)) (fun _ _ _ h => h) (Or.inl ⟨by rfl, ?_⟩) ?_ ?_
   rotate_left
   ·intro w'
    go_simp
    with_reducible rfl
   rotate_left
   ·simp only [Act.put, List.setIfInBounds_toArray, List.set_cons_zero, List.set_cons_succ, i64_w, i32_w]
    rfl
   refine pure_ (i := 9) (N := some 50) (v := ?_) (a' := ?_) #[true, false, false, false, true, false, false, false, false, true, false, false, false, false, false, false, false, false, false] rfl rfl (any_of HT_.out (by kernel_rfl)) (fun _ _ _ h => h) (Or.inl ⟨by rfl, ?_⟩) ?_ ?_
   rotate_left
   ·intro w'
    go_simp
    with_reducible rfl
   rotate_left
   ·simp only [Act.put, List.setIfInBounds_toArray, List.set_cons_zero, List.set_cons_succ, i64_w, i32_w]
    rfl
   refine pure_ (i := 14) (N := some 55) (v := ?_) (a' := ?_) #[true, false, false, false, true, false, false, false, false, true, false, false, false, false, true, false, false, false, false] rfl rfl (any_of HT_.out (by kernel_rfl)) (fun _ _ _ h => h) (Or.inl ⟨by rfl, ?_⟩) ?_ ?_
   rotate_left
   ·intro w'
    go_simp
    with_reducible rfl
   rotate_left
   ·simp only [Act.put, List.setIfInBounds_toArray, List.set_cons_zero, List.set_cons_succ, i64_w, i32_w]
    rfl
   refine take_ (i := 1) (N := some 42) (v := ?_) (a' := ?_) #[true, true, false, false, true, false, false, false, false, true, false, false, false, false, true, false, false, false, false] rfl rfl (take_ofW HT_.out HW_.out (by kernel_rfl)) (fun _ _ _ h => h) (Or.inl ⟨by rfl, ?_⟩) hHeld ?_ ?_
   rotate_left
   ·rintro w' ⟨s0, s1, s2, s3, s4⟩
    go_simp
    with_reducible rfl
   rotate_left
   ·simp only [Act.put, List.setIfInBounds_toArray, List.set_cons_zero, List.set_cons_succ, i64_w, i32_w]
    rfl
   refine take_ (i := 5) (N := some 46) (v := ?_) (a' := ?_) #[true, true, false, false, true, true, false, false, false, true, false, false, false, false, true, false, false, false, false] rfl rfl (take_ofW HT_.out HW_.out (by kernel_rfl)) (fun _ _ _ h => h) (Or.inl ⟨by rfl, ?_⟩) hHeld ?_ ?_
   rotate_left
   ·rintro w' ⟨s0, s1, s2, s3, s4⟩
    go_simp
    with_reducible rfl
   rotate_left
   ·simp only [Act.put, List.setIfInBounds_toArray, List.set_cons_zero, List.set_cons_succ, i64_w, i32_w]
    rfl
   refine take_ (i := 10) (N := some 51) (v := ?_) (a' := ?_) #[true, true, false, false, true, true, false, false, false, true, true, false, false, false, true, false, false, false, false] rfl rfl (take_ofW HT_.out HW_.out (by kernel_rfl)) (fun _ _ _ h => h) (Or.inl ⟨by rfl, ?_⟩) hHeld ?_ ?_
   rotate_left
   ·rintro w' ⟨s0, s1, s2, s3, s4⟩
    go_simp
    with_reducible rfl
   rotate_left
   ·simp only [Act.put, List.setIfInBounds_toArray, List.set_cons_zero, List.set_cons_succ, i64_w, i32_w]
    rfl
   refine take_ (i := 15) (N := some 56) (v := ?_) (a' := ?_) #[true, true, false, false, true, true, false, false, false, true, true, false, false, false, true, true, false, false, false] rfl rfl (take_ofW HT_.out HW_.out (by kernel_rfl)) (fun _ _ _ h => h) (Or.inl ⟨by rfl, ?_⟩) hHeld ?_ ?_
   rotate_left
   ·rintro w' ⟨s0, s1, s2, s3, s4⟩
    go_simp
    with_reducible rfl
   rotate_left
   ·simp only [Act.put, List.setIfInBounds_toArray, List.set_cons_zero, List.set_cons_succ, i64_w, i32_w]
    rfl
   refine one_ (i := 2) (N := some 43) #[true, true, true, false, true, true, false, false, false, true, true, false, false, false, true, true, false, false, false] rfl rfl (one_of HT_.out (by kernel_rfl)) (by decide) (fun K hK => ?_)
   refine goes_ Tryd.func56 (by kernel_rfl) rfl #[.int .i64 a0_0] (by rfl) rfl rfl (by (try simp only [List.map_toArray, List.map_cons, List.map_nil]); first | done | rfl | (simp only [List.length_drop, List.length_take]; rfl)) ?_
   with_reducible refine (impl_Digits.calls a0_0 t329 _ ?side1 A29.out).mono ?_
   (case side1 => exact tab_below HT.out (by repeat (first | (with_reducible first | exact HB.out | apply below_alloc | apply pw_below_drewN | apply below_drew1 | refine below_set ?_ GE322.out) | exact HB.out)))
   rintro e w40 ⟨rfl, hb⟩
   refine ⟨_, rfl, ?_⟩
   have n_ := impl_NodeText.K2_ (blk_below (g := gb322) (o := .cells #[.int .i64 a0_0, .int .i64 a0_1, .int .i64 a0_2, .int .i64 a0_3, .int .i64 a0_4] 23 (0, 0)) (by (with_reducible repeat (first | refine blk_drewN ?_ _ | refine blk_drew ?_ | refine blk_alloc ?_ _)); exact BK322.out) hb) (below_step (by repeat (first | (with_reducible first | exact HB.out | apply below_alloc | apply pw_below_drewN | apply below_drew1 | refine below_set ?_ GE322.out) | exact HB.out)) hb)
   clear BK322 HB
   obtain ⟨BK322, HB⟩ := n_
   (try clear hb)
   (try clear hb2)
   (try clear hk)
   (try clear hi)
   refine hK.out _ _ ⟨(blk_cell BK322.out 0).trans rfl, (blk_cell BK322.out 1).trans rfl, (blk_cell BK322.out 2).trans rfl, (blk_cell BK322.out 3).trans rfl, (blk_cell BK322.out 4).trans rfl⟩ (fun hHeld => ?_)
   clear hK K
   refine norm_ (a' := ?_) ?_ ?_
   rotate_left
   ·show Act.put _ (some 43) _ = _
    simp only [Act.put, List.setIfInBounds_toArray, List.set_cons_zero, List.set_cons_succ, i64_w, i32_w]
    rfl
   refine pure_ (i := 3) (N := some 44) (v := ?_) (a' := ?_) #[true, true, true, true, true, true, false, false, false, true, true, false, false, false, true, true, false, false, false] rfl rfl (any_of HT_.out (by kernel_rfl)) (fun _ _ _ h => h) (Or.inl ⟨by rfl, ?_⟩) ?_ ?_
   rotate_left
   ·intro w'
    go_simp
    with_reducible rfl
   rotate_left
   ·simp only [Act.put, List.setIfInBounds_toArray, List.set_cons_zero, List.set_cons_succ, i64_w, i32_w]
    rfl
   refine one_ (i := 6) (N := some 47) #[true, true, true, true, true, true, true, false, false, true, true, false, false, false, true, true, false, false, false] rfl rfl (one_of HT_.out (by kernel_rfl)) (by decide) (fun K hK => ?_)
   refine goes_ Tryd.func56 (by kernel_rfl) rfl #[.int .i64 a0_1] (by rfl) rfl rfl (by (try simp only [List.map_toArray, List.map_cons, List.map_nil]); first | done | rfl | (simp only [List.length_drop, List.length_take]; rfl)) ?_
   with_reducible refine (impl_Digits.calls a0_1 t330 _ ?side1 A31.out).mono ?_
   (case side1 => exact tab_below HT.out (by repeat (first | (with_reducible first | exact HB.out | apply below_alloc | apply pw_below_drewN | apply below_drew1 | refine below_set ?_ GE322.out) | exact HB.out)))
   rintro e w41 ⟨rfl, hb⟩
   refine ⟨_, rfl, ?_⟩
   have n_ := impl_NodeText.K2_ (blk_below (g := gb322) (o := .cells #[.int .i64 a0_0, .int .i64 a0_1, .int .i64 a0_2, .int .i64 a0_3, .int .i64 a0_4] 23 (0, 0)) (by (with_reducible repeat (first | refine blk_drewN ?_ _ | refine blk_drew ?_ | refine blk_alloc ?_ _)); exact BK322.out) hb) (below_step (by repeat (first | (with_reducible first | exact HB.out | apply below_alloc | apply pw_below_drewN | apply below_drew1 | refine below_set ?_ GE322.out) | exact HB.out)) hb)
   clear BK322 HB
   obtain ⟨BK322, HB⟩ := n_
   (try clear hb)
   (try clear hb2)
   (try clear hk)
   (try clear hi)
   refine hK.out _ _ ⟨(blk_cell BK322.out 0).trans rfl, (blk_cell BK322.out 1).trans rfl, (blk_cell BK322.out 2).trans rfl, (blk_cell BK322.out 3).trans rfl, (blk_cell BK322.out 4).trans rfl⟩ (fun hHeld => ?_)
   clear hK K
   refine norm_ (a' := ?_) ?_ ?_
   rotate_left
   ·show Act.put _ (some 47) _ = _
    simp only [Act.put, List.setIfInBounds_toArray, List.set_cons_zero, List.set_cons_succ, i64_w, i32_w]
    rfl
   refine pure_ (i := 7) (N := some 48) (v := ?_) (a' := ?_) #[true, true, true, true, true, true, true, true, false, true, true, false, false, false, true, true, false, false, false] rfl rfl (any_of HT_.out (by kernel_rfl)) (fun _ _ _ h => h) (Or.inl ⟨by rfl, ?_⟩) ?_ ?_
   rotate_left
   ·intro w'
    go_simp
    with_reducible rfl
   rotate_left
   ·simp only [Act.put, List.setIfInBounds_toArray, List.set_cons_zero, List.set_cons_succ, i64_w, i32_w]
    rfl
   refine pure_ (i := 8) (N := some 49) (v := ?_) (a' := ?_) #[true, true, true, true, true, true, true, true, true, true, true, false, false, false, true, true, false, false, false] rfl rfl (any_of HT_.out (by kernel_rfl)) (fun _ _ _ h => h) (Or.inl ⟨by rfl, ?_⟩) ?_ ?_
   rotate_left
   ·intro w'
    go_simp
    with_reducible rfl
   rotate_left
   ·simp only [Act.put, List.setIfInBounds_toArray, List.set_cons_zero, List.set_cons_succ, i64_w, i32_w]
    rfl
   refine one_ (i := 11) (N := some 52) #[true, true, true, true, true, true, true, true, true, true, true, true, false, false, true, true, false, false, false] rfl rfl (one_of HT_.out (by kernel_rfl)) (by decide) (fun K hK => ?_)
   refine goes_ Tryd.func56 (by kernel_rfl) rfl #[.int .i64 a0_2] (by rfl) rfl rfl (by (try simp only [List.map_toArray, List.map_cons, List.map_nil]); first | done | rfl | (simp only [List.length_drop, List.length_take]; rfl)) ?_
   with_reducible refine (impl_Digits.calls a0_2 t331 _ ?side1 A34.out).mono ?_
   (case side1 => exact tab_below HT.out (by repeat (first | (with_reducible first | exact HB.out | apply below_alloc | apply pw_below_drewN | apply below_drew1 | refine below_set ?_ GE322.out) | exact HB.out)))
   rintro e w42 ⟨rfl, hb⟩
   refine ⟨_, rfl, ?_⟩
   have n_ := impl_NodeText.K2_ (blk_below (g := gb322) (o := .cells #[.int .i64 a0_0, .int .i64 a0_1, .int .i64 a0_2, .int .i64 a0_3, .int .i64 a0_4] 23 (0, 0)) (by (with_reducible repeat (first | refine blk_drewN ?_ _ | refine blk_drew ?_ | refine blk_alloc ?_ _)); exact BK322.out) hb) (below_step (by repeat (first | (with_reducible first | exact HB.out | apply below_alloc | apply pw_below_drewN | apply below_drew1 | refine below_set ?_ GE322.out) | exact HB.out)) hb)
   clear BK322 HB
   obtain ⟨BK322, HB⟩ := n_
   (try clear hb)
   (try clear hb2)
   (try clear hk)
   (try clear hi)
   refine hK.out _ _ ⟨(blk_cell BK322.out 0).trans rfl, (blk_cell BK322.out 1).trans rfl, (blk_cell BK322.out 2).trans rfl, (blk_cell BK322.out 3).trans rfl, (blk_cell BK322.out 4).trans rfl⟩ (fun hHeld => ?_)
   clear hK K
   refine norm_ (a' := ?_) ?_ ?_
   rotate_left
   ·show Act.put _ (some 52) _ = _
    simp only [Act.put, List.setIfInBounds_toArray, List.set_cons_zero, List.set_cons_succ, i64_w, i32_w]
    rfl
   refine pure_ (i := 12) (N := some 53) (v := ?_) (a' := ?_) #[true, true, true, true, true, true, true, true, true, true, true, true, true, false, true, true, false, false, false] rfl rfl (any_of HT_.out (by kernel_rfl)) (fun _ _ _ h => h) (Or.inl ⟨by rfl, ?_⟩) ?_ ?_
   rotate_left
   ·intro w'
    go_simp
    with_reducible rfl
   rotate_left
   ·simp only [Act.put, List.setIfInBounds_toArray, List.set_cons_zero, List.set_cons_succ, i64_w, i32_w]
    rfl
   refine pure_ (i := 13) (N := some 54) (v := ?_) (a' := ?_) #[true, true, true, true, true, true, true, true, true, true, true, true, true, true, true, true, false, false, false] rfl rfl (any_of HT_.out (by kernel_rfl)) (fun _ _ _ h => h) (Or.inl ⟨by rfl, ?_⟩) ?_ ?_
   rotate_left
   ·intro w'
    go_simp
    with_reducible rfl
   rotate_left
   ·simp only [Act.put, List.setIfInBounds_toArray, List.set_cons_zero, List.set_cons_succ, i64_w, i32_w]
    rfl
   refine one_ (i := 16) (N := some 57) #[true, true, true, true, true, true, true, true, true, true, true, true, true, true, true, true, true, false, false] rfl rfl (one_of HT_.out (by kernel_rfl)) (by decide) (fun K hK => ?_)
   refine goes_ Tryd.func56 (by kernel_rfl) rfl #[.int .i64 a0_3] (by rfl) rfl rfl (by (try simp only [List.map_toArray, List.map_cons, List.map_nil]); first | done | rfl | (simp only [List.length_drop, List.length_take]; rfl)) ?_
   with_reducible refine (impl_Digits.calls a0_3 t332 _ ?side1 A37.out).mono ?_
   (case side1 => exact tab_below HT.out (by repeat (first | (with_reducible first | exact HB.out | apply below_alloc | apply pw_below_drewN | apply below_drew1 | refine below_set ?_ GE322.out) | exact HB.out)))
   rintro e w43 ⟨rfl, hb⟩
   refine ⟨_, rfl, ?_⟩
   have n_ := impl_NodeText.K2_ (blk_below (g := gb322) (o := .cells #[.int .i64 a0_0, .int .i64 a0_1, .int .i64 a0_2, .int .i64 a0_3, .int .i64 a0_4] 23 (0, 0)) (by (with_reducible repeat (first | refine blk_drewN ?_ _ | refine blk_drew ?_ | refine blk_alloc ?_ _)); exact BK322.out) hb) (below_step (by repeat (first | (with_reducible first | exact HB.out | apply below_alloc | apply pw_below_drewN | apply below_drew1 | refine below_set ?_ GE322.out) | exact HB.out)) hb)
   clear BK322 HB
   obtain ⟨BK322, HB⟩ := n_
   (try clear hb)
   (try clear hb2)
   (try clear hk)
   (try clear hi)
   refine hK.out _ _ ⟨(blk_cell BK322.out 0).trans rfl, (blk_cell BK322.out 1).trans rfl, (blk_cell BK322.out 2).trans rfl, (blk_cell BK322.out 3).trans rfl, (blk_cell BK322.out 4).trans rfl⟩ (fun hHeld => ?_)
   clear hK K
   refine norm_ (a' := ?_) ?_ ?_
   rotate_left
   ·show Act.put _ (some 57) _ = _
    simp only [Act.put, List.setIfInBounds_toArray, List.set_cons_zero, List.set_cons_succ, i64_w, i32_w]
    rfl
   refine pure_ (i := 17) (N := some 58) (v := ?_) (a' := ?_) #[true, true, true, true, true, true, true, true, true, true, true, true, true, true, true, true, true, true, false] rfl rfl (any_of HT_.out (by kernel_rfl)) (fun _ _ _ h => h) (Or.inl ⟨by rfl, ?_⟩) ?_ ?_
   rotate_left
   ·intro w'
    go_simp
    with_reducible rfl
   rotate_left
   ·simp only [Act.put, List.setIfInBounds_toArray, List.set_cons_zero, List.set_cons_succ, i64_w, i32_w]
    rfl
   refine pure_ (i := 18) (N := some 2) (v := ?_) (a' := ?_) #[true, true, true, true, true, true, true, true, true, true, true, true, true, true, true, true, true, true, true] rfl rfl (any_of HT_.out (by kernel_rfl)) (fun _ _ _ h => h) (Or.inl ⟨by rfl, ?_⟩) ?_ ?_
   rotate_left
   ·intro w'
    go_simp
    with_reducible rfl
   rotate_left
   ·simp only [Act.put, List.setIfInBounds_toArray, List.set_cons_zero, List.set_cons_succ, i64_w, i32_w]
    rfl
   refine done_ (done_of HT_.out (by kernel_rfl)) ?_
   try go_wp2
   go_ret
   exact ⟨by first | rfl | (simp [errW_none, errW_some] <;> rfl) | (simp [*, errW_none, errW_some] <;> rfl), by repeat (first | (with_reducible first | exact HB.out | apply below_alloc | apply pw_below_drewN | apply below_drew1 | refine below_set ?_ GE322.out) | exact HB.out)⟩
def spec_Digits.l0 : Nat → Int → Bool → ByteArray → Option (ByteArray)
  | 0, _, _, _ => none
  | k + 1, x0, x3, x4 => if x0 = 0 then (if x3 = true then (if 1 + x4.size ≤ 9223372036854775807 then (some ((⟨#[45]⟩ : ByteArray) ++ x4)) else (none)) else (some x4)) else (if (Int.tmod x0 10) < 0 then ((some (([(wrap64 (48 + (wrap64 (-(Int.tmod x0 10))))) % 256] : List Int) : List Int)).bind fun y333 => (if (strOfNums y333).size + x4.size ≤ 9223372036854775807 then (spec_Digits.l0 k (wrap64 (Int.tdiv x0 10)) x3 ((strOfNums y333) ++ x4)) else (none))) else ((some (([(wrap64 (48 + (Int.tmod x0 10))) % 256] : List Int) : List Int)).bind fun y336 => (if (strOfNums y336).size + x4.size ≤ 9223372036854775807 then (spec_Digits.l0 k (wrap64 (Int.tdiv x0 10)) x3 ((strOfNums y336) ++ x4)) else (none))))
def spec_Digits.f (k : Nat) (a0 : Int) : Option (ByteArray) := if a0 = 0 then (some (⟨#[48]⟩ : ByteArray)) else (spec_Digits.l0 k a0 (decide (a0 < 0)) (⟨#[]⟩ : ByteArray))
theorem spec_Digits.mono_l : ∀ k, (∀ y0 y1 y2, LeO (spec_Digits.l0 k y0 y1 y2) (spec_Digits.l0 (k + 1) y0 y1 y2))
  | 0 => fun _ _ _ r h => by simp [spec_Digits.l0] at h
  | k + 1 => by
    have ih0 := spec_Digits.mono_l k
    · intro y0 y1 y2
      unfold spec_Digits.l0
      repeat' first
      | (with_reducible exact ih0 _ _ _)
      | (with_reducible exact LeO.refl _)
      | (with_reducible exact LeO.none _)
      | (with_reducible refine LeO.ite ?_ ?_)
      | (with_reducible refine LeO.bind ?_ (fun _ => ?_))
      | exact ih0 _ _ _
      | exact LeO.none _
      | refine LeO.ite ?_ ?_
      | refine LeO.bind ?_ (fun _ => ?_)
theorem spec_Digits.mono : ∀ a0 k, LeO (spec_Digits.f k a0) (spec_Digits.f (k + 1) a0) := by
  intro a0 k
  have ih0 := spec_Digits.mono_l k
  unfold spec_Digits.f
  repeat' first
      | (with_reducible exact ih0 _ _ _)
      | (with_reducible exact LeO.refl _)
      | (with_reducible exact LeO.none _)
      | (with_reducible refine LeO.ite ?_ ?_)
      | (with_reducible refine LeO.bind ?_ (fun _ => ?_))
      | exact ih0 _ _ _
      | exact LeO.none _
      | refine LeO.ite ?_ ?_
      | refine LeO.bind ?_ (fun _ => ?_)
set_option maxHeartbeats 8000000 in
set_option maxRecDepth 100000 in
theorem spec_Digits.calls (k : Nat) (a0 : Int) (r : ByteArray) (w : World) (h : spec_Digits.f k a0 = some r) :
    Calls Tryd.prog 50 #[.int .i64 a0] w fun e w' => e = .returned (.string r) ∧ Below w.heap.size w w' := by
 have HB := Aside0.mk (Below.refl w.heap.size w)
 have H : (if a0 = 0 then (some (⟨#[48]⟩ : ByteArray)) else (spec_Digits.l0 k a0 (decide (a0 < 0)) (⟨#[]⟩ : ByteArray))) = some r := h
 clear h
 by_cases c2 : a0 = 0
 case pos =>
  rw [if_pos c2] at H
  have c2b0 : (a0 == 0) = true := beq_iff_eq.mpr c2
  have c2b1 : (a0 != 0) = false := bne_eq_false_iff_eq.mpr c2
  clear c2
  obtain rfl := Option.some.inj H
  go_enter Tryd.func50, Tryd.ntmps50
  go_wp2
  go_ret
  exact ⟨by first | rfl | (simp [errW_none, errW_some] <;> rfl) | (simp [*, errW_none, errW_some] <;> rfl), by repeat (first | (with_reducible first | exact HB.out | apply below_alloc | apply pw_below_drewN | apply below_drew1) | exact HB.out)⟩
 rw [if_neg c2] at H
 have c2b0 : (a0 == 0) = false := beq_eq_false_iff_ne.mpr c2
 have c2b1 : (a0 != 0) = true := bne_iff_ne.mpr c2
 have H' := Aside0.mk H
 clear H
 go_enter Tryd.func50, Tryd.ntmps50
 go_wp2
 go_loopg [0, 4] k (fun kq v0 v4 w' => ∃ (x0_1 : Int) (x4_1 : ByteArray), v0 = .int .i64 x0_1 ∧ v4 = .string x4_1 ∧ Aside0 (spec_Digits.l0 kq x0_1 (decide (a0 < 0)) x4_1 = some r) ∧ Aside0 (kq ≤ k) ∧ Aside0 (Below w.heap.size w w'))
 case atStart => exact ⟨(a0), ((⟨#[]⟩ : ByteArray)), (by first | rfl | (simp; done) | (simp [*]; done)), (by first | rfl | (simp; done) | (simp [*]; done)), H', ⟨Nat.le_refl _⟩, ⟨by repeat (first | (with_reducible first | exact HB.out | apply below_alloc | apply pw_below_drewN | apply below_drew1) | exact HB.out)⟩⟩
 case round =>
  clear H'
  try clear c2
  try clear c2b0
  try clear c2b1
  try clear p2
  obtain ⟨x0_1, x4_1, rfl, rfl, HA, HK1, HB⟩ := hrel
  cases gk with
  | zero => exact absurd HA.out (by simp [spec_Digits.l0])
  | succ k1 =>
   have H := HA.out
   clear HA
   simp only [spec_Digits.l0] at H
   by_cases c3 : x0_1 = 0
   case pos =>
    rw [if_pos c3] at H
    have c3b0 : (x0_1 == 0) = true := beq_iff_eq.mpr c3
    have c3b1 : (x0_1 != 0) = false := bne_eq_false_iff_eq.mpr c3
    clear c3
    by_cases c4 : (decide (a0 < 0)) = true
    case neg =>
     rw [if_neg c4] at H
     have c4b0 : (decide (a0 < 0)) = false := by simpa using c4
     (try simp only [c4b0])
     clear c4
     obtain rfl := Option.some.inj H
     go_wp2
     go_ret
     exact ⟨by first | rfl | (simp [errW_none, errW_some] <;> rfl) | (simp [*, errW_none, errW_some] <;> rfl), by repeat (first | (with_reducible first | exact HB.out | apply below_alloc | apply pw_below_drewN | apply below_drew1) | exact HB.out)⟩
    rw [if_pos c4] at H
    have c4b0 : (decide (a0 < 0)) = true := c4
    (try simp only [c4b0])
    clear c4
    by_cases c5 : 1 + x4_1.size ≤ 9223372036854775807
    case neg =>
     rw [if_neg c5] at H
     exact absurd H (by simp)
    rw [if_pos c5] at H
    have c5b0 := eq_true c5
    have c5b1 : decide (1 + x4_1.size ≤ 9223372036854775807) = true := decide_eq_true c5
    try have c5b2 : (9223372036854775807 < 1 + x4_1.size) = False := eq_false (Nat.not_lt.2 c5)
    obtain rfl := Option.some.inj H
    go_wp2
    go_ret
    exact ⟨by first | rfl | (simp [errW_none, errW_some] <;> rfl) | (simp [*, errW_none, errW_some] <;> rfl), by repeat (first | (with_reducible first | exact HB.out | apply below_alloc | apply pw_below_drewN | apply below_drew1) | exact HB.out)⟩
   rw [if_neg c3] at H
   have c3b0 : (x0_1 == 0) = false := beq_eq_false_iff_ne.mpr c3
   have c3b1 : (x0_1 != 0) = true := bne_iff_ne.mpr c3
   by_cases c6 : (Int.tmod x0_1 10) < 0
   case neg =>
    rw [if_neg c6] at H
    have c6b0 : decide ((Int.tmod x0_1 10) < 0) = false := decide_eq_false c6
    clear c6
    obtain ⟨y336, hy336⟩ : ∃ y_ : List Int, y_ = (([(wrap64 (48 + (Int.tmod x0_1 10))) % 256] : List Int)) := ⟨_, rfl⟩
    replace H : (if (strOfNums y336).size + x4_1.size ≤ 9223372036854775807 then (spec_Digits.l0 k1 (wrap64 (Int.tdiv x0_1 10)) (decide (a0 < 0)) ((strOfNums y336) ++ x4_1)) else (none)) = some r := by first | (rw [hy336]; with_reducible exact H) | (have H2_ := (Option.bind_some _ _).symm.trans H; rw [hy336]; with_reducible exact H2_) | (have H2_ := (Option.bind_some _ _).symm.trans H; with_reducible exact H2_) | with_reducible exact H | (rw [hy336]; exact H) | exact H
    have Ny336 := Aside0.mk hy336
    clear hy336
    by_cases c11 : (strOfNums y336).size + x4_1.size ≤ 9223372036854775807
    case neg =>
     rw [if_neg c11] at H
     exact absurd H (by simp)
    rw [if_pos c11] at H
    have c11b0 := eq_true c11
    have c11b1 : decide ((strOfNums y336).size + x4_1.size ≤ 9223372036854775807) = true := decide_eq_true c11
    try have c11b2 : (9223372036854775807 < (strOfNums y336).size + x4_1.size) = False := eq_false (Nat.not_lt.2 c11)
    have H' := Aside0.mk H
    clear H
    go_wp2_with (first | ((with_reducible refine gate_dst (N := 21) rfl ?_); refine Kd.R_lit (Kd.int .u8) _ 5 ?hg (N := 21) ?hd (xs := ([(wrap64 (48 + (Int.tmod x0_1 10))) % 256] : List Int)) (inner := [.int .u8 ((wrap64 (48 + (Int.tmod x0_1 10))) % 256)]) (ok := fun _ => True) (okp := fun _ => True) ?hr ?hp (fun _ hk => hk) trivial (Below.refl _ _) (Nat.le_refl _) (by simp) ?_; (case hd => rfl); (case hg => rfl); (case hr => first | (go_simp; done) | (go_simp; rfl)); (case hp => exact (Reps.one (show Kd.M (Kd.int .u8) _ _ _ ((wrap64 (48 + (Int.tmod x0_1 10))) % 256) [.int .u8 ((wrap64 (48 + (Int.tmod x0_1 10))) % 256)] from rfl) (Reps.none _ _))); intro v337 w12 ho13 hb hg_ hnew_; clear hg_ hnew_; (first | rw [← Ny336.out] at ho13 | (simp only [Int.reduceToNat] at ho13; rw [← Ny336.out] at ho13)); have n_ := impl_NodeText.K2_ (Kd.R_lower ho13 (below_size (by repeat (first | (with_reducible first | exact HB.out | apply below_alloc | apply pw_below_drewN | apply below_drew1) | exact HB.out)))) (below_step (by repeat (first | (with_reducible first | exact HB.out | apply below_alloc | apply pw_below_drewN | apply below_drew1) | exact HB.out)) hb); clear HB; obtain ⟨HO338, HB⟩ := n_; clear hb ho13; have hcv14 := own_string (P := Tryd.prog) Tryd.underlying41 Tryd.underlying5 Tryd.underlying9 (Kd.own_of_R HO338.out)))
    go_roundg k1
    case measure => have := HK1.out; omega
    case rel => exact ⟨(wrap64 (Int.tdiv x0_1 10)), ((strOfNums y336) ++ x4_1), (by first | rfl | (simp; done) | (simp [*]; done)), (by first | rfl | (simp; done) | (simp [*]; done)), H', ⟨by have := HK1.out; omega⟩, ⟨by repeat (first | (with_reducible first | exact HB.out | apply below_alloc | apply pw_below_drewN | apply below_drew1) | exact HB.out)⟩⟩
   rw [if_pos c6] at H
   have c6b0 : decide ((Int.tmod x0_1 10) < 0) = true := decide_eq_true c6
   clear c6
   obtain ⟨y333, hy333⟩ : ∃ y_ : List Int, y_ = (([(wrap64 (48 + (wrap64 (-(Int.tmod x0_1 10))))) % 256] : List Int)) := ⟨_, rfl⟩
   replace H : (if (strOfNums y333).size + x4_1.size ≤ 9223372036854775807 then (spec_Digits.l0 k1 (wrap64 (Int.tdiv x0_1 10)) (decide (a0 < 0)) ((strOfNums y333) ++ x4_1)) else (none)) = some r := by first | (rw [hy333]; with_reducible exact H) | (have H2_ := (Option.bind_some _ _).symm.trans H; rw [hy333]; with_reducible exact H2_) | (have H2_ := (Option.bind_some _ _).symm.trans H; with_reducible exact H2_) | with_reducible exact H | (rw [hy333]; exact H) | exact H
   have Ny333 := Aside0.mk hy333
   clear hy333
   by_cases c7 : (strOfNums y333).size + x4_1.size ≤ 9223372036854775807
   case neg =>
    rw [if_neg c7] at H
    exact absurd H (by simp)
   rw [if_pos c7] at H
   have c7b0 := eq_true c7
   have c7b1 : decide ((strOfNums y333).size + x4_1.size ≤ 9223372036854775807) = true := decide_eq_true c7
   try have c7b2 : (9223372036854775807 < (strOfNums y333).size + x4_1.size) = False := eq_false (Nat.not_lt.2 c7)
   have H' := Aside0.mk H
   clear H
   go_wp2_with (first | ((with_reducible refine gate_dst (N := 21) rfl ?_); refine Kd.R_lit (Kd.int .u8) _ 5 ?hg (N := 21) ?hd (xs := ([(wrap64 (48 + (wrap64 (-(Int.tmod x0_1 10))))) % 256] : List Int)) (inner := [.int .u8 ((wrap64 (48 + (wrap64 (-(Int.tmod x0_1 10))))) % 256)]) (ok := fun _ => True) (okp := fun _ => True) ?hr ?hp (fun _ hk => hk) trivial (Below.refl _ _) (Nat.le_refl _) (by simp) ?_; (case hd => rfl); (case hg => rfl); (case hr => first | (go_simp; done) | (go_simp; rfl)); (case hp => exact (Reps.one (show Kd.M (Kd.int .u8) _ _ _ ((wrap64 (48 + (wrap64 (-(Int.tmod x0_1 10))))) % 256) [.int .u8 ((wrap64 (48 + (wrap64 (-(Int.tmod x0_1 10))))) % 256)] from rfl) (Reps.none _ _))); intro v334 w8 ho9 hb hg_ hnew_; clear hg_ hnew_; (first | rw [← Ny333.out] at ho9 | (simp only [Int.reduceToNat] at ho9; rw [← Ny333.out] at ho9)); have n_ := impl_NodeText.K2_ (Kd.R_lower ho9 (below_size (by repeat (first | (with_reducible first | exact HB.out | apply below_alloc | apply pw_below_drewN | apply below_drew1) | exact HB.out)))) (below_step (by repeat (first | (with_reducible first | exact HB.out | apply below_alloc | apply pw_below_drewN | apply below_drew1) | exact HB.out)) hb); clear HB; obtain ⟨HO335, HB⟩ := n_; clear hb ho9; have hcv10 := own_string (P := Tryd.prog) Tryd.underlying41 Tryd.underlying5 Tryd.underlying9 (Kd.own_of_R HO335.out)))
   go_roundg k1
   case measure => have := HK1.out; omega
   case rel => exact ⟨(wrap64 (Int.tdiv x0_1 10)), ((strOfNums y333) ++ x4_1), (by first | rfl | (simp; done) | (simp [*]; done)), (by first | rfl | (simp; done) | (simp [*]; done)), H', ⟨by have := HK1.out; omega⟩, ⟨by repeat (first | (with_reducible first | exact HB.out | apply below_alloc | apply pw_below_drewN | apply below_drew1) | exact HB.out)⟩⟩
end Go.Proofs.YtcgmdpnhlkbpbaaDoor.XFnNodeText
