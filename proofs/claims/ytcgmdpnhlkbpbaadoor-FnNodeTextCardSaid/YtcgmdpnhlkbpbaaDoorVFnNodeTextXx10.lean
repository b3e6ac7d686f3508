import Derived.Test.YtcgmdpnhlkbpbaaDoorVFnNodeTextXx0
import Derived.Test.YtcgmdpnhlkbpbaaDoorVFnNodeTextXx1
import Derived.Test.YtcgmdpnhlkbpbaaDoorVFnNodeTextXx2
import Derived.Test.YtcgmdpnhlkbpbaaDoorVFnNodeTextXx8
import Derived.Test.YtcgmdpnhlkbpbaaDoorVFnNodeTextXx9
namespace Go.Proofs.YtcgmdpnhlkbpbaaDoor.XFnNodeText
open Go.RowKit Go.Proofs.YtcgmdpnhlkbpbaaDoorW.PrintWords Go.Proofs.YtcgmdpnhlkbpbaaDoorW.PrintLast Go.Proofs.YtcgmdpnhlkbpbaaDoorW.PrintMore
attribute [local go_sem] max2_int min2_int max_two min_two max_three min_three max_four min_four
set_option linter.unusedVariables false
set_option linter.unusedSimpArgs false
theorem spec_NodeText.K2_ {p0 p1 : Prop} (h0 : p0) (h1 : p1) : Aside0 p0 ∧ Aside0 p1 := ⟨⟨h0⟩, ⟨h1⟩⟩
theorem spec_NodeText.K4_ {p0 p1 p2 p3 : Prop} (h0 : p0) (h1 : p1) (h2 : p2) (h3 : p3) : Aside0 p0 ∧ Aside0 p1 ∧ Aside0 p2 ∧ Aside0 p3 := ⟨⟨h0⟩, ⟨h1⟩, ⟨h2⟩, ⟨h3⟩⟩
attribute [local go_sem high] eqA23
def spec_NodeText.j0 : Nat → Bool → Int → Int → Int → Int → Int → Option (ByteArray)
  | 0, _, _, _, _, _, _ => none
  | k + 1, x41, x340000, x340001, x340002, x340003, x340004 => if x41 = true then (some (⟨#[]⟩ : ByteArray)) else ((spec_Digits.f k x340000).bind fun t346 => (if t346.size + 1 ≤ 9223372036854775807 then ((spec_Digits.f k x340001).bind fun t347 => (if (t346 ++ (⟨#[60]⟩ : ByteArray)).size + t347.size ≤ 9223372036854775807 then (if ((t346 ++ (⟨#[60]⟩ : ByteArray)) ++ t347).size + 1 ≤ 9223372036854775807 then ((spec_Digits.f k x340002).bind fun t348 => (if (((t346 ++ (⟨#[60]⟩ : ByteArray)) ++ t347) ++ (⟨#[58]⟩ : ByteArray)).size + t348.size ≤ 9223372036854775807 then (if ((((t346 ++ (⟨#[60]⟩ : ByteArray)) ++ t347) ++ (⟨#[58]⟩ : ByteArray)) ++ t348).size + 1 ≤ 9223372036854775807 then ((spec_Digits.f k x340003).bind fun t349 => (if (((((t346 ++ (⟨#[60]⟩ : ByteArray)) ++ t347) ++ (⟨#[58]⟩ : ByteArray)) ++ t348) ++ (⟨#[44]⟩ : ByteArray)).size + t349.size ≤ 9223372036854775807 then (some ((((((t346 ++ (⟨#[60]⟩ : ByteArray)) ++ t347) ++ (⟨#[58]⟩ : ByteArray)) ++ t348) ++ (⟨#[44]⟩ : ByteArray)) ++ t349)) else (none))) else (none)) else (none))) else (none)) else (none))) else (none)))
def spec_NodeText.f (k : Nat) (a0_0 : Int) (a0_1 : Int) (a0_2 : Int) (a0_3 : Int) (a0_4 : Int) : Option (ByteArray) := (spec_l17Inner.f a0_0 a0_1 a0_2 a0_3 a0_4).bind fun t340 => (if t340 = true then ((spec_l1In.f a0_0 0 3).bind fun t342 => (if t342 = true then ((spec_l6Value.f a0_1).bind fun t343 => (if t343 = true then ((spec_l1In.f a0_2 1 30).bind fun t344 => (if t344 = true then ((spec_l1In.f a0_3 1 30).bind fun t345 => (if t345 = true then (spec_NodeText.j0 k (a0_4 != 0) a0_0 a0_1 a0_2 a0_3 a0_4) else (spec_NodeText.j0 k true a0_0 a0_1 a0_2 a0_3 a0_4))) else (spec_NodeText.j0 k true a0_0 a0_1 a0_2 a0_3 a0_4))) else (spec_NodeText.j0 k true a0_0 a0_1 a0_2 a0_3 a0_4))) else (spec_NodeText.j0 k true a0_0 a0_1 a0_2 a0_3 a0_4))) else (if (!(a0_0 == (-1)) || (!(a0_1 == 0) || (!(a0_2 == 0) || (!(a0_3 == 0))))) = true then (some (⟨#[]⟩ : ByteArray)) else ((spec_Digits.f k a0_4).bind fun t341 => (if 1 + t341.size ≤ 9223372036854775807 then (some ((⟨#[61]⟩ : ByteArray) ++ t341)) else (none)))))
theorem spec_NodeText.mono_l : ∀ k, (∀ y0 y1 y2 y3 y4 y5, LeO (spec_NodeText.j0 k y0 y1 y2 y3 y4 y5) (spec_NodeText.j0 (k + 1) y0 y1 y2 y3 y4 y5))
  | 0 => fun _ _ _ _ _ _ r h => by simp [spec_NodeText.j0] at h
  | k + 1 => by
    have ih0 := spec_NodeText.mono_l k
    · intro y0 y1 y2 y3 y4 y5
      unfold spec_NodeText.j0
      repeat' first
      | (with_reducible exact ih0 _ _ _ _ _ _)
      | (with_reducible exact spec_Digits.mono _ _)
      | (with_reducible exact LeO.refl _)
      | (with_reducible exact LeO.none _)
      | (with_reducible refine LeO.ite ?_ ?_)
      | (with_reducible refine LeO.bind ?_ (fun _ => ?_))
      | exact ih0 _ _ _ _ _ _
      | exact spec_Digits.mono _ _
      | exact LeO.none _
      | refine LeO.ite ?_ ?_
      | refine LeO.bind ?_ (fun _ => ?_)
theorem spec_NodeText.mono : ∀ a0 a1 a2 a3 a4 k, LeO (spec_NodeText.f k a0 a1 a2 a3 a4) (spec_NodeText.f (k + 1) a0 a1 a2 a3 a4) := by
  intro a0 a1 a2 a3 a4 k
  have ih0 := spec_NodeText.mono_l k
  unfold spec_NodeText.f
  repeat' first
      | (with_reducible exact ih0 _ _ _ _ _ _)
      | (with_reducible exact spec_Digits.mono _ _)
      | (with_reducible exact LeO.refl _)
      | (with_reducible exact LeO.none _)
      | (with_reducible refine LeO.ite ?_ ?_)
      | (with_reducible refine LeO.bind ?_ (fun _ => ?_))
      | exact ih0 _ _ _ _ _ _
      | exact spec_Digits.mono _ _
      | exact LeO.none _
      | refine LeO.ite ?_ ?_
      | refine LeO.bind ?_ (fun _ => ?_)
def spec_NodeText.T7 : Bool × List (List Nat × List Nat) := (true, [([], []), ([0], [0]), ([1], [1]), ([2], [2]), ([], []), ([4], [4]), ([5, 2], [5]), ([3, 6], [3, 6]), ([7], [7]), ([], []), ([9], [9]), ([10, 6], [10]), ([8, 11], [8, 11]), ([12], [12]), ([], []), ([14], [14]), ([15, 11], [15]), ([13, 16], [13, 16]), ([17, 16, 0, 1, 2, 3, 4, 5, 6, 7, 8, 9, 10, 11, 12, 13, 14, 15, 16, 17], [17])])
def spec_NodeText.B7 : List Nat := [0, 1, 3, 7, 0, 16, 55, 127, 255, 0, 512, 1655, 4095, 8191, 0, 16384, 52855, 131071, 262143]
theorem spec_NodeText.tab7 : rtab .any (opsOf Tryd.f20 7) = spec_NodeText.T7 := by kernel_rfl
theorem spec_NodeText.bits7 : waitsOk spec_NodeText.T7.2 spec_NodeText.B7 = true := by kernel_rfl
set_option maxHeartbeats 8000000 in
set_option maxRecDepth 100000 in
theorem spec_NodeText.calls (k : Nat) (a0_0 : Int) (a0_1 : Int) (a0_2 : Int) (a0_3 : Int) (a0_4 : Int) (r : ByteArray) (w : World) (h : spec_NodeText.f k a0_0 a0_1 a0_2 a0_3 a0_4 = some r) :
    Calls Tryd.prog 20 #[.agg #[.int .i64 a0_0, .int .i64 a0_1, .int .i64 a0_2, .int .i64 a0_3, .int .i64 a0_4]] w fun e w' => e = .returned (.string r) ∧ Below w.heap.size w w' := by
 have hu23 := Tryd.underlying23
 have HB := Aside0.mk (Below.refl w.heap.size w)
 have H : ((spec_l17Inner.f a0_0 a0_1 a0_2 a0_3 a0_4).bind fun t340 => (if t340 = true then ((spec_l1In.f a0_0 0 3).bind fun t342 => (if t342 = true then ((spec_l6Value.f a0_1).bind fun t343 => (if t343 = true then ((spec_l1In.f a0_2 1 30).bind fun t344 => (if t344 = true then ((spec_l1In.f a0_3 1 30).bind fun t345 => (if t345 = true then (spec_NodeText.j0 k (a0_4 != 0) a0_0 a0_1 a0_2 a0_3 a0_4) else (spec_NodeText.j0 k true a0_0 a0_1 a0_2 a0_3 a0_4))) else (spec_NodeText.j0 k true a0_0 a0_1 a0_2 a0_3 a0_4))) else (spec_NodeText.j0 k true a0_0 a0_1 a0_2 a0_3 a0_4))) else (spec_NodeText.j0 k true a0_0 a0_1 a0_2 a0_3 a0_4))) else (if (!(a0_0 == (-1)) || (!(a0_1 == 0) || (!(a0_2 == 0) || (!(a0_3 == 0))))) = true then (some (⟨#[]⟩ : ByteArray)) else ((spec_Digits.f k a0_4).bind fun t341 => (if 1 + t341.size ≤ 9223372036854775807 then (some ((⟨#[61]⟩ : ByteArray) ++ t341)) else (none)))))) = some r := h
 clear h
 replace H := Option.bind_eq_some_iff.mp H
 obtain ⟨t340, A20, H⟩ := H
 replace H : (if t340 = true then ((spec_l1In.f a0_0 0 3).bind fun t342 => (if t342 = true then ((spec_l6Value.f a0_1).bind fun t343 => (if t343 = true then ((spec_l1In.f a0_2 1 30).bind fun t344 => (if t344 = true then ((spec_l1In.f a0_3 1 30).bind fun t345 => (if t345 = true then (spec_NodeText.j0 k (a0_4 != 0) a0_0 a0_1 a0_2 a0_3 a0_4) else (spec_NodeText.j0 k true a0_0 a0_1 a0_2 a0_3 a0_4))) else (spec_NodeText.j0 k true a0_0 a0_1 a0_2 a0_3 a0_4))) else (spec_NodeText.j0 k true a0_0 a0_1 a0_2 a0_3 a0_4))) else (spec_NodeText.j0 k true a0_0 a0_1 a0_2 a0_3 a0_4))) else (if (!(a0_0 == (-1)) || (!(a0_1 == 0) || (!(a0_2 == 0) || (!(a0_3 == 0))))) = true then (some (⟨#[]⟩ : ByteArray)) else ((spec_Digits.f k a0_4).bind fun t341 => (if 1 + t341.size ≤ 9223372036854775807 then (some ((⟨#[61]⟩ : ByteArray) ++ t341)) else (none))))) = some r := H
 have A2 := Aside0.mk A20
 clear A20
 have HZ3 := Aside0.mk H
 clear H
 go_enter Tryd.func20, Tryd.ntmps20
 go_upto_if 5 with (first | ((with_reducible refine gate_dst (N := 1) rfl ?_); refine box_event ?hg (N := 1) ?hd (cs := #[.int .i64 a0_0, .int .i64 a0_1, .int .i64 a0_2, .int .i64 a0_3, .int .i64 a0_4]) (t := 23) ?hr ?_; (case hd => rfl); (case hg => rfl); (case hr => first | (go_simp; done) | (go_simp; rfl)); intro gb339 hg w4 hbox hb; have n_ := spec_NodeText.K4_ (below_step (by repeat (first | (with_reducible first | exact HB.out | apply below_alloc | apply pw_below_drewN | apply below_drew1) | exact HB.out)) hb) hbox ((by rw [hg]; exact (below_size (by repeat (first | (with_reducible first | exact HB.out | apply below_alloc | apply pw_below_drewN | apply below_drew1) | exact HB.out))) : w.heap.size ≤ gb339)) ((by rw [hg]; exact (below_size (by repeat (first | (with_reducible first | exact HB.out | apply below_alloc | apply pw_below_drewN | apply below_drew1) | exact HB.out))) : w.heap.size ≤ gb339)); clear HB; obtain ⟨HB, BK339, GW339, GE339⟩ := n_; clear hb hbox hg; have hcz5_0 : w4.cell? ⟨gb339, 0, none⟩ = some (.int .i64 a0_0) := (blk_cell BK339.out 0).trans rfl; have hcz5_1 : w4.cell? ⟨gb339, 1, none⟩ = some (.int .i64 a0_1) := (blk_cell BK339.out 1).trans rfl; have hcz5_2 : w4.cell? ⟨gb339, 2, none⟩ = some (.int .i64 a0_2) := (blk_cell BK339.out 2).trans rfl; have hcz5_3 : w4.cell? ⟨gb339, 3, none⟩ = some (.int .i64 a0_3) := (blk_cell BK339.out 3).trans rfl; have hcz5_4 : w4.cell? ⟨gb339, 4, none⟩ = some (.int .i64 a0_4) := (blk_cell BK339.out 4).trans rfl; have hfz5_0 := blk_frozen BK339.out 0; have hfz5_1 := blk_frozen BK339.out 1; have hfz5_2 := blk_frozen BK339.out 2; have hfz5_3 := blk_frozen BK339.out 3; have hfz5_4 := blk_frozen BK339.out 4) | ((with_reducible refine gate_callee (f := 64) rfl ?_); refine goesL_ (some 4) rfl rfl Tryd.func64 (by kernel_rfl) rfl #[.agg #[.int .i64 a0_0, .int .i64 a0_1, .int .i64 a0_2, .int .i64 a0_3, .int .i64 a0_4]] rfl (by (try simp only [List.map_toArray, List.map_cons, List.map_nil]); first | done | rfl | (simp only [List.length_drop, List.length_take]; rfl)) ?_; (with_reducible refine (spec_l17Inner.calls a0_0 a0_1 a0_2 a0_3 a0_4 t340 _ A2.out).mono ?_); rintro e w6 ⟨rfl, hb⟩; refine ⟨_, rfl, ?_⟩; have n_ := spec_NodeText.K2_ (blk_below (g := gb339) (o := .cells #[.int .i64 a0_0, .int .i64 a0_1, .int .i64 a0_2, .int .i64 a0_3, .int .i64 a0_4] 23 (0, 0)) (by (with_reducible repeat (first | refine blk_drewN ?_ _ | refine blk_drew ?_ | refine blk_alloc ?_ _)); exact BK339.out) hb) (below_step (by repeat (first | (with_reducible first | exact HB.out | apply below_alloc | apply pw_below_drewN | apply below_drew1 | refine below_set ?_ GE339.out) | exact HB.out)) hb); clear BK339 HB; obtain ⟨BK339, HB⟩ := n_; (try clear hb); (try clear hb2); (try clear hk); (try clear hi)))
 (try simp only [Act.put, List.setIfInBounds_toArray, List.set_cons_zero, List.set_cons_succ])
 have H := HZ3.out
 clear HZ3
 by_cases c7 : t340 = true
 case neg =>
  replace c7 := Bool.eq_false_iff.mpr c7
  subst c7
  have H1 : (if (!(a0_0 == (-1)) || (!(a0_1 == 0) || (!(a0_2 == 0) || (!(a0_3 == 0))))) = true then (some (⟨#[]⟩ : ByteArray)) else ((spec_Digits.f k a0_4).bind fun t341 => (if 1 + t341.size ≤ 9223372036854775807 then (some ((⟨#[61]⟩ : ByteArray) ++ t341)) else (none)))) = some r := by rw [if_neg (show ¬ (false = true) by decide)] at H; exact H
  clear H
  have H := H1
  clear H1
  by_cases c38 : (!(a0_0 == (-1)) || (!(a0_1 == 0) || (!(a0_2 == 0) || (!(a0_3 == 0))))) = true
  case pos =>
   rw [if_pos c38] at H
   have c38b0 : (!(a0_0 == (-1)) || (!(a0_1 == 0) || (!(a0_2 == 0) || (!(a0_3 == 0))))) = true := c38
   clear c38
   obtain rfl := Option.some.inj H
   have hcz39_0 : w6.cell? ⟨gb339, 0, none⟩ = some (.int .i64 a0_0) := (blk_cell BK339.out 0).trans rfl
   have hcz39_1 : w6.cell? ⟨gb339, 1, none⟩ = some (.int .i64 a0_1) := (blk_cell BK339.out 1).trans rfl
   have hcz39_2 : w6.cell? ⟨gb339, 2, none⟩ = some (.int .i64 a0_2) := (blk_cell BK339.out 2).trans rfl
   have hcz39_3 : w6.cell? ⟨gb339, 3, none⟩ = some (.int .i64 a0_3) := (blk_cell BK339.out 3).trans rfl
   have hcz39_4 : w6.cell? ⟨gb339, 4, none⟩ = some (.int .i64 a0_4) := (blk_cell BK339.out 4).trans rfl
   have hfz39_0 := blk_frozen BK339.out 0
   have hfz39_1 := blk_frozen BK339.out 1
   have hfz39_2 := blk_frozen BK339.out 2
   have hfz39_3 := blk_frozen BK339.out 3
   have hfz39_4 := blk_frozen BK339.out 4
   go_wp2
   go_ret
   exact ⟨by first | rfl | (simp [errW_none, errW_some] <;> rfl) | (simp [*, errW_none, errW_some] <;> rfl), by repeat (first | (with_reducible first | exact HB.out | apply below_alloc | apply pw_below_drewN | apply below_drew1 | refine below_set ?_ GE339.out) | exact HB.out)⟩
  rw [if_neg c38] at H
  have c38b0 : (!(a0_0 == (-1)) || (!(a0_1 == 0) || (!(a0_2 == 0) || (!(a0_3 == 0))))) = false := by simpa using c38
  clear c38
  replace H := Option.bind_eq_some_iff.mp H
  obtain ⟨t341, A400, H⟩ := H
  replace H : (if 1 + t341.size ≤ 9223372036854775807 then (some ((⟨#[61]⟩ : ByteArray) ++ t341)) else (none)) = some r := H
  have A40 := Aside0.mk A400
  clear A400
  by_cases c41 : 1 + t341.size ≤ 9223372036854775807
  case neg =>
   rw [if_neg c41] at H
   exact absurd H (by simp)
  rw [if_pos c41] at H
  have c41b0 := eq_true c41
  have c41b1 : decide (1 + t341.size ≤ 9223372036854775807) = true := decide_eq_true c41
  try have c41b2 : (9223372036854775807 < 1 + t341.size) = False := eq_false (Nat.not_lt.2 c41)
  obtain rfl := Option.some.inj H
  have hcz42_0 : w6.cell? ⟨gb339, 0, none⟩ = some (.int .i64 a0_0) := (blk_cell BK339.out 0).trans rfl
  have hcz42_1 : w6.cell? ⟨gb339, 1, none⟩ = some (.int .i64 a0_1) := (blk_cell BK339.out 1).trans rfl
  have hcz42_2 : w6.cell? ⟨gb339, 2, none⟩ = some (.int .i64 a0_2) := (blk_cell BK339.out 2).trans rfl
  have hcz42_3 : w6.cell? ⟨gb339, 3, none⟩ = some (.int .i64 a0_3) := (blk_cell BK339.out 3).trans rfl
  have hcz42_4 : w6.cell? ⟨gb339, 4, none⟩ = some (.int .i64 a0_4) := (blk_cell BK339.out 4).trans rfl
  have hfz42_0 := blk_frozen BK339.out 0
  have hfz42_1 := blk_frozen BK339.out 1
  have hfz42_2 := blk_frozen BK339.out 2
  have hfz42_3 := blk_frozen BK339.out 3
  have hfz42_4 := blk_frozen BK339.out 4
  go_wp2_with (first | ((with_reducible refine gate_callee (f := 50) rfl ?_); refine goesL_ (some 13) rfl rfl Tryd.func50 (by kernel_rfl) rfl #[.int .i64 a0_4] rfl (by (try simp only [List.map_toArray, List.map_cons, List.map_nil]); first | done | rfl | (simp only [List.length_drop, List.length_take]; rfl)) ?_; (with_reducible refine (spec_Digits.calls k a0_4 t341 _ A40.out).mono ?_); rintro e w43 ⟨rfl, hb⟩; refine ⟨_, rfl, ?_⟩; have n_ := spec_NodeText.K2_ (blk_below (g := gb339) (o := .cells #[.int .i64 a0_0, .int .i64 a0_1, .int .i64 a0_2, .int .i64 a0_3, .int .i64 a0_4] 23 (0, 0)) (by (with_reducible repeat (first | refine blk_drewN ?_ _ | refine blk_drew ?_ | refine blk_alloc ?_ _)); exact BK339.out) hb) (below_step (by repeat (first | (with_reducible first | exact HB.out | apply below_alloc | apply pw_below_drewN | apply below_drew1 | refine below_set ?_ GE339.out) | exact HB.out)) hb); clear BK339 HB; obtain ⟨BK339, HB⟩ := n_; (try clear hb); (try clear hb2); (try clear hk); (try clear hi)))
  go_ret
  exact ⟨by first | rfl | (simp [errW_none, errW_some] <;> rfl) | (simp [*, errW_none, errW_some] <;> rfl), by repeat (first | (with_reducible first | exact HB.out | apply below_alloc | apply pw_below_drewN | apply below_drew1 | refine below_set ?_ GE339.out) | exact HB.out)⟩
 subst c7
 have H1 : ((spec_l1In.f a0_0 0 3).bind fun t342 => (if t342 = true then ((spec_l6Value.f a0_1).bind fun t343 => (if t343 = true then ((spec_l1In.f a0_2 1 30).bind fun t344 => (if t344 = true then ((spec_l1In.f a0_3 1 30).bind fun t345 => (if t345 = true then (spec_NodeText.j0 k (a0_4 != 0) a0_0 a0_1 a0_2 a0_3 a0_4) else (spec_NodeText.j0 k true a0_0 a0_1 a0_2 a0_3 a0_4))) else (spec_NodeText.j0 k true a0_0 a0_1 a0_2 a0_3 a0_4))) else (spec_NodeText.j0 k true a0_0 a0_1 a0_2 a0_3 a0_4))) else (spec_NodeText.j0 k true a0_0 a0_1 a0_2 a0_3 a0_4))) = some r := by rw [if_pos rfl] at H; exact H
 clear H
 have H := H1
 clear H1
 have HC8 := Aside0.mk H
 clear H
 go_upto_region 5 with (fail)
 go_cut [41] (fun v41 wc => ∃ (kq : Nat) (x41_7 : Bool), v41 = .bool x41_7 ∧ Aside0 (spec_NodeText.j0 kq x41_7 a0_0 a0_1 a0_2 a0_3 a0_4 = some r) ∧ Aside0 (kq ≤ k) ∧ Aside0 (wc.heap[gb339]? = some (.cells #[.int .i64 a0_0, .int .i64 a0_1, .int .i64 a0_2, .int .i64 a0_3, .int .i64 a0_4] 23 (0, 0))) ∧ Aside0 (Below w.heap.size w wc))
 case first =>
  have H := HC8.out
  clear HC8
  replace H := Option.bind_eq_some_iff.mp H
  obtain ⟨t342, A90, H⟩ := H
  replace H : (if t342 = true then ((spec_l6Value.f a0_1).bind fun t343 => (if t343 = true then ((spec_l1In.f a0_2 1 30).bind fun t344 => (if t344 = true then ((spec_l1In.f a0_3 1 30).bind fun t345 => (if t345 = true then (spec_NodeText.j0 k (a0_4 != 0) a0_0 a0_1 a0_2 a0_3 a0_4) else (spec_NodeText.j0 k true a0_0 a0_1 a0_2 a0_3 a0_4))) else (spec_NodeText.j0 k true a0_0 a0_1 a0_2 a0_3 a0_4))) else (spec_NodeText.j0 k true a0_0 a0_1 a0_2 a0_3 a0_4))) else (spec_NodeText.j0 k true a0_0 a0_1 a0_2 a0_3 a0_4)) = some r := H
  have A9 := Aside0.mk A90
  clear A90
  by_cases c10 : t342 = true
  case neg =>
   replace c10 := Bool.eq_false_iff.mpr c10
   subst c10
   have H1 : (spec_NodeText.j0 k true a0_0 a0_1 a0_2 a0_3 a0_4) = some r := by rw [if_neg (show ¬ (false = true) by decide)] at H; exact H
   clear H
   have H := H1
   clear H1
   have H' := Aside0.mk H
   clear H
   have hcz21_0 : w6.cell? ⟨gb339, 0, none⟩ = some (.int .i64 a0_0) := (blk_cell BK339.out 0).trans rfl
   have hcz21_1 : w6.cell? ⟨gb339, 1, none⟩ = some (.int .i64 a0_1) := (blk_cell BK339.out 1).trans rfl
   have hcz21_2 : w6.cell? ⟨gb339, 2, none⟩ = some (.int .i64 a0_2) := (blk_cell BK339.out 2).trans rfl
   have hcz21_3 : w6.cell? ⟨gb339, 3, none⟩ = some (.int .i64 a0_3) := (blk_cell BK339.out 3).trans rfl
   have hcz21_4 : w6.cell? ⟨gb339, 4, none⟩ = some (.int .i64 a0_4) := (blk_cell BK339.out 4).trans rfl
   have hfz21_0 := blk_frozen BK339.out 0
   have hfz21_1 := blk_frozen BK339.out 1
   have hfz21_2 := blk_frozen BK339.out 2
   have hfz21_3 := blk_frozen BK339.out 3
   have hfz21_4 := blk_frozen BK339.out 4
   go_wp2_with (first | ((with_reducible refine gate_callee (f := 65) rfl ?_); refine goesL_ (some 17) rfl rfl Tryd.func65 (by kernel_rfl) rfl #[.int .i64 a0_0, .int .i64 0, .int .i64 3] rfl (by (try simp only [List.map_toArray, List.map_cons, List.map_nil]); first | done | rfl | (simp only [List.length_drop, List.length_take]; rfl)) ?_; (with_reducible refine (spec_l1In.calls a0_0 0 3 false _ A9.out).mono ?_); rintro e w' ⟨rfl, ⟨nd, rfl⟩⟩; refine ⟨_, rfl, ?_⟩))
   go_meet
   case rel => exact ⟨_, (true), (by first | rfl | (simp; done) | (simp [*]; done)), H', ⟨by first | omega | exact Nat.le_refl _⟩, ⟨by (with_reducible repeat (first | refine blk_drewN ?_ _ | refine blk_drew ?_ | refine blk_alloc ?_ _)); exact BK339.out⟩, ⟨by repeat (first | (with_reducible first | exact HB.out | apply below_alloc | apply pw_below_drewN | apply below_drew1 | refine below_set ?_ GE339.out) | exact HB.out)⟩⟩
  subst c10
  have H1 : ((spec_l6Value.f a0_1).bind fun t343 => (if t343 = true then ((spec_l1In.f a0_2 1 30).bind fun t344 => (if t344 = true then ((spec_l1In.f a0_3 1 30).bind fun t345 => (if t345 = true then (spec_NodeText.j0 k (a0_4 != 0) a0_0 a0_1 a0_2 a0_3 a0_4) else (spec_NodeText.j0 k true a0_0 a0_1 a0_2 a0_3 a0_4))) else (spec_NodeText.j0 k true a0_0 a0_1 a0_2 a0_3 a0_4))) else (spec_NodeText.j0 k true a0_0 a0_1 a0_2 a0_3 a0_4))) = some r := by rw [if_pos rfl] at H; exact H
  clear H
  have H := H1
  clear H1
  replace H := Option.bind_eq_some_iff.mp H
  obtain ⟨t343, A110, H⟩ := H
  replace H : (if t343 = true then ((spec_l1In.f a0_2 1 30).bind fun t344 => (if t344 = true then ((spec_l1In.f a0_3 1 30).bind fun t345 => (if t345 = true then (spec_NodeText.j0 k (a0_4 != 0) a0_0 a0_1 a0_2 a0_3 a0_4) else (spec_NodeText.j0 k true a0_0 a0_1 a0_2 a0_3 a0_4))) else (spec_NodeText.j0 k true a0_0 a0_1 a0_2 a0_3 a0_4))) else (spec_NodeText.j0 k true a0_0 a0_1 a0_2 a0_3 a0_4)) = some r := H
  have A11 := Aside0.mk A110
  clear A110
  by_cases c12 : t343 = true
  case neg =>
   replace c12 := Bool.eq_false_iff.mpr c12
   subst c12
   have H1 : (spec_NodeText.j0 k true a0_0 a0_1 a0_2 a0_3 a0_4) = some r := by rw [if_neg (show ¬ (false = true) by decide)] at H; exact H
   clear H
   have H := H1
   clear H1
   have H' := Aside0.mk H
   clear H
   have hcz20_0 : w6.cell? ⟨gb339, 0, none⟩ = some (.int .i64 a0_0) := (blk_cell BK339.out 0).trans rfl
   have hcz20_1 : w6.cell? ⟨gb339, 1, none⟩ = some (.int .i64 a0_1) := (blk_cell BK339.out 1).trans rfl
   have hcz20_2 : w6.cell? ⟨gb339, 2, none⟩ = some (.int .i64 a0_2) := (blk_cell BK339.out 2).trans rfl
   have hcz20_3 : w6.cell? ⟨gb339, 3, none⟩ = some (.int .i64 a0_3) := (blk_cell BK339.out 3).trans rfl
   have hcz20_4 : w6.cell? ⟨gb339, 4, none⟩ = some (.int .i64 a0_4) := (blk_cell BK339.out 4).trans rfl
   have hfz20_0 := blk_frozen BK339.out 0
   have hfz20_1 := blk_frozen BK339.out 1
   have hfz20_2 := blk_frozen BK339.out 2
   have hfz20_3 := blk_frozen BK339.out 3
   have hfz20_4 := blk_frozen BK339.out 4
   go_wp2_with (first | ((with_reducible refine gate_callee (f := 65) rfl ?_); refine goesL_ (some 17) rfl rfl Tryd.func65 (by kernel_rfl) rfl #[.int .i64 a0_0, .int .i64 0, .int .i64 3] rfl (by (try simp only [List.map_toArray, List.map_cons, List.map_nil]); first | done | rfl | (simp only [List.length_drop, List.length_take]; rfl)) ?_; (with_reducible refine (spec_l1In.calls a0_0 0 3 true _ A9.out).mono ?_); rintro e w' ⟨rfl, ⟨nd, rfl⟩⟩; refine ⟨_, rfl, ?_⟩) | (go_at_call 66; (with_reducible refine (spec_l6Value.calls a0_1 false _ A11.out).mono ?_); rintro e w' ⟨rfl, ⟨nd, rfl⟩⟩))
   go_meet
   case rel => exact ⟨_, (true), (by first | rfl | (simp; done) | (simp [*]; done)), H', ⟨by first | omega | exact Nat.le_refl _⟩, ⟨by (with_reducible repeat (first | refine blk_drewN ?_ _ | refine blk_drew ?_ | refine blk_alloc ?_ _)); exact BK339.out⟩, ⟨by repeat (first | (with_reducible first | exact HB.out | apply below_alloc | apply pw_below_drewN | apply below_drew1 | refine below_set ?_ GE339.out) | exact HB.out)⟩⟩
  subst c12
  have H1 : ((spec_l1In.f a0_2 1 30).bind fun t344 => (if t344 = true then ((spec_l1In.f a0_3 1 30).bind fun t345 => (if t345 = true then (spec_NodeText.j0 k (a0_4 != 0) a0_0 a0_1 a0_2 a0_3 a0_4) else (spec_NodeText.j0 k true a0_0 a0_1 a0_2 a0_3 a0_4))) else (spec_NodeText.j0 k true a0_0 a0_1 a0_2 a0_3 a0_4))) = some r := by rw [if_pos rfl] at H; exact H
  clear H
  have H := H1
  clear H1
  replace H := Option.bind_eq_some_iff.mp H
  obtain ⟨t344, A130, H⟩ := H
  replace H : (if t344 = true then ((spec_l1In.f a0_3 1 30).bind fun t345 => (if t345 = true then (spec_NodeText.j0 k (a0_4 != 0) a0_0 a0_1 a0_2 a0_3 a0_4) else (spec_NodeText.j0 k true a0_0 a0_1 a0_2 a0_3 a0_4))) else (spec_NodeText.j0 k true a0_0 a0_1 a0_2 a0_3 a0_4)) = some r := H
  have A13 := Aside0.mk A130
  clear A130
  by_cases c14 : t344 = true
  case neg =>
   replace c14 := Bool.eq_false_iff.mpr c14
   subst c14
   have H1 : (spec_NodeText.j0 k true a0_0 a0_1 a0_2 a0_3 a0_4) = some r := by rw [if_neg (show ¬ (false = true) by decide)] at H; exact H
   clear H
   have H := H1
   clear H1
   have H' := Aside0.mk H
   clear H
   have hcz19_0 : w6.cell? ⟨gb339, 0, none⟩ = some (.int .i64 a0_0) := (blk_cell BK339.out 0).trans rfl
   have hcz19_1 : w6.cell? ⟨gb339, 1, none⟩ = some (.int .i64 a0_1) := (blk_cell BK339.out 1).trans rfl
   have hcz19_2 : w6.cell? ⟨gb339, 2, none⟩ = some (.int .i64 a0_2) := (blk_cell BK339.out 2).trans rfl
   have hcz19_3 : w6.cell? ⟨gb339, 3, none⟩ = some (.int .i64 a0_3) := (blk_cell BK339.out 3).trans rfl
   have hcz19_4 : w6.cell? ⟨gb339, 4, none⟩ = some (.int .i64 a0_4) := (blk_cell BK339.out 4).trans rfl
   have hfz19_0 := blk_frozen BK339.out 0
   have hfz19_1 := blk_frozen BK339.out 1
   have hfz19_2 := blk_frozen BK339.out 2
   have hfz19_3 := blk_frozen BK339.out 3
   have hfz19_4 := blk_frozen BK339.out 4
   go_wp2_with (first | ((with_reducible refine gate_callee (f := 65) rfl ?_); refine goesL_ (some 17) rfl rfl Tryd.func65 (by kernel_rfl) rfl #[.int .i64 a0_0, .int .i64 0, .int .i64 3] rfl (by (try simp only [List.map_toArray, List.map_cons, List.map_nil]); first | done | rfl | (simp only [List.length_drop, List.length_take]; rfl)) ?_; (with_reducible refine (spec_l1In.calls a0_0 0 3 true _ A9.out).mono ?_); rintro e w' ⟨rfl, ⟨nd, rfl⟩⟩; refine ⟨_, rfl, ?_⟩) | (go_at_call 66; (with_reducible refine (spec_l6Value.calls a0_1 true _ A11.out).mono ?_); rintro e w' ⟨rfl, ⟨nd, rfl⟩⟩) | (go_at_call 65; (with_reducible refine (spec_l1In.calls a0_2 1 30 false _ A13.out).mono ?_); rintro e w' ⟨rfl, ⟨nd, rfl⟩⟩))
   go_meet
   case rel => exact ⟨_, (true), (by first | rfl | (simp; done) | (simp [*]; done)), H', ⟨by first | omega | exact Nat.le_refl _⟩, ⟨by (with_reducible repeat (first | refine blk_drewN ?_ _ | refine blk_drew ?_ | refine blk_alloc ?_ _)); exact BK339.out⟩, ⟨by repeat (first | (with_reducible first | exact HB.out | apply below_alloc | apply pw_below_drewN | apply below_drew1 | refine below_set ?_ GE339.out) | exact HB.out)⟩⟩
  subst c14
  have H1 : ((spec_l1In.f a0_3 1 30).bind fun t345 => (if t345 = true then (spec_NodeText.j0 k (a0_4 != 0) a0_0 a0_1 a0_2 a0_3 a0_4) else (spec_NodeText.j0 k true a0_0 a0_1 a0_2 a0_3 a0_4))) = some r := by rw [if_pos rfl] at H; exact H
  clear H
  have H := H1
  clear H1
  replace H := Option.bind_eq_some_iff.mp H
  obtain ⟨t345, A150, H⟩ := H
  replace H : (if t345 = true then (spec_NodeText.j0 k (a0_4 != 0) a0_0 a0_1 a0_2 a0_3 a0_4) else (spec_NodeText.j0 k true a0_0 a0_1 a0_2 a0_3 a0_4)) = some r := H
  have A15 := Aside0.mk A150
  clear A150
  by_cases c16 : t345 = true
  case pos =>
   subst c16
   have H1 : (spec_NodeText.j0 k (a0_4 != 0) a0_0 a0_1 a0_2 a0_3 a0_4) = some r := by rw [if_pos rfl] at H; exact H
   clear H
   have H := H1
   clear H1
   have H' := Aside0.mk H
   clear H
   have hcz17_0 : w6.cell? ⟨gb339, 0, none⟩ = some (.int .i64 a0_0) := (blk_cell BK339.out 0).trans rfl
   have hcz17_1 : w6.cell? ⟨gb339, 1, none⟩ = some (.int .i64 a0_1) := (blk_cell BK339.out 1).trans rfl
   have hcz17_2 : w6.cell? ⟨gb339, 2, none⟩ = some (.int .i64 a0_2) := (blk_cell BK339.out 2).trans rfl
   have hcz17_3 : w6.cell? ⟨gb339, 3, none⟩ = some (.int .i64 a0_3) := (blk_cell BK339.out 3).trans rfl
   have hcz17_4 : w6.cell? ⟨gb339, 4, none⟩ = some (.int .i64 a0_4) := (blk_cell BK339.out 4).trans rfl
   have hfz17_0 := blk_frozen BK339.out 0
   have hfz17_1 := blk_frozen BK339.out 1
   have hfz17_2 := blk_frozen BK339.out 2
   have hfz17_3 := blk_frozen BK339.out 3
   have hfz17_4 := blk_frozen BK339.out 4
   go_wp2_with (first | ((with_reducible refine gate_callee (f := 65) rfl ?_); refine goesL_ (some 17) rfl rfl Tryd.func65 (by kernel_rfl) rfl #[.int .i64 a0_0, .int .i64 0, .int .i64 3] rfl (by (try simp only [List.map_toArray, List.map_cons, List.map_nil]); first | done | rfl | (simp only [List.length_drop, List.length_take]; rfl)) ?_; (with_reducible refine (spec_l1In.calls a0_0 0 3 true _ A9.out).mono ?_); rintro e w' ⟨rfl, ⟨nd, rfl⟩⟩; refine ⟨_, rfl, ?_⟩) | (go_at_call 66; (with_reducible refine (spec_l6Value.calls a0_1 true _ A11.out).mono ?_); rintro e w' ⟨rfl, ⟨nd, rfl⟩⟩) | (go_at_call 65; (with_reducible refine (spec_l1In.calls a0_2 1 30 true _ A13.out).mono ?_); rintro e w' ⟨rfl, ⟨nd, rfl⟩⟩) | (go_at_call 65; (with_reducible refine (spec_l1In.calls a0_3 1 30 true _ A15.out).mono ?_); rintro e w' ⟨rfl, ⟨nd, rfl⟩⟩))
   go_meet
   case rel => exact ⟨_, ((a0_4 != 0)), (by first | rfl | (simp; done) | (simp [*]; done)), H', ⟨by first | omega | exact Nat.le_refl _⟩, ⟨by (with_reducible repeat (first | refine blk_drewN ?_ _ | refine blk_drew ?_ | refine blk_alloc ?_ _)); exact BK339.out⟩, ⟨by repeat (first | (with_reducible first | exact HB.out | apply below_alloc | apply pw_below_drewN | apply below_drew1 | refine below_set ?_ GE339.out) | exact HB.out)⟩⟩
  replace c16 := Bool.eq_false_iff.mpr c16
  subst c16
  have H1 : (spec_NodeText.j0 k true a0_0 a0_1 a0_2 a0_3 a0_4) = some r := by rw [if_neg (show ¬ (false = true) by decide)] at H; exact H
  clear H
  have H := H1
  clear H1
  have H' := Aside0.mk H
  clear H
  have hcz18_0 : w6.cell? ⟨gb339, 0, none⟩ = some (.int .i64 a0_0) := (blk_cell BK339.out 0).trans rfl
  have hcz18_1 : w6.cell? ⟨gb339, 1, none⟩ = some (.int .i64 a0_1) := (blk_cell BK339.out 1).trans rfl
  have hcz18_2 : w6.cell? ⟨gb339, 2, none⟩ = some (.int .i64 a0_2) := (blk_cell BK339.out 2).trans rfl
  have hcz18_3 : w6.cell? ⟨gb339, 3, none⟩ = some (.int .i64 a0_3) := (blk_cell BK339.out 3).trans rfl
  have hcz18_4 : w6.cell? ⟨gb339, 4, none⟩ = some (.int .i64 a0_4) := (blk_cell BK339.out 4).trans rfl
  have hfz18_0 := blk_frozen BK339.out 0
  have hfz18_1 := blk_frozen BK339.out 1
  have hfz18_2 := blk_frozen BK339.out 2
  have hfz18_3 := blk_frozen BK339.out 3
  have hfz18_4 := blk_frozen BK339.out 4
  go_wp2_with (first | ((with_reducible refine gate_callee (f := 65) rfl ?_); refine goesL_ (some 17) rfl rfl Tryd.func65 (by kernel_rfl) rfl #[.int .i64 a0_0, .int .i64 0, .int .i64 3] rfl (by (try simp only [List.map_toArray, List.map_cons, List.map_nil]); first | done | rfl | (simp only [List.length_drop, List.length_take]; rfl)) ?_; (with_reducible refine (spec_l1In.calls a0_0 0 3 true _ A9.out).mono ?_); rintro e w' ⟨rfl, ⟨nd, rfl⟩⟩; refine ⟨_, rfl, ?_⟩) | (go_at_call 66; (with_reducible refine (spec_l6Value.calls a0_1 true _ A11.out).mono ?_); rintro e w' ⟨rfl, ⟨nd, rfl⟩⟩) | (go_at_call 65; (with_reducible refine (spec_l1In.calls a0_2 1 30 true _ A13.out).mono ?_); rintro e w' ⟨rfl, ⟨nd, rfl⟩⟩) | (go_at_call 65; (with_reducible refine (spec_l1In.calls a0_3 1 30 false _ A15.out).mono ?_); rintro e w' ⟨rfl, ⟨nd, rfl⟩⟩))
  go_meet
  case rel => exact ⟨_, (true), (by first | rfl | (simp; done) | (simp [*]; done)), H', ⟨by first | omega | exact Nat.le_refl _⟩, ⟨by (with_reducible repeat (first | refine blk_drewN ?_ _ | refine blk_drew ?_ | refine blk_alloc ?_ _)); exact BK339.out⟩, ⟨by repeat (first | (with_reducible first | exact HB.out | apply below_alloc | apply pw_below_drewN | apply below_drew1 | refine below_set ?_ GE339.out) | exact HB.out)⟩⟩
 case rest =>
  clear HC8
  try clear c1
  try clear c2
  try clear p2
  try clear c6
  try clear c7
  try clear c10
  try clear c12
  try clear c14
  try clear c16
  try clear c20
  try clear hcz17_0
  try clear hcz17_1
  try clear hcz17_2
  try clear hcz17_3
  try clear hcz17_4
  try clear hcz18_0
  try clear hcz18_1
  try clear hcz18_2
  try clear hcz18_3
  try clear hcz18_4
  try clear hcz19_0
  try clear hcz19_1
  try clear hcz19_2
  try clear hcz19_3
  try clear hcz19_4
  try clear hcz20_0
  try clear hcz20_1
  try clear hcz20_2
  try clear hcz20_3
  try clear hcz20_4
  try clear hcz21_0
  try clear hcz21_1
  try clear hcz21_2
  try clear hcz21_3
  try clear hcz21_4
  try clear hcz5_0
  try clear hcz5_1
  try clear hcz5_2
  try clear hcz5_3
  try clear hcz5_4
  try clear hfz17_0
  try clear hfz17_1
  try clear hfz17_2
  try clear hfz17_3
  try clear hfz17_4
  try clear hfz18_0
  try clear hfz18_1
  try clear hfz18_2
  try clear hfz18_3
  try clear hfz18_4
  try clear hfz19_0
  try clear hfz19_1
  try clear hfz19_2
  try clear hfz19_3
  try clear hfz19_4
  try clear hfz20_0
  try clear hfz20_1
  try clear hfz20_2
  try clear hfz20_3
  try clear hfz20_4
  try clear hfz21_0
  try clear hfz21_1
  try clear hfz21_2
  try clear hfz21_3
  try clear hfz21_4
  try clear hfz5_0
  try clear hfz5_1
  try clear hfz5_2
  try clear hfz5_3
  try clear hfz5_4
  obtain ⟨kq, x41_7, rfl, HA, HJ7, BK339, HB⟩ := hcut
  cases kq with
  | zero => exact absurd HA.out (by simp [spec_NodeText.j0])
  | succ kj7 =>
   have H := HA.out
   clear HA
   simp only [spec_NodeText.j0] at H
   by_cases c22 : x41_7 = true
   case pos =>
    subst c22
    have H1 : (some (⟨#[]⟩ : ByteArray)) = some r := by rw [if_pos rfl] at H; exact H
    clear H
    have H := H1
    clear H1
    obtain rfl := Option.some.inj H
    go_wp2
    go_ret
    exact ⟨by first | rfl | (simp [errW_none, errW_some] <;> rfl) | (simp [*, errW_none, errW_some] <;> rfl), by repeat (first | (with_reducible first | exact HB.out | apply below_alloc | apply pw_below_drewN | apply below_drew1 | refine below_set ?_ GE339.out) | exact HB.out)⟩
   replace c22 := Bool.eq_false_iff.mpr c22
   subst c22
   have H1 : ((spec_Digits.f kj7 a0_0).bind fun t346 => (if t346.size + 1 ≤ 9223372036854775807 then ((spec_Digits.f kj7 a0_1).bind fun t347 => (if (t346 ++ (⟨#[60]⟩ : ByteArray)).size + t347.size ≤ 9223372036854775807 then (if ((t346 ++ (⟨#[60]⟩ : ByteArray)) ++ t347).size + 1 ≤ 9223372036854775807 then ((spec_Digits.f kj7 a0_2).bind fun t348 => (if (((t346 ++ (⟨#[60]⟩ : ByteArray)) ++ t347) ++ (⟨#[58]⟩ : ByteArray)).size + t348.size ≤ 9223372036854775807 then (if ((((t346 ++ (⟨#[60]⟩ : ByteArray)) ++ t347) ++ (⟨#[58]⟩ : ByteArray)) ++ t348).size + 1 ≤ 9223372036854775807 then ((spec_Digits.f kj7 a0_3).bind fun t349 => (if (((((t346 ++ (⟨#[60]⟩ : ByteArray)) ++ t347) ++ (⟨#[58]⟩ : ByteArray)) ++ t348) ++ (⟨#[44]⟩ : ByteArray)).size + t349.size ≤ 9223372036854775807 then (some ((((((t346 ++ (⟨#[60]⟩ : ByteArray)) ++ t347) ++ (⟨#[58]⟩ : ByteArray)) ++ t348) ++ (⟨#[44]⟩ : ByteArray)) ++ t349)) else (none))) else (none)) else (none))) else (none)) else (none))) else (none))) = some r := by rw [if_neg (show ¬ (false = true) by decide)] at H; exact H
   clear H
   have H := H1
   clear H1
   replace H := Option.bind_eq_some_iff.mp H
   obtain ⟨t346, A230, H⟩ := H
   replace H : (if t346.size + 1 ≤ 9223372036854775807 then ((spec_Digits.f kj7 a0_1).bind fun t347 => (if (t346 ++ (⟨#[60]⟩ : ByteArray)).size + t347.size ≤ 9223372036854775807 then (if ((t346 ++ (⟨#[60]⟩ : ByteArray)) ++ t347).size + 1 ≤ 9223372036854775807 then ((spec_Digits.f kj7 a0_2).bind fun t348 => (if (((t346 ++ (⟨#[60]⟩ : ByteArray)) ++ t347) ++ (⟨#[58]⟩ : ByteArray)).size + t348.size ≤ 9223372036854775807 then (if ((((t346 ++ (⟨#[60]⟩ : ByteArray)) ++ t347) ++ (⟨#[58]⟩ : ByteArray)) ++ t348).size + 1 ≤ 9223372036854775807 then ((spec_Digits.f kj7 a0_3).bind fun t349 => (if (((((t346 ++ (⟨#[60]⟩ : ByteArray)) ++ t347) ++ (⟨#[58]⟩ : ByteArray)) ++ t348) ++ (⟨#[44]⟩ : ByteArray)).size + t349.size ≤ 9223372036854775807 then (some ((((((t346 ++ (⟨#[60]⟩ : ByteArray)) ++ t347) ++ (⟨#[58]⟩ : ByteArray)) ++ t348) ++ (⟨#[44]⟩ : ByteArray)) ++ t349)) else (none))) else (none)) else (none))) else (none)) else (none))) else (none)) = some r := H
   have A23 := Aside0.mk A230
   clear A230
   by_cases c24 : t346.size + 1 ≤ 9223372036854775807
   case neg =>
    rw [if_neg c24] at H
    exact absurd H (by simp)
   rw [if_pos c24] at H
   have c24b0 := eq_true c24
   have c24b1 : decide (t346.size + 1 ≤ 9223372036854775807) = true := decide_eq_true c24
   try have c24b2 : (9223372036854775807 < t346.size + 1) = False := eq_false (Nat.not_lt.2 c24)
   replace H := Option.bind_eq_some_iff.mp H
   obtain ⟨t347, A250, H⟩ := H
   replace H : (if (t346 ++ (⟨#[60]⟩ : ByteArray)).size + t347.size ≤ 9223372036854775807 then (if ((t346 ++ (⟨#[60]⟩ : ByteArray)) ++ t347).size + 1 ≤ 9223372036854775807 then ((spec_Digits.f kj7 a0_2).bind fun t348 => (if (((t346 ++ (⟨#[60]⟩ : ByteArray)) ++ t347) ++ (⟨#[58]⟩ : ByteArray)).size + t348.size ≤ 9223372036854775807 then (if ((((t346 ++ (⟨#[60]⟩ : ByteArray)) ++ t347) ++ (⟨#[58]⟩ : ByteArray)) ++ t348).size + 1 ≤ 9223372036854775807 then ((spec_Digits.f kj7 a0_3).bind fun t349 => (if (((((t346 ++ (⟨#[60]⟩ : ByteArray)) ++ t347) ++ (⟨#[58]⟩ : ByteArray)) ++ t348) ++ (⟨#[44]⟩ : ByteArray)).size + t349.size ≤ 9223372036854775807 then (some ((((((t346 ++ (⟨#[60]⟩ : ByteArray)) ++ t347) ++ (⟨#[58]⟩ : ByteArray)) ++ t348) ++ (⟨#[44]⟩ : ByteArray)) ++ t349)) else (none))) else (none)) else (none))) else (none)) else (none)) = some r := H
   have A25 := Aside0.mk A250
   clear A250
   by_cases c26 : (t346 ++ (⟨#[60]⟩ : ByteArray)).size + t347.size ≤ 9223372036854775807
   case neg =>
    rw [if_neg c26] at H
    exact absurd H (by simp)
   rw [if_pos c26] at H
   have c26b0 := eq_true c26
   have c26b1 : decide ((t346 ++ (⟨#[60]⟩ : ByteArray)).size + t347.size ≤ 9223372036854775807) = true := decide_eq_true c26
   try have c26b2 : (9223372036854775807 < (t346 ++ (⟨#[60]⟩ : ByteArray)).size + t347.size) = False := eq_false (Nat.not_lt.2 c26)
   (try (have c26n := c26; simp only [ByteArray.size_append, show (⟨#[60]⟩ : ByteArray).size = 1 from rfl] at c26n; have c26m := eq_false (Nat.not_lt.2 c26n)))
   by_cases c27 : ((t346 ++ (⟨#[60]⟩ : ByteArray)) ++ t347).size + 1 ≤ 9223372036854775807
   case neg =>
    rw [if_neg c27] at H
    exact absurd H (by simp)
   rw [if_pos c27] at H
   have c27b0 := eq_true c27
   have c27b1 : decide (((t346 ++ (⟨#[60]⟩ : ByteArray)) ++ t347).size + 1 ≤ 9223372036854775807) = true := decide_eq_true c27
   try have c27b2 : (9223372036854775807 < ((t346 ++ (⟨#[60]⟩ : ByteArray)) ++ t347).size + 1) = False := eq_false (Nat.not_lt.2 c27)
   (try (have c27n := c27; simp only [ByteArray.size_append, show (⟨#[60]⟩ : ByteArray).size = 1 from rfl] at c27n; have c27m := eq_false (Nat.not_lt.2 c27n)))
   replace H := Option.bind_eq_some_iff.mp H
   obtain ⟨t348, A280, H⟩ := H
   replace H : (if (((t346 ++ (⟨#[60]⟩ : ByteArray)) ++ t347) ++ (⟨#[58]⟩ : ByteArray)).size + t348.size ≤ 9223372036854775807 then (if ((((t346 ++ (⟨#[60]⟩ : ByteArray)) ++ t347) ++ (⟨#[58]⟩ : ByteArray)) ++ t348).size + 1 ≤ 9223372036854775807 then ((spec_Digits.f kj7 a0_3).bind fun t349 => (if (((((t346 ++ (⟨#[60]⟩ : ByteArray)) ++ t347) ++ (⟨#[58]⟩ : ByteArray)) ++ t348) ++ (⟨#[44]⟩ : ByteArray)).size + t349.size ≤ 9223372036854775807 then (some ((((((t346 ++ (⟨#[60]⟩ : ByteArray)) ++ t347) ++ (⟨#[58]⟩ : ByteArray)) ++ t348) ++ (⟨#[44]⟩ : ByteArray)) ++ t349)) else (none))) else (none)) else (none)) = some r := H
   have A28 := Aside0.mk A280
   clear A280
   by_cases c29 : (((t346 ++ (⟨#[60]⟩ : ByteArray)) ++ t347) ++ (⟨#[58]⟩ : ByteArray)).size + t348.size ≤ 9223372036854775807
   case neg =>
    rw [if_neg c29] at H
    exact absurd H (by simp)
   rw [if_pos c29] at H
   have c29b0 := eq_true c29
   have c29b1 : decide ((((t346 ++ (⟨#[60]⟩ : ByteArray)) ++ t347) ++ (⟨#[58]⟩ : ByteArray)).size + t348.size ≤ 9223372036854775807) = true := decide_eq_true c29
   try have c29b2 : (9223372036854775807 < (((t346 ++ (⟨#[60]⟩ : ByteArray)) ++ t347) ++ (⟨#[58]⟩ : ByteArray)).size + t348.size) = False := eq_false (Nat.not_lt.2 c29)
   (try (have c29n := c29; simp only [ByteArray.size_append, show (⟨#[58]⟩ : ByteArray).size = 1 from rfl, show (⟨#[60]⟩ : ByteArray).size = 1 from rfl] at c29n; have c29m := eq_false (Nat.not_lt.2 c29n)))
   by_cases c30 : ((((t346 ++ (⟨#[60]⟩ : ByteArray)) ++ t347) ++ (⟨#[58]⟩ : ByteArray)) ++ t348).size + 1 ≤ 9223372036854775807
   case neg =>
    rw [if_neg c30] at H
    exact absurd H (by simp)
   rw [if_pos c30] at H
   have c30b0 := eq_true c30
   have c30b1 : decide (((((t346 ++ (⟨#[60]⟩ : ByteArray)) ++ t347) ++ (⟨#[58]⟩ : ByteArray)) ++ t348).size + 1 ≤ 9223372036854775807) = true := decide_eq_true c30
   try have c30b2 : (9223372036854775807 < ((((t346 ++ (⟨#[60]⟩ : ByteArray)) ++ t347) ++ (⟨#[58]⟩ : ByteArray)) ++ t348).size + 1) = False := eq_false (Nat.not_lt.2 c30)
   (try (have c30n := c30; simp only [ByteArray.size_append, show (⟨#[58]⟩ : ByteArray).size = 1 from rfl, show (⟨#[60]⟩ : ByteArray).size = 1 from rfl] at c30n; have c30m := eq_false (Nat.not_lt.2 c30n)))
   replace H := Option.bind_eq_some_iff.mp H
   obtain ⟨t349, A310, H⟩ := H
   replace H : (if (((((t346 ++ (⟨#[60]⟩ : ByteArray)) ++ t347) ++ (⟨#[58]⟩ : ByteArray)) ++ t348) ++ (⟨#[44]⟩ : ByteArray)).size + t349.size ≤ 9223372036854775807 then (some ((((((t346 ++ (⟨#[60]⟩ : ByteArray)) ++ t347) ++ (⟨#[58]⟩ : ByteArray)) ++ t348) ++ (⟨#[44]⟩ : ByteArray)) ++ t349)) else (none)) = some r := H
   have A31 := Aside0.mk A310
   clear A310
   by_cases c32 : (((((t346 ++ (⟨#[60]⟩ : ByteArray)) ++ t347) ++ (⟨#[58]⟩ : ByteArray)) ++ t348) ++ (⟨#[44]⟩ : ByteArray)).size + t349.size ≤ 9223372036854775807
   case neg =>
    rw [if_neg c32] at H
    exact absurd H (by simp)
   rw [if_pos c32] at H
   have c32b0 := eq_true c32
   have c32b1 : decide ((((((t346 ++ (⟨#[60]⟩ : ByteArray)) ++ t347) ++ (⟨#[58]⟩ : ByteArray)) ++ t348) ++ (⟨#[44]⟩ : ByteArray)).size + t349.size ≤ 9223372036854775807) = true := decide_eq_true c32
   try have c32b2 : (9223372036854775807 < (((((t346 ++ (⟨#[60]⟩ : ByteArray)) ++ t347) ++ (⟨#[58]⟩ : ByteArray)) ++ t348) ++ (⟨#[44]⟩ : ByteArray)).size + t349.size) = False := eq_false (Nat.not_lt.2 c32)
   (try (have c32n := c32; simp only [ByteArray.size_append, show (⟨#[44]⟩ : ByteArray).size = 1 from rfl, show (⟨#[58]⟩ : ByteArray).size = 1 from rfl, show (⟨#[60]⟩ : ByteArray).size = 1 from rfl] at c32n; have c32m := eq_false (Nat.not_lt.2 c32n)))
   obtain rfl := Option.some.inj H
   try go_wp2
   have n_ := spec_NodeText.K2_ (blk_drew BK339.out) (below_drew1 HB.out)
   clear BK339 HB
   obtain ⟨BK339, HB⟩ := n_
   refine start_ (n := 19) (S := fun w' => w'.cell? ⟨gb339, 0, none⟩ = some (.int .i64 a0_0) ∧ w'.cell? ⟨gb339, 1, none⟩ = some (.int .i64 a0_1) ∧ w'.cell? ⟨gb339, 2, none⟩ = some (.int .i64 a0_2) ∧ w'.cell? ⟨gb339, 3, none⟩ = some (.int .i64 a0_3) ∧ w'.cell? ⟨gb339, 4, none⟩ = some (.int .i64 a0_4)) (ds := []) #[false, false, false, false, false, false, false, false, false, false, false, false, false, false, false, false, false, false, false] (by kernel_rfl) rfl rfl ⟨(blk_cell BK339.out 0).trans rfl, (blk_cell BK339.out 1).trans rfl, (blk_cell BK339.out 2).trans rfl, (blk_cell BK339.out 3).trans rfl, (blk_cell BK339.out 4).trans rfl⟩ (fun hHeld => ?_); refine with_tabW spec_NodeText.tab7 spec_NodeText.bits7 (fun HT_ HW_ => ?_)
   generalize wc.drew = w33 at BK339 HB hHeld ⊢
   refine pure_ (i := 0) (N := some 42) (v := ?_) (a' := ?_) #[true, false, false, false, false, false, false, false, false, false, false, false, false, false, false, false, false, false, false] rfl rfl (any_of HT_.out (by kernel_rfl)) (fun _ _ _ h => h) (Or.inl ⟨by rfl, ?_⟩) ?_ ?_
   rotate_left
   ·intro w'
    go_simp
    with_reducible rfl
   rotate_left
   ·simp only [Act.put, List.setIfInBounds_toArray, List.set_cons_zero, List.set_cons_succ, i64_w, i32_w]
    rfl
   refine pure_ (i := 4) (N := some 46) (v := ?_) (a' := ?_) #[true, false, false, false, true, false, false, false, false, false, false, false, false, false, false, false, false, false, false] rfl rfl (any_of HT_.out (by kernel_rfl)) (fun _ _ _ h => h) (Or.inl ⟨by rfl, ?_⟩) ?_ ?_
   rotate_left
   ·intro w'
    go_simp
    with_reducible rfl
   rotate_left
   ·simp only [Act.put, List.setIfInBounds_toArray, List.set_cons_zero, List.set_cons_succ, i64_w, i32_w]
    rfl
   refine pure_ (i := 9) (N := some 51) (v := ?_) (a' := ?_) #[true, false, false, false, true, false, false, false, false, true, false, false, false, false, false, false, false, false, false] rfl rfl (any_of HT_.out (by kernel_rfl)) (fun _ _ _ h => h) (Or.inl ⟨by rfl, ?_⟩) ?_ ?_
   rotate_left
   ·intro w'
    go_simp
    with_reducible rfl
   rotate_left
   ·simp only [Act.put, List.setIfInBounds_toArray, List.set_cons_zero, List.set_cons_succ, i64_w, i32_w]
    rfl
   refine pure_ (i := 14) (N := some 56) (v := ?_) (a' := ?_) #[true, false, false, false, true, false, false, false, false, true, false, false, false, false, true, false, false, false, false] rfl rfl (any_of HT_.out (by kernel_rfl)) (fun _ _ _ h => h) (Or.inl ⟨by rfl, ?_⟩) ?_ ?_
   rotate_left
   ·intro w'
    go_simp
    with_reducible rfl
   rotate_left
   ·simp only [Act.put, List.setIfInBounds_toArray, List.set_cons_zero, List.set_cons_succ, i64_w, i32_w]
    rfl
   refine take_ (i := 1) (N := some 43) (v := ?_) (a' := ?_) #[true, true, false, false, true, false, false, false, false, true, false, false, false, false, true, false, false, false, false] rfl rfl (take_ofW HT_.out HW_.out (by kernel_rfl)) (fun _ _ _ h => h) (Or.inl ⟨by rfl, ?_⟩) hHeld ?_ ?_
   rotate_left
   ·rintro w' ⟨s0, s1, s2, s3, s4⟩
    go_simp
    with_reducible rfl
   rotate_left
   ·simp only [Act.put, List.setIfInBounds_toArray, List.set_cons_zero, List.set_cons_succ, i64_w, i32_w]
    rfl
   refine take_ (i := 5) (N := some 47) (v := ?_) (a' := ?_) #[true, true, false, false, true, true, false, false, false, true, false, false, false, false, true, false, false, false, false] rfl rfl (take_ofW HT_.out HW_.out (by kernel_rfl)) (fun _ _ _ h => h) (Or.inl ⟨by rfl, ?_⟩) hHeld ?_ ?_
   rotate_left
   ·rintro w' ⟨s0, s1, s2, s3, s4⟩
    go_simp
    with_reducible rfl
   rotate_left
   ·simp only [Act.put, List.setIfInBounds_toArray, List.set_cons_zero, List.set_cons_succ, i64_w, i32_w]
    rfl
   refine take_ (i := 10) (N := some 52) (v := ?_) (a' := ?_) #[true, true, false, false, true, true, false, false, false, true, true, false, false, false, true, false, false, false, false] rfl rfl (take_ofW HT_.out HW_.out (by kernel_rfl)) (fun _ _ _ h => h) (Or.inl ⟨by rfl, ?_⟩) hHeld ?_ ?_
   rotate_left
   ·rintro w' ⟨s0, s1, s2, s3, s4⟩
    go_simp
    with_reducible rfl
   rotate_left
   ·simp only [Act.put, List.setIfInBounds_toArray, List.set_cons_zero, List.set_cons_succ, i64_w, i32_w]
    rfl
   refine take_ (i := 15) (N := some 57) (v := ?_) (a' := ?_) #[true, true, false, false, true, true, false, false, false, true, true, false, false, false, true, true, false, false, false] rfl rfl (take_ofW HT_.out HW_.out (by kernel_rfl)) (fun _ _ _ h => h) (Or.inl ⟨by rfl, ?_⟩) hHeld ?_ ?_
   rotate_left
   ·rintro w' ⟨s0, s1, s2, s3, s4⟩
    go_simp
    with_reducible rfl
   rotate_left
   ·simp only [Act.put, List.setIfInBounds_toArray, List.set_cons_zero, List.set_cons_succ, i64_w, i32_w]
    rfl
   refine one_ (i := 2) (N := some 44) #[true, true, true, false, true, true, false, false, false, true, true, false, false, false, true, true, false, false, false] rfl rfl (one_of HT_.out (by kernel_rfl)) (by decide) (fun K hK => ?_)
   refine goes_ Tryd.func50 (by kernel_rfl) rfl #[.int .i64 a0_0] (by rfl) rfl rfl (by (try simp only [List.map_toArray, List.map_cons, List.map_nil]); first | done | rfl | (simp only [List.length_drop, List.length_take]; rfl)) ?_
   with_reducible refine (spec_Digits.calls kj7 a0_0 t346 _ A23.out).mono ?_
   rintro e w34 ⟨rfl, hb⟩
   refine ⟨_, rfl, ?_⟩
   have n_ := spec_NodeText.K2_ (blk_below (g := gb339) (o := .cells #[.int .i64 a0_0, .int .i64 a0_1, .int .i64 a0_2, .int .i64 a0_3, .int .i64 a0_4] 23 (0, 0)) (by (with_reducible repeat (first | refine blk_drewN ?_ _ | refine blk_drew ?_ | refine blk_alloc ?_ _)); exact BK339.out) hb) (below_step (by repeat (first | (with_reducible first | exact HB.out | apply below_alloc | apply pw_below_drewN | apply below_drew1 | refine below_set ?_ GE339.out) | exact HB.out)) hb)
   clear BK339 HB
   obtain ⟨BK339, HB⟩ := n_
   (try clear hb)
   (try clear hb2)
   (try clear hk)
   (try clear hi)
   refine hK.out _ _ ⟨(blk_cell BK339.out 0).trans rfl, (blk_cell BK339.out 1).trans rfl, (blk_cell BK339.out 2).trans rfl, (blk_cell BK339.out 3).trans rfl, (blk_cell BK339.out 4).trans rfl⟩ (fun hHeld => ?_)
   clear hK K
   refine norm_ (a' := ?_) ?_ ?_
   rotate_left
   ·show Act.put _ (some 44) _ = _
    simp only [Act.put, List.setIfInBounds_toArray, List.set_cons_zero, List.set_cons_succ, i64_w, i32_w]
    rfl
   refine pure_ (i := 3) (N := some 45) (v := ?_) (a' := ?_) #[true, true, true, true, true, true, false, false, false, true, true, false, false, false, true, true, false, false, false] rfl rfl (any_of HT_.out (by kernel_rfl)) (fun _ _ _ h => h) (Or.inl ⟨by rfl, ?_⟩) ?_ ?_
   rotate_left
   ·intro w'
    go_simp
    with_reducible rfl
   rotate_left
   ·simp only [Act.put, List.setIfInBounds_toArray, List.set_cons_zero, List.set_cons_succ, i64_w, i32_w]
    rfl
   refine one_ (i := 6) (N := some 48) #[true, true, true, true, true, true, true, false, false, true, true, false, false, false, true, true, false, false, false] rfl rfl (one_of HT_.out (by kernel_rfl)) (by decide) (fun K hK => ?_)
   refine goes_ Tryd.func50 (by kernel_rfl) rfl #[.int .i64 a0_1] (by rfl) rfl rfl (by (try simp only [List.map_toArray, List.map_cons, List.map_nil]); first | done | rfl | (simp only [List.length_drop, List.length_take]; rfl)) ?_
   with_reducible refine (spec_Digits.calls kj7 a0_1 t347 _ A25.out).mono ?_
   rintro e w35 ⟨rfl, hb⟩
   refine ⟨_, rfl, ?_⟩
   have n_ := spec_NodeText.K2_ (blk_below (g := gb339) (o := .cells #[.int .i64 a0_0, .int .i64 a0_1, .int .i64 a0_2, .int .i64 a0_3, .int .i64 a0_4] 23 (0, 0)) (by (with_reducible repeat (first | refine blk_drewN ?_ _ | refine blk_drew ?_ | refine blk_alloc ?_ _)); exact BK339.out) hb) (below_step (by repeat (first | (with_reducible first | exact HB.out | apply below_alloc | apply pw_below_drewN | apply below_drew1 | refine below_set ?_ GE339.out) | exact HB.out)) hb)
   clear BK339 HB
   obtain ⟨BK339, HB⟩ := n_
   (try clear hb)
   (try clear hb2)
   (try clear hk)
   (try clear hi)
   refine hK.out _ _ ⟨(blk_cell BK339.out 0).trans rfl, (blk_cell BK339.out 1).trans rfl, (blk_cell BK339.out 2).trans rfl, (blk_cell BK339.out 3).trans rfl, (blk_cell BK339.out 4).trans rfl⟩ (fun hHeld => ?_)
   clear hK K
   refine norm_ (a' := ?_) ?_ ?_
   rotate_left
   ·show Act.put _ (some 48) _ = _
    simp only [Act.put, List.setIfInBounds_toArray, List.set_cons_zero, List.set_cons_succ, i64_w, i32_w]
    rfl
   refine pure_ (i := 7) (N := some 49) (v := ?_) (a' := ?_) #[true, true, true, true, true, true, true, true, false, true, true, false, false, false, true, true, false, false, false] rfl rfl (any_of HT_.out (by kernel_rfl)) (fun _ _ _ h => h) (Or.inl ⟨by rfl, ?_⟩) ?_ ?_
   rotate_left
   ·intro w'
    go_simp
    with_reducible rfl
   rotate_left
   ·simp only [Act.put, List.setIfInBounds_toArray, List.set_cons_zero, List.set_cons_succ, i64_w, i32_w]
    rfl
   refine pure_ (i := 8) (N := some 50) (v := ?_) (a' := ?_) #[true, true, true, true, true, true, true, true, true, true, true, false, false, false, true, true, false, false, false] rfl rfl (any_of HT_.out (by kernel_rfl)) (fun _ _ _ h => h) (Or.inl ⟨by rfl, ?_⟩) ?_ ?_
   rotate_left
   ·intro w'
    go_simp
    with_reducible rfl
   rotate_left
   ·simp only [Act.put, List.setIfInBounds_toArray, List.set_cons_zero, List.set_cons_succ, i64_w, i32_w]
    rfl
   refine one_ (i := 11) (N := some 53) #[true, true, true, true, true, true, true, true, true, true, true, true, false, false, true, true, false, false, false] rfl rfl (one_of HT_.out (by kernel_rfl)) (by decide) (fun K hK => ?_)
   refine goes_ Tryd.func50 (by kernel_rfl) rfl #[.int .i64 a0_2] (by rfl) rfl rfl (by (try simp only [List.map_toArray, List.map_cons, List.map_nil]); first | done | rfl | (simp only [List.length_drop, List.length_take]; rfl)) ?_
   with_reducible refine (spec_Digits.calls kj7 a0_2 t348 _ A28.out).mono ?_
   rintro e w36 ⟨rfl, hb⟩
   refine ⟨_, rfl, ?_⟩
   have n_ := spec_NodeText.K2_ (blk_below (g := gb339) (o := .cells #[.int .i64 a0_0, .int .i64 a0_1, .int .i64 a0_2, .int .i64 a0_3, .int .i64 a0_4] 23 (0, 0)) (by (with_reducible repeat (first | refine blk_drewN ?_ _ | refine blk_drew ?_ | refine blk_alloc ?_ _)); exact BK339.out) hb) (below_step (by repeat (first | (with_reducible first | exact HB.out | apply below_alloc | apply pw_below_drewN | apply below_drew1 | refine below_set ?_ GE339.out) | exact HB.out)) hb)
   clear BK339 HB
   obtain ⟨BK339, HB⟩ := n_
   (try clear hb)
   (try clear hb2)
   (try clear hk)
   (try clear hi)
   refine hK.out _ _ ⟨(blk_cell BK339.out 0).trans rfl, (blk_cell BK339.out 1).trans rfl, (blk_cell BK339.out 2).trans rfl, (blk_cell BK339.out 3).trans rfl, (blk_cell BK339.out 4).trans rfl⟩ (fun hHeld => ?_)
   clear hK K
   refine norm_ (a' := ?_) ?_ ?_
   rotate_left
   ·show Act.put _ (some 53) _ = _
    simp only [Act.put, List.setIfInBounds_toArray, List.set_cons_zero, List.set_cons_succ, i64_w, i32_w]
    rfl
   refine pure_ (i := 12) (N := some 54) (v := ?_) (a' := ?_) #[true, true, true, true, true, true, true, true, true, true, true, true, true, false, true, true, false, false, false] rfl rfl (any_of HT_.out (by kernel_rfl)) (fun _ _ _ h => h) (Or.inl ⟨by rfl, ?_⟩) ?_ ?_
   rotate_left
   ·intro w'
    go_simp
    with_reducible rfl
   rotate_left
   ·simp only [Act.put, List.setIfInBounds_toArray, List.set_cons_zero, List.set_cons_succ, i64_w, i32_w]
    rfl
   refine pure_ (i := 13) (N := some 55) (v := ?_) (a' := ?_) #[true, true, true, true, true, true, true, true, true, true, true, true, true, true, true, true, false, false, false] rfl rfl (any_of HT_.out (by kernel_rfl)) (fun _ _ _ h => h) (Or.inl ⟨by rfl, ?_⟩) ?_ ?_
   rotate_left
   ·intro w'
    go_simp
    with_reducible rfl
   rotate_left
   ·simp only [Act.put, List.setIfInBounds_toArray, List.set_cons_zero, List.set_cons_succ, i64_w, i32_w]
    rfl
   refine one_ (i := 16) (N := some 58) #[true, true, true, true, true, true, true, true, true, true, true, true, true, true, true, true, true, false, false] rfl rfl (one_of HT_.out (by kernel_rfl)) (by decide) (fun K hK => ?_)
   refine goes_ Tryd.func50 (by kernel_rfl) rfl #[.int .i64 a0_3] (by rfl) rfl rfl (by (try simp only [List.map_toArray, List.map_cons, List.map_nil]); first | done | rfl | (simp only [List.length_drop, List.length_take]; rfl)) ?_
   with_reducible refine (spec_Digits.calls kj7 a0_3 t349 _ A31.out).mono ?_
   rintro e w37 ⟨rfl, hb⟩
   refine ⟨_, rfl, ?_⟩
   have n_ := spec_NodeText.K2_ (blk_below (g := gb339) (o := .cells #[.int .i64 a0_0, .int .i64 a0_1, .int .i64 a0_2, .int .i64 a0_3, .int .i64 a0_4] 23 (0, 0)) (by (with_reducible repeat (first | refine blk_drewN ?_ _ | refine blk_drew ?_ | refine blk_alloc ?_ _)); exact BK339.out) hb) (below_step (by repeat (first | (with_reducible first | exact HB.out | apply below_alloc | apply pw_below_drewN | apply below_drew1 | refine below_set ?_ GE339.out) | exact HB.out)) hb)
   clear BK339 HB
   obtain ⟨BK339, HB⟩ := n_
   (try clear hb)
   (try clear hb2)
   (try clear hk)
   (try clear hi)
   refine hK.out _ _ ⟨(blk_cell BK339.out 0).trans rfl, (blk_cell BK339.out 1).trans rfl, (blk_cell BK339.out 2).trans rfl, (blk_cell BK339.out 3).trans rfl, (blk_cell BK339.out 4).trans rfl⟩ (fun hHeld => ?_)
   clear hK K
   refine norm_ (a' := ?_) ?_ ?_
   rotate_left
   ·show Act.put _ (some 58) _ = _
    simp only [Act.put, List.setIfInBounds_toArray, List.set_cons_zero, List.set_cons_succ, i64_w, i32_w]
    rfl
   refine pure_ (i := 17) (N := some 59) (v := ?_) (a' := ?_) #[true, true, true, true, true, true, true, true, true, true, true, true, true, true, true, true, true, true, false] rfl rfl (any_of HT_.out (by kernel_rfl)) (fun _ _ _ h => h) (Or.inl ⟨by rfl, ?_⟩) ?_ ?_
   rotate_left
   ·intro w'
    go_simp
    with_reducible rfl
   rotate_left
   ·simp only [Act.put, List.setIfInBounds_toArray, List.set_cons_zero, List.set_cons_succ, i64_w, i32_w]
    rfl
   refine pure_ (i := 18) (N := some 2) (v := ?_) (a' := ?_) #[true, true, true, true, true, true, true, true, true, true, true, true, true, true, true, true, true, true, true] rfl rfl (any_of HT_.out (by kernel_rfl)) (fun _ _ _ h => h) (Or.inl ⟨by rfl, ?_⟩) ?_ ?_
   rotate_left
   ·intro w'
    go_simp
    with_reducible rfl
   rotate_left
   ·simp only [Act.put, List.setIfInBounds_toArray, List.set_cons_zero, List.set_cons_succ, i64_w, i32_w]
    rfl
   refine done_ (done_of HT_.out (by kernel_rfl)) ?_
   try go_wp2
   go_ret
   exact ⟨by first | rfl | (simp [errW_none, errW_some] <;> rfl) | (simp [*, errW_none, errW_some] <;> rfl), by repeat (first | (with_reducible first | exact HB.out | apply below_alloc | apply pw_below_drewN | apply below_drew1 | refine below_set ?_ GE339.out) | exact HB.out)⟩
def strings_CutPrefix.f (a0 a1 : ByteArray) : Option (ByteArray × Bool) := some (⟨(Lib.trimPrefix a0.data.toList a1.data.toList).toArray⟩, Lib.hasPrefix a0.data.toList a1.data.toList)
theorem strings_CutPrefix.calls (a0 a1 : ByteArray) (r1 : ByteArray) (r2 : Bool) (w : World) (h : strings_CutPrefix.f a0 a1 = some (r1, r2)) :
    Calls Tryd.prog 43 #[.string a0, .string a1] w fun e w' => e = .returned (.tuple #[.string r1, .bool r2]) ∧ Below w.heap.size w w' := by
 unfold strings_CutPrefix.f at h
 simp only [Option.some.injEq, Prod.mk.injEq] at h
 obtain ⟨rfl, rfl⟩ := h
 refine (Tryd.strings_CutPrefix a0 a1 w).mono ?_
 rintro e w' ⟨rfl, rfl⟩
 exact ⟨rfl, Below.refl _ _⟩
theorem atoi_good (a0 : ByteArray) (v : Int) (w : World) (hs : a0.size ≤ 281474976710656) (h : Lib.atoiAll a0.data.toList = .ok v) :
    Calls Tryd.prog 87 #[.string a0] w fun e w' => e = .returned (.tuple #[.int .i64 v, .nilIface]) ∧ Below w.heap.size w w' := by
 refine (Tryd.strconv_Atoi_ok a0 (Nat.le_trans hs (by decide)) v h w).mono ?_
 rintro e w' ⟨rfl, rfl | ⟨t, rfl⟩⟩
 ·exact ⟨rfl, Below.refl _ _⟩
 ·exact ⟨rfl, Lib.below_freeze (below_alloc (below_drew (Below.refl _ w)) _) (Nat.le_refl _) _⟩
theorem atoi_bad (a0 : ByteArray) (w : World) (hT : TabW w) (hs : a0.size ≤ 281474976710656) (h : ∀ v, Lib.atoiAll a0.data.toList ≠ .ok v) :
    Calls Tryd.prog 87 #[.string a0] w fun e w' => ∃ (v : Int) (N : Nat), e = .returned (.tuple #[.int .i64 v, .iface 156 (.pointer (some ⟨N, 0, none⟩))]) ∧ Below w.heap.size w w' := by
 cases hc : Lib.atoiAll a0.data.toList with
 | ok v => exact absurd hc (h v)
 | range =>
  obtain ⟨te, pe, he⟩ := tabW_rng hT
  refine (Tryd.strconv_Atoi_range a0 hs hc (.iface te pe) w he (Or.inr ⟨te, pe, rfl⟩)).mono ?_
  rintro e w' ⟨N, rfl, _, _, hb⟩
  exact ⟨_, N, rfl, hb⟩
 | _ =>
  obtain ⟨te, pe, he⟩ := tabW_syn hT
  refine (Tryd.strconv_Atoi_syntax a0 hs hc (.iface te pe) w he (Or.inr ⟨te, pe, rfl⟩)).mono ?_
  rintro e w' ⟨N, rfl, _, _, hb⟩
  exact ⟨_, N, rfl, hb⟩
def impl_IntText.f (a0 : ByteArray) : Option (Int × Bool) :=
  if a0.size ≤ 281474976710656 then
    (match Lib.atoiAll a0.data.toList with
     | .ok v => (impl_Digits.f v).bind fun t => if t.toList = a0.toList then some (v, true) else some (0, false)
     | _ => some (0, false))
  else none
set_option maxHeartbeats 8000000 in
set_option maxRecDepth 100000 in
theorem impl_IntText.calls (a0 : ByteArray) (r1 : Int) (r2 : Bool) (w : World) (hT : TabW w) (h : impl_IntText.f a0 = some (r1, r2)) :
    Calls Tryd.prog 44 #[.string a0] w fun e w' => e = .returned (.tuple #[.int .i64 r1, .bool r2]) ∧ Below w.heap.size w w' := by
 have HB := Aside0.mk (Below.refl w.heap.size w)
 have HT := Aside0.mk hT
 clear hT
 unfold impl_IntText.f at h
 by_cases hs : a0.size ≤ 281474976710656
 case neg =>
  rw [if_neg hs] at h
  cases h
 rw [if_pos hs] at h
 by_cases hg : ∃ v, Lib.atoiAll a0.data.toList = .ok v
 case neg =>
  have hb0 : ∀ v, Lib.atoiAll a0.data.toList ≠ .ok v := fun v hv => hg ⟨v, hv⟩
  replace h : some ((0 : Int), false) = some (r1, r2) := by
   cases hc : Lib.atoiAll a0.data.toList with
   | ok v => exact absurd hc (hb0 v)
   | range => rw [hc] at h; exact h
   | _ => rw [hc] at h; exact h
  simp only [Option.some.injEq, Prod.mk.injEq] at h
  obtain ⟨rfl, rfl⟩ := h
  go_enter Tryd.func44, Tryd.ntmps44
  go_wp2_with (first | (go_at_call 87; (with_reducible refine (atoi_bad a0 _ ?side1 hs hb0).mono ?_); (case side1 => exact tab_below HT.out (by repeat (first | (with_reducible first | exact HB.out | apply below_alloc | apply pw_below_drewN | apply below_drew1) | exact HB.out))); rintro e w3 ⟨v, N, rfl, hb⟩; replace HB := Aside0.mk (below_step (by repeat (first | (with_reducible first | exact HB.out | apply below_alloc | apply pw_below_drewN | apply below_drew1) | exact HB.out)) hb); (try clear hb)))
  go_ret2
  exact ⟨by first | rfl | (simp [errW_none, errW_some] <;> rfl) | (simp [*, errW_none, errW_some] <;> rfl), by repeat (first | (with_reducible first | exact HB.out | apply below_alloc | apply pw_below_drewN | apply below_drew1) | exact HB.out)⟩
 obtain ⟨v, hv⟩ := hg
 rw [hv] at h
 replace h : ((impl_Digits.f v).bind fun t => if t.toList = a0.toList then some (v, true) else some (0, false)) = some (r1, r2) := h
 replace h := Option.bind_eq_some_iff.mp h
 obtain ⟨t, A20, h⟩ := h
 have A2 := Aside0.mk A20
 clear A20
 by_cases c1 : t.toList = a0.toList
 case neg =>
  rw [if_neg c1] at h
  simp only [Option.some.injEq, Prod.mk.injEq] at h
  obtain ⟨rfl, rfl⟩ := h
  have c1b0 : (t.toList == a0.toList) = false := beq_eq_false_iff_ne.mpr c1
  have c1b1 : (t.toList != a0.toList) = true := bne_iff_ne.mpr c1
  go_enter Tryd.func44, Tryd.ntmps44
  go_wp2_with (first | (go_at_call 87; (with_reducible refine (atoi_good a0 v _ hs hv).mono ?_); rintro e w3 ⟨rfl, hb⟩; replace HB := Aside0.mk (below_step (by repeat (first | (with_reducible first | exact HB.out | apply below_alloc | apply pw_below_drewN | apply below_drew1) | exact HB.out)) hb); (try clear hb)) | (go_at_call 56; (with_reducible refine (impl_Digits.calls v t _ ?side1 A2.out).mono ?_); (case side1 => exact tab_below HT.out (by repeat (first | (with_reducible first | exact HB.out | apply below_alloc | apply pw_below_drewN | apply below_drew1) | exact HB.out))); rintro e w4 ⟨rfl, hb⟩; replace HB := Aside0.mk (below_step (by repeat (first | (with_reducible first | exact HB.out | apply below_alloc | apply pw_below_drewN | apply below_drew1) | exact HB.out)) hb); (try clear hb)))
  go_ret2
  exact ⟨by first | rfl | (simp [errW_none, errW_some] <;> rfl) | (simp [*, errW_none, errW_some] <;> rfl), by repeat (first | (with_reducible first | exact HB.out | apply below_alloc | apply pw_below_drewN | apply below_drew1) | exact HB.out)⟩
 rw [if_pos c1] at h
 simp only [Option.some.injEq, Prod.mk.injEq] at h
 obtain ⟨rfl, rfl⟩ := h
 have c1b0 : (t.toList == a0.toList) = true := beq_iff_eq.mpr c1
 have c1b1 : (t.toList != a0.toList) = false := bne_eq_false_iff_eq.mpr c1
 go_enter Tryd.func44, Tryd.ntmps44
 go_wp2_with (first | (go_at_call 87; (with_reducible refine (atoi_good a0 v _ hs hv).mono ?_); rintro e w3 ⟨rfl, hb⟩; replace HB := Aside0.mk (below_step (by repeat (first | (with_reducible first | exact HB.out | apply below_alloc | apply pw_below_drewN | apply below_drew1) | exact HB.out)) hb); (try clear hb)) | (go_at_call 56; (with_reducible refine (impl_Digits.calls v t _ ?side1 A2.out).mono ?_); (case side1 => exact tab_below HT.out (by repeat (first | (with_reducible first | exact HB.out | apply below_alloc | apply pw_below_drewN | apply below_drew1) | exact HB.out))); rintro e w4 ⟨rfl, hb⟩; replace HB := Aside0.mk (below_step (by repeat (first | (with_reducible first | exact HB.out | apply below_alloc | apply pw_below_drewN | apply below_drew1) | exact HB.out)) hb); (try clear hb)))
 go_ret2
 exact ⟨by first | rfl | (simp [errW_none, errW_some] <;> rfl) | (simp [*, errW_none, errW_some] <;> rfl), by repeat (first | (with_reducible first | exact HB.out | apply below_alloc | apply pw_below_drewN | apply below_drew1) | exact HB.out)⟩
def strings_Cut.f (a0 a1 : ByteArray) : Option (ByteArray × ByteArray × Bool) := if a0.size < 4294967281 then some (⟨(Lib.cut a0.data.toList a1.data.toList).1.toArray⟩, ⟨(Lib.cut a0.data.toList a1.data.toList).2.1.toArray⟩, (Lib.cut a0.data.toList a1.data.toList).2.2) else none
theorem strings_Cut.calls (a0 a1 : ByteArray) (r1 r2 : ByteArray) (r3 : Bool) (w : World) (hT : TabW w) (h : strings_Cut.f a0 a1 = some (r1, r2, r3)) :
    Calls Tryd.prog 45 #[.string a0, .string a1] w fun e w' => e = .returned (.tuple #[.string r1, .string r2, .bool r3]) ∧ Below w.heap.size w w' := by
 unfold strings_Cut.f at h
 by_cases hs : a0.size < 4294967281
 case neg =>
  rw [if_neg hs] at h
  cases h
 rw [if_pos hs] at h
 simp only [Option.some.injEq, Prod.mk.injEq] at h
 obtain ⟨rfl, rfl, rfl⟩ := h
 obtain ⟨m, hm⟩ := tabW_max hT
 refine (Tryd.strings_Cut a0 a1 m w hs hm).mono ?_
 rintro e w' ⟨rfl, n, rfl⟩
 exact ⟨rfl, rfl, rfl, rfl, Nat.le_refl _, fun _ _ => rfl⟩
end Go.Proofs.YtcgmdpnhlkbpbaaDoor.XFnNodeText
