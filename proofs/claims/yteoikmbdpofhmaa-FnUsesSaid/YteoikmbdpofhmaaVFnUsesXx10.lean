import Derived.Test.YteoikmbdpofhmaaVFnUsesXx0
import Derived.Test.YteoikmbdpofhmaaVFnUsesXx9
namespace Go.Proofs.Yteoikmbdpofhmaa.XFnUses
open Go.RowKit Go.Proofs.YteoikmbdpofhmaaW.PrintWords Go.Proofs.YteoikmbdpofhmaaW.PrintLast Go.Proofs.YteoikmbdpofhmaaW.PrintMore
attribute [local go_sem] max2_int min2_int max_two min_two max_three min_three max_four min_four
set_option linter.unusedVariables false
set_option linter.unusedSimpArgs false
def slices_insertionSortCmpFunc_int_fc_81_46.b0_ : Array Bool := #[false, false, false, false, false, false, false, false, false, false, false, false, false, false, false, false, false]
def slices_insertionSortCmpFunc_int_fc_81_46.b1_ : Array Bool := #[true, false, false, false, false, false, false, false, false, false, false, false, false, false, false, false, false]
def slices_insertionSortCmpFunc_int_fc_81_46.b2_ : Array Bool := #[true, true, false, false, false, false, false, false, false, false, false, false, false, false, false, false, false]
def slices_insertionSortCmpFunc_int_fc_81_46.b3_ : Array Bool := #[true, true, true, false, false, false, false, false, false, false, false, false, false, false, false, false, false]
def slices_insertionSortCmpFunc_int_fc_81_46.b4_ : Array Bool := #[true, true, true, true, false, false, false, false, false, false, false, false, false, false, false, false, false]
def slices_insertionSortCmpFunc_int_fc_81_46.b5_ : Array Bool := #[true, true, true, true, true, false, false, false, false, false, false, false, false, false, false, false, false]
def slices_insertionSortCmpFunc_int_fc_81_46.b6_ : Array Bool := #[true, true, true, true, true, true, false, false, false, false, false, false, false, false, false, false, false]
def slices_insertionSortCmpFunc_int_fc_81_46.b7_ : Array Bool := #[true, true, true, true, true, true, true, false, false, false, false, false, false, false, false, false, false]
def slices_insertionSortCmpFunc_int_fc_81_46.b8_ : Array Bool := #[true, true, true, true, true, true, true, true, false, false, false, false, false, false, false, false, false]
def slices_insertionSortCmpFunc_int_fc_81_46.b9_ : Array Bool := #[true, true, true, true, true, true, true, true, true, true, true, true, true, false, false, false, false]
def slices_insertionSortCmpFunc_int_fc_81_46.b10_ : Array Bool := #[true, true, true, true, true, true, true, true, true, true, true, true, true, true, false, false, false]
def slices_insertionSortCmpFunc_int_fc_81_46.b11_ : Array Bool := #[true, true, true, true, true, true, true, true, true, true, true, true, true, true, true, false, false]
def slices_insertionSortCmpFunc_int_fc_81_46.b12_ : Array Bool := #[true, true, true, true, true, true, true, true, true, true, true, true, true, true, true, true, false]
def slices_insertionSortCmpFunc_int_fc_81_46.b13_ : Array Bool := #[true, true, true, true, true, true, true, true, true, true, true, true, true, true, true, true, true]
theorem slices_insertionSortCmpFunc_int_fc_81_46.z0 {p : Prop} (h : p := by have h_ := Kd.R_ne HO_0.out BK90030.out (by decide); intro e_; exact h_ (by rw [e_]; rfl)) : p := h
theorem slices_insertionSortCmpFunc_int_fc_81_46.K4_ {p0 p1 p2 p3 : Prop} (h0 : p0) (h1 : p1) (h2 : p2) (h3 : p3) : Aside0 p0 ∧ Aside0 p1 ∧ Aside0 p2 ∧ Aside0 p3 := ⟨⟨h0⟩, ⟨h1⟩, ⟨h2⟩, ⟨h3⟩⟩
mutual
def slices_insertionSortCmpFunc_int_fc_81_46.l0 : Nat → List Int → Int → Int → Int → List ByteArray → List Int → Int → List (S68) → Option (List Int)
  | 0, _, _, _, _, _, _, _, _ => none
  | k + 1, x0, x1, x2, x8, x90031000, x90031001, x90031002, x90031003 => if x8 < x2 then (slices_insertionSortCmpFunc_int_fc_81_46.l1 k x0 x1 x2 x8 x8 x90031000 x90031001 x90031002 x90031003) else (some x0)
def slices_insertionSortCmpFunc_int_fc_81_46.l1 : Nat → List Int → Int → Int → Int → Int → List ByteArray → List Int → Int → List (S68) → Option (List Int)
  | 0, _, _, _, _, _, _, _, _, _ => none
  | k + 1, x0, x1, x2, x8, x9, x90031000, x90031001, x90031002, x90031003 => if x9 > x1 then (if 0 ≤ x9 then (if x9 < (x0.length : Int) then (if 0 ≤ (wrap64 (x9 - 1)) then (if (wrap64 (x9 - 1)) < (x0.length : Int) then ((impl_Ranked_1_c.f k (rd x0 x9) (rd x0 (wrap64 (x9 - 1))) x90031000 x90031001 x90031002 x90031003).bind fun t425 => (if t425 < 0 then (slices_insertionSortCmpFunc_int_fc_81_46.l1 k ((x0.set (x9 : Int).toNat (rd x0 (wrap64 (x9 - 1)))).set ((wrap64 (x9 - 1)) : Int).toNat (rd x0 x9)) x1 x2 x8 (wrap64 (x9 - 1)) x90031000 x90031001 x90031002 x90031003) else (slices_insertionSortCmpFunc_int_fc_81_46.l0 k x0 x1 x2 (wrap64 (x8 + 1)) x90031000 x90031001 x90031002 x90031003))) else (none)) else (none)) else (none)) else (none)) else (slices_insertionSortCmpFunc_int_fc_81_46.l0 k x0 x1 x2 (wrap64 (x8 + 1)) x90031000 x90031001 x90031002 x90031003)
end
def slices_insertionSortCmpFunc_int_fc_81_46.f (k : Nat) (l0 : List Int) (a1 : Int) (a2 : Int) (l3_0 : List ByteArray) (l3_1 : List Int) (a3_2 : Int) (l3_3 : List (S68)) : Option (List Int) := slices_insertionSortCmpFunc_int_fc_81_46.l0 k l0 a1 a2 (wrap64 (a1 + 1)) l3_0 l3_1 a3_2 l3_3
def slices_insertionSortCmpFunc_int_fc_81_46.T4 : Bool × List (List Nat × List Nat) := (true, [([], []), ([], []), ([0, 1], [0, 1]), ([2], [2]), ([3], [3]), ([3], [3]), ([3], [3]), ([5, 6, 3], [3, 5, 6]), ([7, 3], [3, 7]), ([3], [3]), ([3], [3]), ([10, 3], [3, 10]), ([9, 11, 3], [3, 9, 11]), ([12, 3], [3, 12]), ([4, 8, 13, 3, 3], [3, 4, 8, 13]), ([14, 3], [3, 14]), ([3, 15], [3, 15])])
def slices_insertionSortCmpFunc_int_fc_81_46.B4 : List Nat := [0, 0, 3, 7, 15, 15, 15, 111, 239, 15, 15, 1039, 3599, 7695, 16383, 32767, 65535]
theorem slices_insertionSortCmpFunc_int_fc_81_46.tab4 : rtab .any (opsOf Try.f146 4) = slices_insertionSortCmpFunc_int_fc_81_46.T4 := by kernel_rfl
theorem slices_insertionSortCmpFunc_int_fc_81_46.bits4 : waitsOk slices_insertionSortCmpFunc_int_fc_81_46.T4.2 slices_insertionSortCmpFunc_int_fc_81_46.B4 = true := by kernel_rfl
def slices_insertionSortCmpFunc_int_fc_81_46.T6 : Bool × List (List Nat × List Nat) := (true, [([], []), ([], []), ([], []), ([], []), ([3], [3]), ([], []), ([], []), ([6], [6]), ([5, 7], [5, 7]), ([8], [8]), ([], []), ([], []), ([10, 11], [10, 11]), ([12], [12]), ([0, 1, 0, 1, 5, 6, 7, 8, 9, 13], [0, 1]), ([14, 9, 0, 1, 5, 6, 7, 8, 9, 13], [9, 14]), ([2, 4, 0, 1, 2, 3, 4, 5, 6, 7, 8, 9, 10, 11, 12, 13, 14, 15], [2, 4]), ([16, 13, 15, 0, 1, 2, 3, 4, 5, 6, 7, 8, 9, 10, 11, 12, 13, 14, 15], [13, 16])])
def slices_insertionSortCmpFunc_int_fc_81_46.B6 : List Nat := [0, 0, 0, 0, 8, 0, 0, 64, 224, 480, 0, 0, 3072, 7168, 16355, 32739, 65535, 131071]
theorem slices_insertionSortCmpFunc_int_fc_81_46.tab6 : rtab .any (opsOf Try.f146 6) = slices_insertionSortCmpFunc_int_fc_81_46.T6 := by kernel_rfl
theorem slices_insertionSortCmpFunc_int_fc_81_46.bits6 : waitsOk slices_insertionSortCmpFunc_int_fc_81_46.T6.2 slices_insertionSortCmpFunc_int_fc_81_46.B6 = true := by kernel_rfl
set_option maxHeartbeats 8000000 in
set_option maxRecDepth 100000 in
theorem slices_insertionSortCmpFunc_int_fc_81_46.calls (k : Nat) (P0_ : Nat → Prop) (u9000_ : Value) (l0 : List Int) (a1 : Int) (a2 : Int) (g3_0_ : Nat) (A3_0 : Option Addr) (c3_0 : Nat) (l3_0 : List ByteArray) (A3_1 : Option Addr) (c3_1 : Nat) (l3_1 : List Int) (a3_2 : Int) (A3_3 : Option Addr) (c3_3 : Nat) (l3_3 : List (S68)) (r : List Int) (w0 w : World) (hB : Below w0.heap.size w0 w) (ho0 : Kd.R (Kd.int .i64) 3 w w0.heap.size P0_ u9000_ l0) (hk3_0 : w.heap[g3_0_]? = some (.cells #[.slice A3_0 l3_0.length c3_0, .slice A3_1 l3_1.length c3_1, .int .i64 a3_2, .slice A3_3 l3_3.length c3_3] 46 (0, 0))) (hr3_0 : ∀ W_, Kept w W_ (fun k_ => P0_ k_) → Kd.C Kd.string W_ A3_0 l3_0.length l3_0) (hc3_0 : l3_0.length ≤ c3_0) (hr3_1 : ∀ W_, Kept w W_ (fun k_ => P0_ k_) → Kd.C (Kd.int .i64) W_ A3_1 l3_1.length l3_1) (hc3_1 : l3_1.length ≤ c3_1) (hr3_3 : ∀ W_, Kept w W_ (fun k_ => P0_ k_) → Kd.C k68 W_ A3_3 l3_3.length l3_3) (hc3_3 : l3_3.length ≤ c3_3) (h : slices_insertionSortCmpFunc_int_fc_81_46.f k l0 a1 a2 l3_0 l3_1 a3_2 l3_3 = some r) :
    Calls Try.prog 146 #[u9000_, .int .i64 a1, .int .i64 a2, .func (.func 81) #[] #[.pointer (some ⟨g3_0_, 0, none⟩)]] w fun e w' => e = .returned (.tuple #[]) ∧ Kd.R (Kd.int .i64) 3 w' w0.heap.size (fun k_ => (P0_ k_ ∨ w.heap.size ≤ k_)) u9000_ r ∧ Below w0.heap.size w0 w' ∧ Kept w w' (fun k_ => P0_ k_) := by
 have HO0 := Aside0.mk (show Kd.R (Kd.int .i64) 3 w w0.heap.size (fun k_ => (P0_ k_ ∨ w.heap.size ≤ k_)) u9000_ l0 from Kd.R_mono ho0 (fun k_ hk => (.inl hk)))
 have HR3_0 := Aside0.mk hr3_0
 have HC3_0 := Aside0.mk hc3_0
 clear hr3_0 hc3_0
 have HR3_1 := Aside0.mk hr3_1
 have HC3_1 := Aside0.mk hc3_1
 clear hr3_1 hc3_1
 have HR3_3 := Aside0.mk hr3_3
 have HC3_3 := Aside0.mk hc3_3
 clear hr3_3 hc3_3
 have BK90030 := Aside0.mk hk3_0
 clear hk3_0
 have HK := Aside0.mk (Kept.refl w (fun k_ => P0_ k_))
 have HW0 := Aside0.mk hB.size
 have HB := Aside0.mk hB
 clear hB
 have H : (slices_insertionSortCmpFunc_int_fc_81_46.l0 k l0 a1 a2 (wrap64 (a1 + 1)) l3_0 l3_1 a3_2 l3_3) = some r := h
 clear h
 have H' := Aside0.mk H
 clear H
 go_enter Try.func146, Try.ntmps146
 go_wp2
 (try simp only [Act.put, List.setIfInBounds_toArray, List.set_cons_zero, List.set_cons_succ])
 go_loopg [8] k (fun kq v8 w' => ∃ (x0_1 : List Int) (x8_1 : Int), v8 = .int .i64 x8_1 ∧ Aside0 (slices_insertionSortCmpFunc_int_fc_81_46.l0 kq x0_1 a1 a2 x8_1 l3_0 l3_1 a3_2 l3_3 = some r) ∧ Aside0 (kq ≤ k) ∧ Aside0 (Kd.R (Kd.int .i64) 3 w' w0.heap.size (fun k_ => (P0_ k_ ∨ w.heap.size ≤ k_)) u9000_ x0_1) ∧ Aside0 (w'.heap[g3_0_]? = some (.cells #[(.slice A3_0 l3_0.length c3_0), (.slice A3_1 l3_1.length c3_1), .int .i64 a3_2, (.slice A3_3 l3_3.length c3_3)] 46 (0, 0))) ∧ Aside0 (Kept w w' (fun k_ => P0_ k_)) ∧ Aside0 (Below w0.heap.size w0 w'))
 case atStart => exact ⟨(l0), (wrap64 (a1 + 1)), (g0), H', ⟨Nat.le_refl _⟩, ⟨g1 HO0.out⟩, ⟨g2 BK90030.out⟩, ⟨g3 HK.out⟩, ⟨g4 HB.out⟩⟩
 case round =>
  clear H'
  try clear p2
  try clear c3
  obtain ⟨x0_1, x8_1, rfl, HA, HK1, HO_0, BK90030, HK, HB⟩ := hrel
  cases gk with
  | zero => exact absurd HA.out (by simp [slices_insertionSortCmpFunc_int_fc_81_46.l0])
  | succ k1 =>
   have H := HA.out
   clear HA
   simp only [slices_insertionSortCmpFunc_int_fc_81_46.l0] at H
   by_cases c5 : x8_1 < a2
   case neg =>
    rw [if_neg c5] at H
    have c5b0 : decide (x8_1 < a2) = false := decide_eq_false c5
    clear c5
    obtain rfl := Option.some.inj H
    go_wp2
    first | go_end0 | ((try simp only [Exit.inBlock, Exit.then]); refine bodyPost_ret (results_none rfl _ _ _) rfl ?_)
    exact ⟨g5, g1 HO_0.out, g4 HB.out, g3 HK.out⟩
   rw [if_pos c5] at H
   have c5b0 : decide (x8_1 < a2) = true := decide_eq_true c5
   clear c5
   have H' := Aside0.mk H
   clear H
   go_wp2
   (try simp only [Act.put, List.setIfInBounds_toArray, List.set_cons_zero, List.set_cons_succ])
   go_loopg [9] k1 (fun kq v9 w' => ∃ (x0_2 : List Int) (x9_2 : Int), v9 = .int .i64 x9_2 ∧ Aside0 (slices_insertionSortCmpFunc_int_fc_81_46.l1 kq x0_2 a1 a2 x8_1 x9_2 l3_0 l3_1 a3_2 l3_3 = some r) ∧ Aside0 (kq ≤ k1) ∧ Aside0 (Kd.R (Kd.int .i64) 3 w' w0.heap.size (fun k_ => (P0_ k_ ∨ w.heap.size ≤ k_)) u9000_ x0_2) ∧ Aside0 (w'.heap[g3_0_]? = some (.cells #[(.slice A3_0 l3_0.length c3_0), (.slice A3_1 l3_1.length c3_1), .int .i64 a3_2, (.slice A3_3 l3_3.length c3_3)] 46 (0, 0))) ∧ Aside0 (Kept w w' (fun k_ => P0_ k_)) ∧ Aside0 (Below w0.heap.size w0 w'))
   case atStart => exact ⟨(x0_1), (x8_1), (g0), H', ⟨Nat.le_refl _⟩, ⟨g1 HO_0.out⟩, ⟨g2 BK90030.out⟩, ⟨g3 HK.out⟩, ⟨g4 HB.out⟩⟩
   case round =>
    clear H'
    try clear p2
    try clear c3
    try clear c5
    try clear c5b0
    try clear p2
    obtain ⟨x0_2, x9_2, rfl, HA, HK2, HO_0, BK90030, HK, HB⟩ := hrel
    cases gk with
    | zero => exact absurd HA.out (by simp [slices_insertionSortCmpFunc_int_fc_81_46.l1])
    | succ k2 =>
     have H := HA.out
     clear HA
     simp only [slices_insertionSortCmpFunc_int_fc_81_46.l1] at H
     by_cases c6 : x9_2 > a1
     case neg =>
      rw [if_neg c6] at H
      have c6b0 : decide (a1 < x9_2) = false := decide_eq_false c6
      clear c6
      have H' := Aside0.mk H
      clear H
      try go_wp2
      have n_ := slices_insertionSortCmpFunc_int_fc_81_46.K4_ (Kd.R_drew HO_0.out) (blk_drew BK90030.out) (Kept.drew HK.out) (below_drew1 HB.out)
      clear HO_0 BK90030 HK HB
      obtain ⟨HO_0, BK90030, HK, HB⟩ := n_
      refine start_ (n := 17) (S := fun w' => True) (ds := []) slices_insertionSortCmpFunc_int_fc_81_46.b0_ (by kernel_rfl) rfl rfl trivial (fun hHeld => ?_); refine with_tabW slices_insertionSortCmpFunc_int_fc_81_46.tab4 slices_insertionSortCmpFunc_int_fc_81_46.bits4 (fun HT_ HW_ => ?_)
      generalize wr.drew = w23 at HO_0 BK90030 HK HB hHeld ⊢
      refine pure_ (i := 0) (N := some 18) (v := ?_) (a' := ?_) slices_insertionSortCmpFunc_int_fc_81_46.b1_ rfl rfl (any_of HT_.out (by kernel_rfl)) (fun _ _ _ h => h) (Or.inl ⟨by rfl, ?_⟩) ?_ ?_
      rotate_left
      ·intro w'
       go_simp
       with_reducible rfl
      rotate_left
      ·exact ga0
      refine pure_ (i := 1) (N := some 19) (v := ?_) (a' := ?_) slices_insertionSortCmpFunc_int_fc_81_46.b2_ rfl rfl (any_of HT_.out (by kernel_rfl)) (fun _ _ _ h => h) (Or.inl ⟨by rfl, ?_⟩) ?_ ?_
      rotate_left
      ·intro w'
       go_simp
       with_reducible rfl
      rotate_left
      ·exact ga0
      refine pure_ (i := 2) (N := some 20) (v := ?_) (a' := ?_) slices_insertionSortCmpFunc_int_fc_81_46.b3_ rfl rfl (any_of HT_.out (by kernel_rfl)) (fun _ _ _ h => h) (Or.inl ⟨by rfl, ?_⟩) ?_ ?_
      rotate_left
      ·intro w'
       go_simp
       with_reducible rfl
      rotate_left
      ·exact ga0
      refine pure_ (i := 3) (N := some 21) (v := ?_) (a' := ?_) slices_insertionSortCmpFunc_int_fc_81_46.b4_ rfl rfl (any_of HT_.out (by kernel_rfl)) (fun _ _ _ h => h) (Or.inl ⟨by rfl, ?_⟩) ?_ ?_
      rotate_left
      ·intro w'
       go_simp
       with_reducible rfl
      rotate_left
      ·exact ga0
      refine pure_ (i := 4) (N := some 22) (v := undef) (a' := ?_) slices_insertionSortCmpFunc_int_fc_81_46.b5_ rfl rfl (any_of HT_.out (by kernel_rfl)) (fun _ _ _ h => h) (Or.inr ⟨by rfl, rfl⟩) ?_ ?_
      rotate_left
      ·exact ga0
      refine pure_ (i := 5) (N := some 23) (v := undef) (a' := ?_) slices_insertionSortCmpFunc_int_fc_81_46.b6_ rfl rfl (any_of HT_.out (by kernel_rfl)) (fun _ _ _ h => h) (Or.inr ⟨by rfl, rfl⟩) ?_ ?_
      rotate_left
      ·exact ga0
      refine pure_ (i := 6) (N := some 24) (v := undef) (a' := ?_) slices_insertionSortCmpFunc_int_fc_81_46.b7_ rfl rfl (any_of HT_.out (by kernel_rfl)) (fun _ _ _ h => h) (Or.inr ⟨by rfl, rfl⟩) ?_ ?_
      rotate_left
      ·exact ga0
      refine pure_ (i := 7) (N := some 25) (v := undef) (a' := ?_) slices_insertionSortCmpFunc_int_fc_81_46.b8_ rfl rfl (any_of HT_.out (by kernel_rfl)) (fun _ _ _ h => h) (Or.inr ⟨by rfl, rfl⟩) ?_ ?_
      rotate_left
      ·exact ga0
      refine pure_ (i := 8) (N := some 26) (v := undef) (a' := ?_) #[true, true, true, true, true, true, true, true, true, false, false, false, false, false, false, false, false] rfl rfl (any_of HT_.out (by kernel_rfl)) (fun _ _ _ h => h) (Or.inr ⟨by rfl, rfl⟩) ?_ ?_
      rotate_left
      ·exact ga0
      refine pure_ (i := 9) (N := some 27) (v := undef) (a' := ?_) #[true, true, true, true, true, true, true, true, true, true, false, false, false, false, false, false, false] rfl rfl (any_of HT_.out (by kernel_rfl)) (fun _ _ _ h => h) (Or.inr ⟨by rfl, rfl⟩) ?_ ?_
      rotate_left
      ·exact ga0
      refine pure_ (i := 10) (N := some 28) (v := undef) (a' := ?_) #[true, true, true, true, true, true, true, true, true, true, true, false, false, false, false, false, false] rfl rfl (any_of HT_.out (by kernel_rfl)) (fun _ _ _ h => h) (Or.inr ⟨by rfl, rfl⟩) ?_ ?_
      rotate_left
      ·exact ga0
      refine pure_ (i := 11) (N := some 29) (v := undef) (a' := ?_) #[true, true, true, true, true, true, true, true, true, true, true, true, false, false, false, false, false] rfl rfl (any_of HT_.out (by kernel_rfl)) (fun _ _ _ h => h) (Or.inr ⟨by rfl, rfl⟩) ?_ ?_
      rotate_left
      ·exact ga0
      refine pure_ (i := 12) (N := some 30) (v := undef) (a' := ?_) slices_insertionSortCmpFunc_int_fc_81_46.b9_ rfl rfl (any_of HT_.out (by kernel_rfl)) (fun _ _ _ h => h) (Or.inr ⟨by rfl, rfl⟩) ?_ ?_
      rotate_left
      ·exact ga0
      refine pure_ (i := 13) (N := some 31) (v := undef) (a' := ?_) slices_insertionSortCmpFunc_int_fc_81_46.b10_ rfl rfl (any_of HT_.out (by kernel_rfl)) (fun _ _ _ h => h) (Or.inr ⟨by rfl, rfl⟩) ?_ ?_
      rotate_left
      ·exact ga0
      refine pure_ (i := 14) (N := some 32) (v := undef) (a' := ?_) slices_insertionSortCmpFunc_int_fc_81_46.b11_ rfl rfl (any_of HT_.out (by kernel_rfl)) (fun _ _ _ h => h) (Or.inr ⟨by rfl, rfl⟩) ?_ ?_
      rotate_left
      ·exact ga0
      refine pure_ (i := 15) (N := some 33) (v := undef) (a' := ?_) slices_insertionSortCmpFunc_int_fc_81_46.b12_ rfl rfl (any_of HT_.out (by kernel_rfl)) (fun _ _ _ h => h) (Or.inr ⟨by rfl, rfl⟩) ?_ ?_
      rotate_left
      ·exact ga0
      refine pure_ (i := 16) (N := some 34) (v := ?_) (a' := ?_) slices_insertionSortCmpFunc_int_fc_81_46.b13_ rfl rfl (any_of HT_.out (by kernel_rfl)) (fun _ _ _ h => h) (Or.inl ⟨by rfl, ?_⟩) ?_ ?_
      rotate_left
      ·intro w'
       go_simp
       with_reducible rfl
      rotate_left
      ·exact ga0
      refine done_ (done_of HT_.out (by kernel_rfl)) ?_
      try go_wp2
      go_roundg k2
      case measure => have := HK1.out; have := HK2.out; omega
      case rel => exact ⟨(x0_2), (wrap64 (x8_1 + 1)), (g0), H', ⟨by have := HK1.out; have := HK2.out; omega⟩, ⟨g1 HO_0.out⟩, ⟨g2 BK90030.out⟩, ⟨g3 HK.out⟩, ⟨g4 HB.out⟩⟩
     rw [if_pos c6] at H
     have c6b0 : decide (a1 < x9_2) = true := decide_eq_true c6
     clear c6
     by_cases c7 : 0 ≤ x9_2
     case neg =>
      rw [if_neg c7] at H
      exact absurd H (by simp)
     rw [if_pos c7] at H
     have c7b0 : decide (0 ≤ x9_2) = true := decide_eq_true c7
     clear c7
     by_cases c8 : x9_2 < (x0_2.length : Int)
     case neg =>
      rw [if_neg c8] at H
      exact absurd H (by simp)
     rw [if_pos c8] at H
     have c8b0 : decide (x9_2 < (x0_2.length : Int)) = true := decide_eq_true c8
     clear c8
     obtain ⟨ji9, hji9⟩ : ∃ j_ : Int, (wrap64 (x9_2 - 1)) = j_ := ⟨_, rfl⟩
     replace H : (if 0 ≤ (ji9) then (if (ji9) < (x0_2.length : Int) then ((impl_Ranked_1_c.f k2 (rd x0_2 x9_2) (rd x0_2 (ji9)) l3_0 l3_1 a3_2 l3_3).bind fun t425 => (if t425 < 0 then (slices_insertionSortCmpFunc_int_fc_81_46.l1 k2 ((x0_2.set (x9_2 : Int).toNat (rd x0_2 (ji9))).set ((ji9) : Int).toNat (rd x0_2 x9_2)) a1 a2 x8_1 ji9 l3_0 l3_1 a3_2 l3_3) else (slices_insertionSortCmpFunc_int_fc_81_46.l0 k2 x0_2 a1 a2 (wrap64 (x8_1 + 1)) l3_0 l3_1 a3_2 l3_3))) else (none)) else (none)) = some r := by first | (rw [hji9] at H; exact H) | (simp only [hji9] at H ⊢; exact H)
     have hji9w : (IntKind.i64.wrap (x9_2 - 1)) = ji9 := (i64_w _).trans hji9
     by_cases c10 : 0 ≤ (ji9)
     case neg =>
      rw [if_neg c10] at H
      exact absurd H (by simp)
     rw [if_pos c10] at H
     have c10b0 : decide (0 ≤ (ji9)) = true := decide_eq_true c10
     clear c10
     by_cases c11 : (ji9) < (x0_2.length : Int)
     case neg =>
      rw [if_neg c11] at H
      exact absurd H (by simp)
     rw [if_pos c11] at H
     have c11b0 : decide ((ji9) < (x0_2.length : Int)) = true := decide_eq_true c11
     clear c11
     replace H := Option.bind_eq_some_iff.mp H
     obtain ⟨t425, A120, H⟩ := H
     replace H : (if t425 < 0 then (slices_insertionSortCmpFunc_int_fc_81_46.l1 k2 ((x0_2.set (x9_2 : Int).toNat (rd x0_2 (ji9))).set ((ji9) : Int).toNat (rd x0_2 x9_2)) a1 a2 x8_1 ji9 l3_0 l3_1 a3_2 l3_3) else (slices_insertionSortCmpFunc_int_fc_81_46.l0 k2 x0_2 a1 a2 (wrap64 (x8_1 + 1)) l3_0 l3_1 a3_2 l3_3)) = some r := H
     have A12 := Aside0.mk A120
     clear A120
     have HZ13 := Aside0.mk H
     clear H
     try go_wp2
     have n_ := slices_insertionSortCmpFunc_int_fc_81_46.K4_ (Kd.R_drew HO_0.out) (blk_drew BK90030.out) (Kept.drew HK.out) (below_drew1 HB.out)
     clear HO_0 BK90030 HK HB
     obtain ⟨HO_0, BK90030, HK, HB⟩ := n_
     obtain ⟨Ao15, co15, eo15⟩ := Kd.R_slice HO_0.out
     (first | subst eo15 | (injection eo15 with f1_ f2_ f3_; have f4_ := f1_.symm; have f5_ := f3_.symm; clear f1_ f2_ f3_; subst f4_; subst f5_))
     have p423 : 0 ≤ (x9_2 : Int) := of_decide_eq_true (g6)
     have q423 : x9_2 < (x0_2.length : Int) := of_decide_eq_true (g6)
     obtain ⟨ad423, e423, hx423_0⟩ := Kd.at_int (Kd.R_reads' HO_0.out).2.2 x9_2 p423 q423
     cases e423
     replace p423 := eq_true p423
     replace q423 := eq_true q423
     have p424 : 0 ≤ ((ji9) : Int) := of_decide_eq_true (g6)
     have q424 : (ji9) < (x0_2.length : Int) := of_decide_eq_true (g6)
     obtain ⟨ad424, e424, hx424_0⟩ := Kd.at_int (Kd.R_reads' HO_0.out).2.2 (ji9) p424 q424
     obtain rfl : ad423 = ad424 := (by injection e424)
     replace p424 := eq_true p424
     replace q424 := eq_true q424
     refine start_ (n := 17) (S := fun w' => w'.cell? (ad423.add (x9_2).toNat) = some (.int .i64 (rd x0_2 x9_2)) ∧ w'.cell? (ad423.add ((ji9)).toNat) = some (.int .i64 (rd x0_2 (ji9)))) (ds := []) slices_insertionSortCmpFunc_int_fc_81_46.b0_ (by kernel_rfl) rfl rfl ⟨hx423_0, hx424_0⟩ (fun hHeld => ?_); refine with_tabW slices_insertionSortCmpFunc_int_fc_81_46.tab4 slices_insertionSortCmpFunc_int_fc_81_46.bits4 (fun HT_ HW_ => ?_)
     generalize wr.drew = w14 at HO_0 BK90030 HK HB hx423_0 hx424_0 hHeld ⊢
     refine pure_ (i := 0) (N := some 18) (v := ?_) (a' := ?_) slices_insertionSortCmpFunc_int_fc_81_46.b1_ rfl rfl (any_of HT_.out (by kernel_rfl)) (fun _ _ _ h => h) (Or.inl ⟨by rfl, ?_⟩) ?_ ?_
     rotate_left
     ·intro w'
      go_simp
      with_reducible rfl
     rotate_left
     ·exact ga0
     refine pure_ (i := 1) (N := some 19) (v := ?_) (a' := ?_) slices_insertionSortCmpFunc_int_fc_81_46.b2_ rfl rfl (any_of HT_.out (by kernel_rfl)) (fun _ _ _ h => h) (Or.inl ⟨by rfl, ?_⟩) ?_ ?_
     rotate_left
     ·intro w'
      go_simp
      with_reducible rfl
     rotate_left
     ·exact ga0
     refine pure_ (i := 2) (N := some 20) (v := ?_) (a' := ?_) slices_insertionSortCmpFunc_int_fc_81_46.b3_ rfl rfl (any_of HT_.out (by kernel_rfl)) (fun _ _ _ h => h) (Or.inl ⟨by rfl, ?_⟩) ?_ ?_
     rotate_left
     ·intro w'
      go_simp
      with_reducible rfl
     rotate_left
     ·exact ga0
     refine pure_ (i := 3) (N := some 21) (v := ?_) (a' := ?_) slices_insertionSortCmpFunc_int_fc_81_46.b4_ rfl rfl (any_of HT_.out (by kernel_rfl)) (fun _ _ _ h => h) (Or.inl ⟨by rfl, ?_⟩) ?_ ?_
     rotate_left
     ·intro w'
      go_simp
      with_reducible rfl
     rotate_left
     ·exact ga0
     refine pure_ (i := 4) (N := some 22) (v := ?_) (a' := ?_) slices_insertionSortCmpFunc_int_fc_81_46.b5_ rfl rfl (any_of HT_.out (by kernel_rfl)) (fun _ _ _ h => h) (Or.inl ⟨by rfl, ?_⟩) ?_ ?_
     rotate_left
     ·intro w'
      go_simp
      with_reducible rfl
     rotate_left
     ·exact ga0
     refine pure_ (i := 5) (N := some 23) (v := ?_) (a' := ?_) slices_insertionSortCmpFunc_int_fc_81_46.b6_ rfl rfl (any_of HT_.out (by kernel_rfl)) (fun _ _ _ h => h) (Or.inl ⟨by rfl, ?_⟩) ?_ ?_
     rotate_left
     ·intro w'
      go_simp
      with_reducible rfl
     rotate_left
     ·exact ga0
     refine pure_ (i := 6) (N := some 24) (v := ?_) (a' := ?_) slices_insertionSortCmpFunc_int_fc_81_46.b7_ rfl rfl (any_of HT_.out (by kernel_rfl)) (fun _ _ _ h => h) (Or.inl ⟨by rfl, ?_⟩) ?_ ?_
     rotate_left
     ·intro w'
      go_simp
      with_reducible rfl
     rotate_left
     ·exact ga0
     refine pure_ (i := 7) (N := some 25) (v := ?_) (a' := ?_) slices_insertionSortCmpFunc_int_fc_81_46.b8_ rfl rfl (any_of HT_.out (by kernel_rfl)) (fun _ _ _ h => h) (Or.inl ⟨by rfl, ?_⟩) ?_ ?_
     rotate_left
     ·intro w'
      go_simp
      with_reducible rfl
     rotate_left
     ·exact ga0
     refine pure_ (i := 9) (N := some 27) (v := ?_) (a' := ?_) #[true, true, true, true, true, true, true, true, false, true, false, false, false, false, false, false, false] rfl rfl (any_of HT_.out (by kernel_rfl)) (fun _ _ _ h => h) (Or.inl ⟨by rfl, ?_⟩) ?_ ?_
     rotate_left
     ·intro w'
      go_simp
      with_reducible rfl
     rotate_left
     ·exact ga0
     refine pure_ (i := 10) (N := some 28) (v := ?_) (a' := ?_) #[true, true, true, true, true, true, true, true, false, true, true, false, false, false, false, false, false] rfl rfl (any_of HT_.out (by kernel_rfl)) (fun _ _ _ h => h) (Or.inl ⟨by rfl, ?_⟩) ?_ ?_
     rotate_left
     ·intro w'
      go_simp
      with_reducible rfl
     rotate_left
     ·exact ga0
     refine pure_ (i := 11) (N := some 29) (v := ?_) (a' := ?_) #[true, true, true, true, true, true, true, true, false, true, true, true, false, false, false, false, false] rfl rfl (any_of HT_.out (by kernel_rfl)) (fun _ _ _ h => h) (Or.inl ⟨by rfl, ?_⟩) ?_ ?_
     rotate_left
     ·intro w'
      go_simp
      with_reducible rfl
     rotate_left
     ·exact ga0
     refine pure_ (i := 12) (N := some 30) (v := ?_) (a' := ?_) #[true, true, true, true, true, true, true, true, false, true, true, true, true, false, false, false, false] rfl rfl (any_of HT_.out (by kernel_rfl)) (fun _ _ _ h => h) (Or.inl ⟨by rfl, ?_⟩) ?_ ?_
     rotate_left
     ·intro w'
      go_simp
      with_reducible rfl
     rotate_left
     ·exact ga0
     refine take_ (i := 8) (N := some 26) (v := ?_) (a' := ?_) slices_insertionSortCmpFunc_int_fc_81_46.b9_ rfl rfl (take_ofW HT_.out HW_.out (by kernel_rfl)) (fun _ _ _ h => h) (Or.inl ⟨by rfl, ?_⟩) hHeld ?_ ?_
     rotate_left
     ·rintro w' ⟨s0, s1⟩
      go_simp
      with_reducible rfl
     rotate_left
     ·exact ga0
     refine take_ (i := 13) (N := some 31) (v := ?_) (a' := ?_) slices_insertionSortCmpFunc_int_fc_81_46.b10_ rfl rfl (take_ofW HT_.out HW_.out (by kernel_rfl)) (fun _ _ _ h => h) (Or.inl ⟨by rfl, ?_⟩) hHeld ?_ ?_
     rotate_left
     ·rintro w' ⟨s0, s1⟩
      go_simp
      with_reducible rfl
     rotate_left
     ·exact ga0
     refine one_ (i := 14) (N := some 32) slices_insertionSortCmpFunc_int_fc_81_46.b11_ rfl rfl (one_of HT_.out (by kernel_rfl)) (by decide) (fun K hK => ?_)
     refine goesC_ Try.func81 (by kernel_rfl) rfl #[.int .i64 (rd x0_2 x9_2), .int .i64 (rd x0_2 (ji9)), .pointer (some ⟨g3_0_, 0, none⟩)] _ (by rfl) rfl rfl (by rfl) (by (try simp only [List.map_toArray, List.map_cons, List.map_nil]); first | done | (simp only [hji9]; rfl) | rfl | (simp only [List.length_drop, List.length_take]; rfl)) ?_
     with_reducible refine (impl_Ranked_1_c.calls k2 (rd x0_2 x9_2) (rd x0_2 (ji9)) g3_0_ A3_0 c3_0 l3_0 A3_1 c3_1 l3_1 a3_2 A3_3 c3_3 l3_3 t425 _ ?side1 ?side2 ?side3 ?side4 ?side5 ?side6 ?side7 A12.out).mono ?_
     (case side1 => exact g7 BK90030.out)
     (case side2 => exact g8 HR3_0.out HK.out)
     (case side3 => exact HC3_0.out)
     (case side4 => exact g8 HR3_1.out HK.out)
     (case side5 => exact HC3_1.out)
     (case side6 => exact g8 HR3_3.out HK.out)
     (case side7 => exact HC3_3.out)
     rintro e w16 ⟨rfl, hb⟩
     have HS0_ := (hb.cell (World.block_lt_of_cell? _ _ (hHeld.1))).trans (hHeld.1)
     have HS1_ := (hb.cell (World.block_lt_of_cell? _ _ (hHeld.2))).trans (hHeld.2)
     refine ⟨_, rfl, ?_⟩
     have n_ := slices_insertionSortCmpFunc_int_fc_81_46.K4_ (Kd.R_below (g1 HO_0.out) hb) (blk_below (g := g3_0_) (o := .cells #[.slice A3_0 l3_0.length c3_0, .slice A3_1 l3_1.length c3_1, .int .i64 a3_2, .slice A3_3 l3_3.length c3_3] 46 (0, 0)) (g2 BK90030.out) hb) (Kept.below (S := (fun k_ => P0_ k_)) (g3 HK.out) hb) (below_step (g4 HB.out) hb)
     clear HO_0 BK90030 HK HB
     obtain ⟨HO_0, BK90030, HK, HB⟩ := n_
     (try clear hb)
     (try clear hb2)
     (try clear hk)
     (try clear hi)
     refine hK.out _ _ ⟨HS0_, HS1_⟩ (fun hHeld => ?_)
     clear hK K
     refine norm_ (a' := ?_) ?_ ?_
     rotate_left
     ·show Act.put _ (some 32) _ = _
      simp only [Act.put, List.setIfInBounds_toArray, List.set_cons_zero, List.set_cons_succ, i64_w, i32_w]
      rfl
     refine pure_ (i := 15) (N := some 33) (v := ?_) (a' := ?_) slices_insertionSortCmpFunc_int_fc_81_46.b12_ rfl rfl (any_of HT_.out (by kernel_rfl)) (fun _ _ _ h => h) (Or.inl ⟨by rfl, ?_⟩) ?_ ?_
     rotate_left
     ·intro w'
      go_simp
      with_reducible rfl
     rotate_left
     ·exact ga0
     refine pure_ (i := 16) (N := some 34) (v := ?_) (a' := ?_) slices_insertionSortCmpFunc_int_fc_81_46.b13_ rfl rfl (any_of HT_.out (by kernel_rfl)) (fun _ _ _ h => h) (Or.inl ⟨by rfl, ?_⟩) ?_ ?_
     rotate_left
     ·intro w'
      go_simp
      with_reducible rfl
     rotate_left
     ·exact ga0
     refine done_ (done_of HT_.out (by kernel_rfl)) ?_
     go_upto_if 34 with (fail)
     have H := HZ13.out
     clear HZ13
     by_cases c17 : t425 < 0
     case neg =>
      rw [if_neg c17] at H
      have c17b0 : decide (t425 < 0) = false := decide_eq_false c17
      clear c17
      (first | rw [c17b0] | (simp only [i64_w, i32_w]; rw [c17b0]) | skip)
      have H' := Aside0.mk H
      clear H
      go_wp2
      go_roundg k2
      case measure => have := HK1.out; have := HK2.out; omega
      case rel => exact ⟨(x0_2), (wrap64 (x8_1 + 1)), (g0), H', ⟨by have := HK1.out; have := HK2.out; omega⟩, ⟨g1 HO_0.out⟩, ⟨g2 BK90030.out⟩, ⟨g3 HK.out⟩, ⟨g4 HB.out⟩⟩
     rw [if_pos c17] at H
     have c17b0 : decide (t425 < 0) = true := decide_eq_true c17
     clear c17
     (first | rw [c17b0] | (simp only [i64_w, i32_w]; rw [c17b0]) | skip)
     obtain ⟨y428, hy428⟩ : ∃ y_ : List Int, y_ = (x0_2.set (x9_2 : Int).toNat (rd x0_2 (ji9))) := ⟨_, rfl⟩
     replace H : (slices_insertionSortCmpFunc_int_fc_81_46.l1 k2 (y428.set ((ji9) : Int).toNat (rd x0_2 x9_2)) a1 a2 x8_1 ji9 l3_0 l3_1 a3_2 l3_3) = some r := by first | (rw [hy428]; with_reducible exact H) | (have H2_ := (Option.bind_some _ _).symm.trans H; rw [hy428]; with_reducible exact H2_) | (have H2_ := (Option.bind_some _ _).symm.trans H; with_reducible exact H2_) | with_reducible exact H | (rw [hy428]; exact H) | exact H
     have Ny428 := Aside0.mk hy428
     clear hy428
     obtain ⟨y429, hy429⟩ : ∃ y_ : List Int, y_ = (y428.set ((ji9) : Int).toNat (rd x0_2 x9_2)) := ⟨_, rfl⟩
     replace H : (slices_insertionSortCmpFunc_int_fc_81_46.l1 k2 y429 a1 a2 x8_1 ji9 l3_0 l3_1 a3_2 l3_3) = some r := by first | (rw [hy429]; with_reducible exact H) | (have H2_ := (Option.bind_some _ _).symm.trans H; rw [hy429]; with_reducible exact H2_) | (have H2_ := (Option.bind_some _ _).symm.trans H; with_reducible exact H2_) | with_reducible exact H | (rw [hy429]; exact H) | exact H
     have Ny429 := Aside0.mk hy429
     clear hy429
     have H' := Aside0.mk H
     clear H
     try go_wp2
     have n_ := slices_insertionSortCmpFunc_int_fc_81_46.K4_ (Kd.R_drew HO_0.out) (blk_drew BK90030.out) (Kept.drew HK.out) (below_drew1 HB.out)
     clear HO_0 BK90030 HK HB
     obtain ⟨HO_0, BK90030, HK, HB⟩ := n_
     have p426 : 0 ≤ ((ji9) : Int) := of_decide_eq_true (g6)
     have q426 : (ji9) < (x0_2.length : Int) := of_decide_eq_true (g6)
     obtain ⟨ad426, e426, hx426_0⟩ := Kd.at_int (Kd.R_reads' HO_0.out).2.2 (ji9) p426 q426
     obtain rfl : ad423 = ad426 := (by injection e426)
     replace p426 := eq_true p426
     replace q426 := eq_true q426
     have p427 : 0 ≤ (x9_2 : Int) := of_decide_eq_true (g6)
     have q427 : x9_2 < (x0_2.length : Int) := of_decide_eq_true (g6)
     obtain ⟨ad427, e427, hx427_0⟩ := Kd.at_int (Kd.R_reads' HO_0.out).2.2 x9_2 p427 q427
     obtain rfl : ad423 = ad427 := (by injection e427)
     replace p427 := eq_true p427
     replace q427 := eq_true q427
     have p18 : 0 ≤ (x9_2 : Int) := of_decide_eq_true (g6)
     have q18 : (x9_2 : Int) < ((x0_2.length : Int) : Int) := of_decide_eq_true (g6)
     obtain ⟨go18, co18, eo18, gb18, gl18, cl18, HG18⟩ := Kd.R_form HO_0.out (by omega)
     (first | cases eo18 | (injection eo18 with ea_ en_ ec_; (first | subst ea_ | (injection ea_ with ea_; subst ea_)); subst ec_; clear en_))
     have GB18 := Aside0.mk gb18
     have GG18 := Aside0.mk HG18
     clear gb18 gl18 HG18
     have HMgo18 := Aside0.mk (show (P0_ go18 ∨ w.heap.size ≤ go18) from (HO_0.out.1 _ rfl))
     (first | simp only [add_plain] at hx423_0 | skip)
     (first | simp only [add_plain] at hx424_0 | skip)
     (first | simp only [add_plain] at hx426_0 | skip)
     (first | simp only [add_plain] at hx427_0 | skip)
     obtain ⟨hx18_0, hf18_0⟩ := Kd.R_celln 0 HO_0.out (x9_2 : Int) p18 q18
     replace p18 := eq_true p18
     replace q18 := eq_true q18
     have HP21 := Kd.R_putn HO_0.out (x9_2 : Int) (rd x0_2 (ji9))
     rw [← Ny428.out] at HP21
     have HQ21 := Aside0.mk HP21
     clear HP21
     have p19 : 0 ≤ ((ji9) : Int) := of_decide_eq_true (g6)
     have q19 : ((ji9) : Int) < ((x0_2.length : Int) : Int) := of_decide_eq_true (g6)
     obtain ⟨hx19_0, hf19_0⟩ := Kd.R_celln 0 HQ21.out ((ji9) : Int) p19 q19
     replace p19 := eq_true p19
     replace q19 := eq_true q19
     have HP22 := Kd.R_putn HQ21.out ((ji9) : Int) (rd x0_2 x9_2)
     rw [← Ny429.out] at HP22
     have HQ22 := Aside0.mk HP22
     clear HP22
     refine start_ (n := 18) (S := fun w' => w'.cell? ⟨go18, ((ji9)).toNat, none⟩ = some (.int .i64 (rd x0_2 (ji9))) ∧ w'.cell? ⟨go18, (x9_2).toNat, none⟩ = some (.int .i64 (rd x0_2 x9_2))) (ds := [15, 17]) #[false, false, false, false, false, false, false, false, false, false, false, false, false, false, false, false, false, false] (by kernel_rfl) rfl rfl ⟨hx426_0, hx427_0⟩ (fun hHeld => ?_); refine with_tabW slices_insertionSortCmpFunc_int_fc_81_46.tab6 slices_insertionSortCmpFunc_int_fc_81_46.bits6 (fun HT_ HW_ => ?_)
     generalize w16.drew = w20 at HO_0 BK90030 HK HB GG18 HQ21 HQ22 hf18_0 hf19_0 hx18_0 hx19_0 hx423_0 hx424_0 hx426_0 hx427_0 hHeld ⊢
     refine pure_ (i := 0) (N := some 37) (v := ?_) (a' := ?_) #[true, false, false, false, false, false, false, false, false, false, false, false, false, false, false, false, false, false] rfl rfl (any_of HT_.out (by kernel_rfl)) (fun _ _ _ h => h) (Or.inl ⟨by rfl, ?_⟩) ?_ ?_
     rotate_left
     ·intro w'
      go_simp
      with_reducible rfl
     rotate_left
     ·exact ga0
     refine pure_ (i := 1) (N := some 38) (v := ?_) (a' := ?_) #[true, true, false, false, false, false, false, false, false, false, false, false, false, false, false, false, false, false] rfl rfl (any_of HT_.out (by kernel_rfl)) (fun _ _ _ h => h) (Or.inl ⟨by rfl, ?_⟩) ?_ ?_
     rotate_left
     ·intro w'
      go_simp
      with_reducible rfl
     rotate_left
     ·exact ga0
     refine pure_ (i := 2) (N := some 39) (v := ?_) (a' := ?_) #[true, true, true, false, false, false, false, false, false, false, false, false, false, false, false, false, false, false] rfl rfl (any_of HT_.out (by kernel_rfl)) (fun _ _ _ h => h) (Or.inl ⟨by rfl, ?_⟩) ?_ ?_
     rotate_left
     ·intro w'
      go_simp
      with_reducible rfl
     rotate_left
     ·exact ga0
     refine pure_ (i := 3) (N := some 40) (v := ?_) (a' := ?_) #[true, true, true, true, false, false, false, false, false, false, false, false, false, false, false, false, false, false] rfl rfl (any_of HT_.out (by kernel_rfl)) (fun _ _ _ h => h) (Or.inl ⟨by rfl, ?_⟩) ?_ ?_
     rotate_left
     ·intro w'
      go_simp
      with_reducible rfl
     rotate_left
     ·exact ga0
     refine pure_ (i := 4) (N := some 41) (v := ?_) (a' := ?_) #[true, true, true, true, true, false, false, false, false, false, false, false, false, false, false, false, false, false] rfl rfl (any_of HT_.out (by kernel_rfl)) (fun _ _ _ h => h) (Or.inl ⟨by rfl, ?_⟩) ?_ ?_
     rotate_left
     ·intro w'
      go_simp
      with_reducible rfl
     rotate_left
     ·exact ga0
     refine pure_ (i := 5) (N := some 42) (v := ?_) (a' := ?_) #[true, true, true, true, true, true, false, false, false, false, false, false, false, false, false, false, false, false] rfl rfl (any_of HT_.out (by kernel_rfl)) (fun _ _ _ h => h) (Or.inl ⟨by rfl, ?_⟩) ?_ ?_
     rotate_left
     ·intro w'
      go_simp
      with_reducible rfl
     rotate_left
     ·exact ga0
     refine pure_ (i := 6) (N := some 43) (v := ?_) (a' := ?_) #[true, true, true, true, true, true, true, false, false, false, false, false, false, false, false, false, false, false] rfl rfl (any_of HT_.out (by kernel_rfl)) (fun _ _ _ h => h) (Or.inl ⟨by rfl, ?_⟩) ?_ ?_
     rotate_left
     ·intro w'
      go_simp
      with_reducible rfl
     rotate_left
     ·exact ga0
     refine pure_ (i := 7) (N := some 44) (v := ?_) (a' := ?_) #[true, true, true, true, true, true, true, true, false, false, false, false, false, false, false, false, false, false] rfl rfl (any_of HT_.out (by kernel_rfl)) (fun _ _ _ h => h) (Or.inl ⟨by rfl, ?_⟩) ?_ ?_
     rotate_left
     ·intro w'
      go_simp
      with_reducible rfl
     rotate_left
     ·exact ga0
     refine pure_ (i := 8) (N := some 45) (v := ?_) (a' := ?_) #[true, true, true, true, true, true, true, true, true, false, false, false, false, false, false, false, false, false] rfl rfl (any_of HT_.out (by kernel_rfl)) (fun _ _ _ h => h) (Or.inl ⟨by rfl, ?_⟩) ?_ ?_
     rotate_left
     ·intro w'
      go_simp
      with_reducible rfl
     rotate_left
     ·exact ga0
     refine pure_ (i := 10) (N := some 47) (v := ?_) (a' := ?_) #[true, true, true, true, true, true, true, true, true, false, true, false, false, false, false, false, false, false] rfl rfl (any_of HT_.out (by kernel_rfl)) (fun _ _ _ h => h) (Or.inl ⟨by rfl, ?_⟩) ?_ ?_
     rotate_left
     ·intro w'
      go_simp
      with_reducible rfl
     rotate_left
     ·exact ga0
     refine pure_ (i := 11) (N := some 48) (v := ?_) (a' := ?_) #[true, true, true, true, true, true, true, true, true, false, true, true, false, false, false, false, false, false] rfl rfl (any_of HT_.out (by kernel_rfl)) (fun _ _ _ h => h) (Or.inl ⟨by rfl, ?_⟩) ?_ ?_
     rotate_left
     ·intro w'
      go_simp
      with_reducible rfl
     rotate_left
     ·exact ga0
     refine pure_ (i := 12) (N := some 49) (v := ?_) (a' := ?_) #[true, true, true, true, true, true, true, true, true, false, true, true, true, false, false, false, false, false] rfl rfl (any_of HT_.out (by kernel_rfl)) (fun _ _ _ h => h) (Or.inl ⟨by rfl, ?_⟩) ?_ ?_
     rotate_left
     ·intro w'
      go_simp
      with_reducible rfl
     rotate_left
     ·exact ga0
     refine take_ (i := 9) (N := some 46) (v := ?_) (a' := ?_) #[true, true, true, true, true, true, true, true, true, true, true, true, true, false, false, false, false, false] rfl rfl (take_ofW HT_.out HW_.out (by kernel_rfl)) (fun _ _ _ h => h) (Or.inl ⟨by rfl, ?_⟩) hHeld ?_ ?_
     rotate_left
     ·rintro w' ⟨s0, s1⟩
      go_simp
      with_reducible rfl
     rotate_left
     ·exact ga0
     refine take_ (i := 13) (N := some 50) (v := ?_) (a' := ?_) #[true, true, true, true, true, true, true, true, true, true, true, true, true, true, false, false, false, false] rfl rfl (take_ofW HT_.out HW_.out (by kernel_rfl)) (fun _ _ _ h => h) (Or.inl ⟨by rfl, ?_⟩) hHeld ?_ ?_
     rotate_left
     ·rintro w' ⟨s0, s1⟩
      go_simp
      with_reducible rfl
     rotate_left
     ·exact ga0
     refine pure_ (i := 14) (N := some 51) (v := ?_) (a' := ?_) #[true, true, true, true, true, true, true, true, true, true, true, true, true, true, true, false, false, false] rfl rfl (any_of HT_.out (by kernel_rfl)) (fun _ _ _ h => h) (Or.inl ⟨by rfl, ?_⟩) ?_ ?_
     rotate_left
     ·intro w'
      go_simp
      with_reducible rfl
     rotate_left
     ·exact ga0
     refine last_ (i := 15) (N := none) #[true, true, true, true, true, true, true, true, true, true, true, true, true, true, true, true, false, false] rfl rfl (one_of HT_.out (by kernel_rfl)) (by decide) (fun K hK => ?_)
     refine skip_ (w1 := ?_) (by rfl) rfl ?_ ?_
     rotate_left
     ·go_simp
      rfl
     refine hK.out _ _ ?_
     clear hK K
     refine pure_ (i := 16) (N := some 52) (v := ?_) (a' := ?_) #[true, true, true, true, true, true, true, true, true, true, true, true, true, true, true, true, true, false] rfl rfl (any_of HT_.out (by kernel_rfl)) (fun _ _ _ h => h) (Or.inl ⟨by rfl, ?_⟩) ?_ ?_
     rotate_left
     ·intro w'
      go_simp
      with_reducible rfl
     rotate_left
     ·exact ga0
     refine last_ (i := 17) (N := none) #[true, true, true, true, true, true, true, true, true, true, true, true, true, true, true, true, true, true] rfl rfl (one_of HT_.out (by kernel_rfl)) (by decide) (fun K hK => ?_)
     refine skip_ (w1 := ?_) (by rfl) rfl ?_ ?_
     rotate_left
     ·go_simp
      rfl
     refine hK.out _ _ ?_
     clear hK K
     refine done_ (done_of HT_.out (by kernel_rfl)) ?_
     try go_wp2
     go_roundg k2
     case measure => have := HK1.out; have := HK2.out; omega
     case rel => exact ⟨(y429), (ji9), (by first | rfl | (simp; done) | (simp only [← hji9] <;> (first | rfl | simp)) | (simp [*]; done)), H', ⟨by have := HK1.out; have := HK2.out; omega⟩, ⟨g1 HQ22.out⟩, ⟨by (with_reducible repeat (first | refine blk_drewN ?_ _ | refine blk_drew ?_ | refine blk_alloc ?_ _)); refine blk_far ?_ slices_insertionSortCmpFunc_int_fc_81_46.z0 _; (with_reducible repeat (first | refine blk_drewN ?_ _ | refine blk_drew ?_ | refine blk_alloc ?_ _)); refine blk_far ?_ slices_insertionSortCmpFunc_int_fc_81_46.z0 _; (with_reducible repeat (first | refine blk_drewN ?_ _ | refine blk_drew ?_ | refine blk_alloc ?_ _)); exact BK90030.out⟩, ⟨by repeat (first | (with_reducible first | exact HK.out | apply Kept.alloc | apply Kept.drewN | apply Kept.drew | refine Kept.setCell ?_ HMgo18.out _ | refine Kept.setCell ?_ HMgo18.out _) | exact HK.out)⟩, ⟨by repeat (first | (with_reducible first | exact HB.out | apply below_alloc | apply pw_below_drewN | apply below_drew1 | refine below_set ?_ GB18.out | refine below_set ?_ GB18.out) | exact HB.out)⟩⟩
mutual
def slices_stableCmpFunc_int_fc_81_46.l0 : Nat → List Int → Int → Int → Int → Int → List ByteArray → List Int → Int → List (S68) → Option (List Int)
  | 0, _, _, _, _, _, _, _, _, _ => none
  | k + 1, x0, x1, x6, x7, x8, x90021000, x90021001, x90021002, x90021003 => if x8 ≤ x1 then ((slices_insertionSortCmpFunc_int_fc_81_46.f k x0 x7 x8 x90021000 x90021001 x90021002 x90021003).bind fun t430 => (slices_stableCmpFunc_int_fc_81_46.l0 k t430 x1 x6 x8 (wrap64 (x8 + x6)) x90021000 x90021001 x90021002 x90021003)) else ((slices_insertionSortCmpFunc_int_fc_81_46.f k x0 x7 x1 x90021000 x90021001 x90021002 x90021003).bind fun t431 => (slices_stableCmpFunc_int_fc_81_46.l1 k t431 x1 x6))
def slices_stableCmpFunc_int_fc_81_46.l1 : Nat → List Int → Int → Int → Option (List Int)
  | 0, _, _, _ => none
  | k + 1, x0, x1, x6 => if x6 < x1 then (none) else (some x0)
end
def slices_stableCmpFunc_int_fc_81_46.f (k : Nat) (l0 : List Int) (a1 : Int) (l2_0 : List ByteArray) (l2_1 : List Int) (a2_2 : Int) (l2_3 : List (S68)) : Option (List Int) := slices_stableCmpFunc_int_fc_81_46.l0 k l0 a1 20 0 20 l2_0 l2_1 a2_2 l2_3
set_option maxHeartbeats 8000000 in
set_option maxRecDepth 100000 in
theorem slices_stableCmpFunc_int_fc_81_46.calls (k : Nat) (P0_ : Nat → Prop) (u9000_ : Value) (l0 : List Int) (a1 : Int) (g2_0_ : Nat) (A2_0 : Option Addr) (c2_0 : Nat) (l2_0 : List ByteArray) (A2_1 : Option Addr) (c2_1 : Nat) (l2_1 : List Int) (a2_2 : Int) (A2_3 : Option Addr) (c2_3 : Nat) (l2_3 : List (S68)) (r : List Int) (w0 w : World) (hB : Below w0.heap.size w0 w) (ho0 : Kd.R (Kd.int .i64) 3 w w0.heap.size P0_ u9000_ l0) (hk2_0 : w.heap[g2_0_]? = some (.cells #[.slice A2_0 l2_0.length c2_0, .slice A2_1 l2_1.length c2_1, .int .i64 a2_2, .slice A2_3 l2_3.length c2_3] 46 (0, 0))) (hr2_0 : ∀ W_, Kept w W_ (fun k_ => P0_ k_) → Kd.C Kd.string W_ A2_0 l2_0.length l2_0) (hc2_0 : l2_0.length ≤ c2_0) (hr2_1 : ∀ W_, Kept w W_ (fun k_ => P0_ k_) → Kd.C (Kd.int .i64) W_ A2_1 l2_1.length l2_1) (hc2_1 : l2_1.length ≤ c2_1) (hr2_3 : ∀ W_, Kept w W_ (fun k_ => P0_ k_) → Kd.C k68 W_ A2_3 l2_3.length l2_3) (hc2_3 : l2_3.length ≤ c2_3) (h : slices_stableCmpFunc_int_fc_81_46.f k l0 a1 l2_0 l2_1 a2_2 l2_3 = some r) :
    Calls Try.prog 118 #[u9000_, .int .i64 a1, .func (.func 81) #[] #[.pointer (some ⟨g2_0_, 0, none⟩)]] w fun e w' => e = .returned (.tuple #[]) ∧ Kd.R (Kd.int .i64) 3 w' w0.heap.size (fun k_ => (P0_ k_ ∨ w.heap.size ≤ k_)) u9000_ r ∧ Below w0.heap.size w0 w' ∧ Kept w w' (fun k_ => P0_ k_) := by
 have HO0 := Aside0.mk (show Kd.R (Kd.int .i64) 3 w w0.heap.size (fun k_ => (P0_ k_ ∨ w.heap.size ≤ k_)) u9000_ l0 from Kd.R_mono ho0 (fun k_ hk => (.inl hk)))
 have HR2_0 := Aside0.mk hr2_0
 have HC2_0 := Aside0.mk hc2_0
 clear hr2_0 hc2_0
 have HR2_1 := Aside0.mk hr2_1
 have HC2_1 := Aside0.mk hc2_1
 clear hr2_1 hc2_1
 have HR2_3 := Aside0.mk hr2_3
 have HC2_3 := Aside0.mk hc2_3
 clear hr2_3 hc2_3
 have BK90020 := Aside0.mk hk2_0
 clear hk2_0
 have HK := Aside0.mk (Kept.refl w (fun k_ => P0_ k_))
 have HW0 := Aside0.mk hB.size
 have HB := Aside0.mk hB
 clear hB
 have H : (slices_stableCmpFunc_int_fc_81_46.l0 k l0 a1 20 0 20 l2_0 l2_1 a2_2 l2_3) = some r := h
 clear h
 have H' := Aside0.mk H
 clear H
 go_enter Try.func118, Try.ntmps118
 go_wp2
 (try simp only [Act.put, List.setIfInBounds_toArray, List.set_cons_zero, List.set_cons_succ])
 go_loopg [7, 8] k (fun kq v7 v8 w' => ∃ (x0_1 : List Int) (x7_1 : Int) (x8_1 : Int), v7 = .int .i64 x7_1 ∧ v8 = .int .i64 x8_1 ∧ Aside0 (slices_stableCmpFunc_int_fc_81_46.l0 kq x0_1 a1 20 x7_1 x8_1 l2_0 l2_1 a2_2 l2_3 = some r) ∧ Aside0 (kq ≤ k) ∧ Aside0 (Kd.R (Kd.int .i64) 3 w' w0.heap.size (fun k_ => (P0_ k_ ∨ w.heap.size ≤ k_)) u9000_ x0_1) ∧ Aside0 (w'.heap[g2_0_]? = some (.cells #[(.slice A2_0 l2_0.length c2_0), (.slice A2_1 l2_1.length c2_1), .int .i64 a2_2, (.slice A2_3 l2_3.length c2_3)] 46 (0, 0))) ∧ Aside0 (Kept w w' (fun k_ => P0_ k_)) ∧ Aside0 (Below w0.heap.size w0 w'))
 case atStart => exact ⟨(l0), (0), (20), (g0), (g0), H', ⟨Nat.le_refl _⟩, ⟨g1 HO0.out⟩, ⟨g2 BK90020.out⟩, ⟨g3 HK.out⟩, ⟨g4 HB.out⟩⟩
 case round =>
  clear H'
  try clear c2
  try clear p2
  obtain ⟨x0_1, x7_1, x8_1, rfl, rfl, HA, HK1, HO_0, BK90020, HK, HB⟩ := hrel
  cases gk with
  | zero => exact absurd HA.out (by simp [slices_stableCmpFunc_int_fc_81_46.l0])
  | succ k1 =>
   have H := HA.out
   clear HA
   simp only [slices_stableCmpFunc_int_fc_81_46.l0] at H
   by_cases c4 : x8_1 ≤ a1
   case pos =>
    rw [if_pos c4] at H
    have c4b0 : decide (x8_1 ≤ a1) = true := decide_eq_true c4
    clear c4
    replace H := Option.bind_eq_some_iff.mp H
    obtain ⟨t430, A50, H⟩ := H
    replace H : (slices_stableCmpFunc_int_fc_81_46.l0 k1 t430 a1 20 x8_1 (wrap64 (x8_1 + 20)) l2_0 l2_1 a2_2 l2_3) = some r := H
    have A5 := Aside0.mk A50
    clear A50
    have H' := Aside0.mk H
    clear H
    obtain ⟨Ao6, co6, eo6⟩ := Kd.R_slice HO_0.out
    subst eo6
    go_wp2_with (first | ((with_reducible refine gate_callee (f := 146) rfl ?_); refine goesL_ (some 18) rfl rfl Try.func146 (by kernel_rfl) rfl #[.slice Ao6 x0_1.length co6, .int .i64 x7_1, .int .i64 x8_1, .func (.func 81) #[] #[.pointer (some ⟨g2_0_, 0, none⟩)]] rfl (g9) ?_; (with_reducible refine (slices_insertionSortCmpFunc_int_fc_81_46.calls k1 (fun k_ => some k_ = (.slice Ao6 x0_1.length co6 : Value).ownBlock) (.slice Ao6 x0_1.length co6) x0_1 x7_1 x8_1 g2_0_ A2_0 c2_0 l2_0 A2_1 c2_1 l2_1 a2_2 A2_3 c2_3 l2_3 t430 w0 _ ?side1 ?side2 ?side3 ?side4 ?side5 ?side6 ?side7 ?side8 ?side9 A5.out).mono ?_); (case side1 => exact g4 HB.out); (case side2 => exact Kd.R_tight rfl HO_0.out); (case side3 => exact g7 BK90020.out); (case side4 => exact Kd.C_kept_call HR2_0.out (g3 HK.out) (fun k_ hs_ => (fun e_ => (HO_0.out.1 k_ e_.symm)) hs_)); (case side5 => exact HC2_0.out); (case side6 => exact Kd.C_kept_call HR2_1.out (g3 HK.out) (fun k_ hs_ => (fun e_ => (HO_0.out.1 k_ e_.symm)) hs_)); (case side7 => exact HC2_1.out); (case side8 => exact Kd.C_kept_call HR2_3.out (g3 HK.out) (fun k_ hs_ => (fun e_ => (HO_0.out.1 k_ e_.symm)) hs_)); (case side9 => exact HC2_3.out); rintro e w7 ⟨rfl, hy0, hb, hkp⟩; refine ⟨_, rfl, ?_⟩; have n_ := slices_insertionSortCmpFunc_int_fc_81_46.K4_ (Kd.R_reok rfl hy0 (fun k_ e_ => HO_0.out.1 k_ e_)) (blk_kept (g2 BK90020.out) hkp (fun hs_ => (fun e_ => (Kd.R_ne HO_0.out BK90020.out (by decide)) e_) hs_)) (Kept.then_ (S := (fun k_ => P0_ k_)) (g3 HK.out) hkp (fun k_ hs_ => (fun e_ => (HO_0.out.1 k_ e_.symm)) hs_)) hb; clear HO_0 BK90020 HK HB; obtain ⟨HO_0, BK90020, HK, HB⟩ := n_; (try clear hb); (try clear hkp); (try clear hy0)))
    go_roundg k1
    case measure => have := HK1.out; omega
    case rel => exact ⟨(t430), (x8_1), (wrap64 (x8_1 + 20)), (g0), (g0), H', ⟨by have := HK1.out; omega⟩, ⟨g1 HO_0.out⟩, ⟨g2 BK90020.out⟩, ⟨g3 HK.out⟩, ⟨g4 HB.out⟩⟩
   rw [if_neg c4] at H
   have c4b0 : decide (x8_1 ≤ a1) = false := decide_eq_false c4
   clear c4
   replace H := Option.bind_eq_some_iff.mp H
   obtain ⟨t431, A80, H⟩ := H
   replace H : (slices_stableCmpFunc_int_fc_81_46.l1 k1 t431 a1 20) = some r := H
   have A8 := Aside0.mk A80
   clear A80
   have H' := Aside0.mk H
   clear H
   obtain ⟨Ao9, co9, eo9⟩ := Kd.R_slice HO_0.out
   subst eo9
   go_wp2_with (first | ((with_reducible refine gate_callee (f := 146) rfl ?_); refine goesL_ (some 27) rfl rfl Try.func146 (by kernel_rfl) rfl #[.slice Ao9 x0_1.length co9, .int .i64 x7_1, .int .i64 a1, .func (.func 81) #[] #[.pointer (some ⟨g2_0_, 0, none⟩)]] rfl (g9) ?_; (with_reducible refine (slices_insertionSortCmpFunc_int_fc_81_46.calls k1 (fun k_ => some k_ = (.slice Ao9 x0_1.length co9 : Value).ownBlock) (.slice Ao9 x0_1.length co9) x0_1 x7_1 a1 g2_0_ A2_0 c2_0 l2_0 A2_1 c2_1 l2_1 a2_2 A2_3 c2_3 l2_3 t431 w0 _ ?side1 ?side2 ?side3 ?side4 ?side5 ?side6 ?side7 ?side8 ?side9 A8.out).mono ?_); (case side1 => exact g4 HB.out); (case side2 => exact Kd.R_tight rfl HO_0.out); (case side3 => exact g7 BK90020.out); (case side4 => exact Kd.C_kept_call HR2_0.out (g3 HK.out) (fun k_ hs_ => (fun e_ => (HO_0.out.1 k_ e_.symm)) hs_)); (case side5 => exact HC2_0.out); (case side6 => exact Kd.C_kept_call HR2_1.out (g3 HK.out) (fun k_ hs_ => (fun e_ => (HO_0.out.1 k_ e_.symm)) hs_)); (case side7 => exact HC2_1.out); (case side8 => exact Kd.C_kept_call HR2_3.out (g3 HK.out) (fun k_ hs_ => (fun e_ => (HO_0.out.1 k_ e_.symm)) hs_)); (case side9 => exact HC2_3.out); rintro e w10 ⟨rfl, hy0, hb, hkp⟩; refine ⟨_, rfl, ?_⟩; have n_ := slices_insertionSortCmpFunc_int_fc_81_46.K4_ (Kd.R_reok rfl hy0 (fun k_ e_ => HO_0.out.1 k_ e_)) (blk_kept (g2 BK90020.out) hkp (fun hs_ => (fun e_ => (Kd.R_ne HO_0.out BK90020.out (by decide)) e_) hs_)) (Kept.then_ (S := (fun k_ => P0_ k_)) (g3 HK.out) hkp (fun k_ hs_ => (fun e_ => (HO_0.out.1 k_ e_.symm)) hs_)) hb; clear HO_0 BK90020 HK HB; obtain ⟨HO_0, BK90020, HK, HB⟩ := n_; (try clear hb); (try clear hkp); (try clear hy0)))
   (try simp only [Act.put, List.setIfInBounds_toArray, List.set_cons_zero, List.set_cons_succ])
   go_loopg [6] k1 (fun kq v6 w' => ∃ (x6_2 : Int), v6 = .int .i64 x6_2 ∧ Aside0 (slices_stableCmpFunc_int_fc_81_46.l1 kq t431 a1 x6_2 = some r) ∧ Aside0 (kq ≤ k1) ∧ Aside0 (Kd.R (Kd.int .i64) 3 w' w0.heap.size (fun k_ => (P0_ k_ ∨ w.heap.size ≤ k_)) (.slice Ao9 x0_1.length co9) t431) ∧ Aside0 (w'.heap[g2_0_]? = some (.cells #[(.slice A2_0 l2_0.length c2_0), (.slice A2_1 l2_1.length c2_1), .int .i64 a2_2, (.slice A2_3 l2_3.length c2_3)] 46 (0, 0))) ∧ Aside0 (Kept w w' (fun k_ => P0_ k_)) ∧ Aside0 (Below w0.heap.size w0 w'))
   case atStart => exact ⟨(20), (g0), H', ⟨Nat.le_refl _⟩, ⟨g1 HO_0.out⟩, ⟨g2 BK90020.out⟩, ⟨g3 HK.out⟩, ⟨g4 HB.out⟩⟩
   case round =>
    clear H'
    try clear c2
    try clear p2
    try clear c4
    try clear c4b0
    try clear p6
    try clear c7
    try clear p2
    obtain ⟨x6_2, rfl, HA, HK2, HO_0, BK90020, HK, HB⟩ := hrel
    have hl0_2 := (Kd.R_reads' HO_0.out).1
    rw [hl0_2] at HO_0
    (try simp only [hl0_2])
    (try simp only [hl0_2] at BK90020)
    cases gk with
    | zero => exact absurd HA.out (by simp [slices_stableCmpFunc_int_fc_81_46.l1])
    | succ k2 =>
     have H := HA.out
     clear HA
     simp only [slices_stableCmpFunc_int_fc_81_46.l1] at H
     by_cases c11 : x6_2 < a1
     case pos =>
      rw [if_pos c11] at H
      exact absurd H (by simp)
     rw [if_neg c11] at H
     have c11b0 : decide (x6_2 < a1) = false := decide_eq_false c11
     clear c11
     obtain rfl := Option.some.inj H
     go_wp2
     first | go_end0 | ((try simp only [Exit.inBlock, Exit.then]); refine bodyPost_ret (results_none rfl _ _ _) rfl ?_)
     exact ⟨g5, (by first | exact (g1 HO_0.out) | (simp only [hl0_2]; exact (g1 HO_0.out))), g4 HB.out, g3 HK.out⟩
end Go.Proofs.Yteoikmbdpofhmaa.XFnUses
