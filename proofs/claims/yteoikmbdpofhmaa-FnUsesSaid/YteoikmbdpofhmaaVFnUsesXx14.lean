import Derived.Test.YteoikmbdpofhmaaVFnUsesXx0
import Derived.Test.YteoikmbdpofhmaaVFnUsesXx2
import Derived.Test.YteoikmbdpofhmaaVFnUsesXx4
import Derived.Test.YteoikmbdpofhmaaVFnUsesXx13
namespace Go.Proofs.Yteoikmbdpofhmaa.XFnUses
open Go.RowKit Go.Proofs.YteoikmbdpofhmaaW.PrintWords Go.Proofs.YteoikmbdpofhmaaW.PrintLast Go.Proofs.YteoikmbdpofhmaaW.PrintMore
attribute [local go_sem] max2_int min2_int max_two min_two max_three min_three max_four min_four
set_option linter.unusedVariables false
set_option linter.unusedSimpArgs false
theorem spec_ModelOk.z0 {p : Prop} (h : p := by first | (rw [show (l0_0.take (x4_2 : Int).toNat).length = x4_2.toNat from (by rw [List.length_take]; have h_ : (x4_2 : Int) ≤ (l0_0.length : Int) := of_decide_eq_true (g6); omega)] <;> rfl) | (simp only [List.length_take, List.length_drop]; congr 2; omega) | rfl) : p := h
theorem spec_ModelOk.K2_ {p0 p1 : Prop} (h0 : p0) (h1 : p1) : Aside0 p0 ∧ Aside0 p1 := ⟨⟨h0⟩, ⟨h1⟩⟩
theorem spec_ModelOk.K4_ {p0 p1 p2 p3 : Prop} (h0 : p0) (h1 : p1) (h2 : p2) (h3 : p3) : Aside0 p0 ∧ Aside0 p1 ∧ Aside0 p2 ∧ Aside0 p3 := ⟨⟨h0⟩, ⟨h1⟩, ⟨h2⟩, ⟨h3⟩⟩
mutual
def spec_ModelOk.j0 : Nat → Int → Bool → List ByteArray → List Int → Int → List (S68) → Option (Bool)
  | 0, _, _, _, _, _, _ => none
  | k + 1, x3, x37, x506000, x506001, x506002, x506003 => if x37 = true then (some false) else (spec_ModelOk.l0 k x3 0 x506000 x506001 x506002 x506003)
def spec_ModelOk.l0 : Nat → Int → Int → List ByteArray → List Int → Int → List (S68) → Option (Bool)
  | 0, _, _, _, _, _, _ => none
  | k + 1, x3, x4, x506000, x506001, x506002, x506003 => if x4 < x3 then (if 0 ≤ x4 then (if x4 < (x506000.length : Int) then ((spec_NameOk.f k (rdOf ByteArray.empty x506000 x4)).bind fun t510 => (if t510 = true then (if x4 ≤ (x506000.length : Int) then ((spec_l9Has.f k (x506000.take (x4 : Int).toNat) (rdOf ByteArray.empty x506000 x4)).bind fun t513 => (if t513 = true then (some false) else (spec_ModelOk.l0 k x3 (wrap64 (x4 + 1)) x506000 x506001 x506002 x506003))) else (none)) else (some false))) else (none)) else (none)) else (spec_ModelOk.l1 k x3 0 x506000 x506001 x506002 x506003)
def spec_ModelOk.l1 : Nat → Int → Int → List ByteArray → List Int → Int → List (S68) → Option (Bool)
  | 0, _, _, _, _, _, _ => none
  | k + 1, x3, x5, x506000, x506001, x506002, x506003 => if x5 < (x506001.length : Int) then (if 0 ≤ x5 then ((spec_l1In.f (rd x506001 x5) (-1) 1).bind fun t515 => (if t515 = true then (spec_ModelOk.l1 k x3 (wrap64 (x5 + 1)) x506000 x506001 x506002 x506003) else (some false))) else (none)) else (spec_ModelOk.l2 k x3 0 x506000 x506001 x506002 x506003)
def spec_ModelOk.l2 : Nat → Int → Int → List ByteArray → List Int → Int → List (S68) → Option (Bool)
  | 0, _, _, _, _, _, _ => none
  | k + 1, x3, x6, x506000, x506001, x506002, x506003 => if x6 < (x506003.length : Int) then (if 0 ≤ x6 then ((spec_TreeOk.f k ((rd_T68 x506003 x6).f0) x3).bind fun t517 => (if t517 = true then (spec_ModelOk.l2 k x3 (wrap64 (x6 + 1)) x506000 x506001 x506002 x506003) else (some false))) else (none)) else (some true)
end
def spec_ModelOk.f (k : Nat) (l0_0 : List ByteArray) (l0_1 : List Int) (a0_2 : Int) (l0_3 : List (S68)) : Option (Bool) := (spec_l1In.f (l0_0.length : Int) 1 4).bind fun t506 => (if t506 = true then (if (l0_1.length : Int) = 0 then ((spec_l6Value.f a0_2).bind fun t507 => (if t507 = true then (spec_ModelOk.j0 k (l0_0.length : Int) (decide ((l0_3.length : Int) > 8)) l0_0 l0_1 a0_2 l0_3) else (spec_ModelOk.j0 k (l0_0.length : Int) true l0_0 l0_1 a0_2 l0_3))) else (if (l0_1.length : Int) = (l0_0.length : Int) then ((spec_l6Value.f a0_2).bind fun t508 => (if t508 = true then (spec_ModelOk.j0 k (l0_0.length : Int) (decide ((l0_3.length : Int) > 8)) l0_0 l0_1 a0_2 l0_3) else (spec_ModelOk.j0 k (l0_0.length : Int) true l0_0 l0_1 a0_2 l0_3))) else (spec_ModelOk.j0 k (l0_0.length : Int) true l0_0 l0_1 a0_2 l0_3))) else (spec_ModelOk.j0 k (l0_0.length : Int) true l0_0 l0_1 a0_2 l0_3))
set_option maxHeartbeats 8000000 in
set_option maxRecDepth 100000 in
theorem spec_ModelOk.calls (k : Nat) (A0_0 : Option Addr) (c0_0 : Nat) (l0_0 : List ByteArray) (A0_1 : Option Addr) (c0_1 : Nat) (l0_1 : List Int) (a0_2 : Int) (A0_3 : Option Addr) (c0_3 : Nat) (l0_3 : List (S68)) (r : Bool) (w : World) (hr0_0 : Kd.C Kd.string w A0_0 l0_0.length l0_0) (hc0_0 : l0_0.length ≤ c0_0) (hr0_1 : Kd.C (Kd.int .i64) w A0_1 l0_1.length l0_1) (hc0_1 : l0_1.length ≤ c0_1) (hr0_3 : Kd.C k68 w A0_3 l0_3.length l0_3) (hc0_3 : l0_3.length ≤ c0_3) (h : spec_ModelOk.f k l0_0 l0_1 a0_2 l0_3 = some r) :
    Calls Try.prog 37 #[.agg #[.slice A0_0 l0_0.length c0_0, .slice A0_1 l0_1.length c0_1, .int .i64 a0_2, .slice A0_3 l0_3.length c0_3]] w fun e w' => e = .returned (.bool r) ∧ Below w.heap.size w w' := by
 have hu46 := Try.underlying46
 have hu68 := Try.underlying68
 have HR0_0 := Aside0.mk hr0_0
 have HC0_0 := Aside0.mk hc0_0
 clear hr0_0 hc0_0
 have HR0_1 := Aside0.mk hr0_1
 have HC0_1 := Aside0.mk hc0_1
 clear hr0_1 hc0_1
 have HR0_3 := Aside0.mk hr0_3
 have HC0_3 := Aside0.mk hc0_3
 clear hr0_3 hc0_3
 have HB := Aside0.mk (Below.refl w.heap.size w)
 have H : ((spec_l1In.f (l0_0.length : Int) 1 4).bind fun t506 => (if t506 = true then (if (l0_1.length : Int) = 0 then ((spec_l6Value.f a0_2).bind fun t507 => (if t507 = true then (spec_ModelOk.j0 k (l0_0.length : Int) (decide ((l0_3.length : Int) > 8)) l0_0 l0_1 a0_2 l0_3) else (spec_ModelOk.j0 k (l0_0.length : Int) true l0_0 l0_1 a0_2 l0_3))) else (if (l0_1.length : Int) = (l0_0.length : Int) then ((spec_l6Value.f a0_2).bind fun t508 => (if t508 = true then (spec_ModelOk.j0 k (l0_0.length : Int) (decide ((l0_3.length : Int) > 8)) l0_0 l0_1 a0_2 l0_3) else (spec_ModelOk.j0 k (l0_0.length : Int) true l0_0 l0_1 a0_2 l0_3))) else (spec_ModelOk.j0 k (l0_0.length : Int) true l0_0 l0_1 a0_2 l0_3))) else (spec_ModelOk.j0 k (l0_0.length : Int) true l0_0 l0_1 a0_2 l0_3))) = some r := h
 clear h
 have HC2 := Aside0.mk H
 clear H
 go_enter Try.func37, Try.ntmps37
 go_upto_region 2 with (first | ((with_reducible refine gate_dst (N := 1) rfl ?_); (try (refine gate_guard (by rfl) ?_; dsimp only)); refine box_event ?hg (N := 1) ?hd (cs := #[.slice A0_0 l0_0.length c0_0, .slice A0_1 l0_1.length c0_1, .int .i64 a0_2, .slice A0_3 l0_3.length c0_3]) (t := 46) ?hr ?_; (case hd => rfl); (case hg => rfl); (case hr => exact g10); intro gb505 hg w3 hbox hb; have n_ := spec_ModelOk.K4_ (below_step (g4 HB.out) hb) hbox ((g11 HB.out : w.heap.size ≤ gb505)) ((g11 HB.out : w.heap.size ≤ gb505)); clear HB; obtain ⟨HB, BK505, GW505, GE505⟩ := n_; clear hb hbox hg; have hcz4_0 : w3.cell? ⟨gb505, 0, none⟩ = some (.slice A0_0 l0_0.length c0_0) := (blk_cell BK505.out 0).trans rfl; have hcz4_1 : w3.cell? ⟨gb505, 1, none⟩ = some (.slice A0_1 l0_1.length c0_1) := (blk_cell BK505.out 1).trans rfl; have hcz4_2 : w3.cell? ⟨gb505, 2, none⟩ = some (.int .i64 a0_2) := (blk_cell BK505.out 2).trans rfl; have hcz4_3 : w3.cell? ⟨gb505, 3, none⟩ = some (.slice A0_3 l0_3.length c0_3) := (blk_cell BK505.out 3).trans rfl; have hfz4_0 := blk_frozen BK505.out 0; have hfz4_1 := blk_frozen BK505.out 1; have hfz4_2 := blk_frozen BK505.out 2; have hfz4_3 := blk_frozen BK505.out 3))
 repeat (go_quiet (first | ((with_reducible refine gate_dst (N := 1) rfl ?_); (try (refine gate_guard (by rfl) ?_; dsimp only)); refine box_event ?hg (N := 1) ?hd (cs := #[.slice A0_0 l0_0.length c0_0, .slice A0_1 l0_1.length c0_1, .int .i64 a0_2, .slice A0_3 l0_3.length c0_3]) (t := 46) ?hr ?_; (case hd => rfl); (case hg => rfl); (case hr => exact g10); intro gb505 hg w3 hbox hb; have n0_ := Aside0.mk (below_step (g4 HB.out) hb); have n1_ := Aside0.mk (hbox); have n2_ := Aside0.mk ((g11 HB.out : w.heap.size ≤ gb505)); have n3_ := Aside0.mk ((g11 HB.out : w.heap.size ≤ gb505)); clear HB; have HB := n0_; have BK505 := n1_; have GW505 := n2_; have GE505 := n3_; clear n0_ n1_ n2_ n3_; clear hb hbox hg; have hcz4_0 : w3.cell? ⟨gb505, 0, none⟩ = some (.slice A0_0 l0_0.length c0_0) := (blk_cell BK505.out 0).trans rfl; have hcz4_1 : w3.cell? ⟨gb505, 1, none⟩ = some (.slice A0_1 l0_1.length c0_1) := (blk_cell BK505.out 1).trans rfl; have hcz4_2 : w3.cell? ⟨gb505, 2, none⟩ = some (.int .i64 a0_2) := (blk_cell BK505.out 2).trans rfl; have hcz4_3 : w3.cell? ⟨gb505, 3, none⟩ = some (.slice A0_3 l0_3.length c0_3) := (blk_cell BK505.out 3).trans rfl; have hfz4_0 := blk_frozen BK505.out 0; have hfz4_1 := blk_frozen BK505.out 1; have hfz4_2 := blk_frozen BK505.out 2; have hfz4_3 := blk_frozen BK505.out 3)); go_upto_region 2 with (first | ((with_reducible refine gate_dst (N := 1) rfl ?_); (try (refine gate_guard (by rfl) ?_; dsimp only)); refine box_event ?hg (N := 1) ?hd (cs := #[.slice A0_0 l0_0.length c0_0, .slice A0_1 l0_1.length c0_1, .int .i64 a0_2, .slice A0_3 l0_3.length c0_3]) (t := 46) ?hr ?_; (case hd => rfl); (case hg => rfl); (case hr => exact g10); intro gb505 hg w3 hbox hb; have n0_ := Aside0.mk (below_step (g4 HB.out) hb); have n1_ := Aside0.mk (hbox); have n2_ := Aside0.mk ((g11 HB.out : w.heap.size ≤ gb505)); have n3_ := Aside0.mk ((g11 HB.out : w.heap.size ≤ gb505)); clear HB; have HB := n0_; have BK505 := n1_; have GW505 := n2_; have GE505 := n3_; clear n0_ n1_ n2_ n3_; clear hb hbox hg; have hcz4_0 : w3.cell? ⟨gb505, 0, none⟩ = some (.slice A0_0 l0_0.length c0_0) := (blk_cell BK505.out 0).trans rfl; have hcz4_1 : w3.cell? ⟨gb505, 1, none⟩ = some (.slice A0_1 l0_1.length c0_1) := (blk_cell BK505.out 1).trans rfl; have hcz4_2 : w3.cell? ⟨gb505, 2, none⟩ = some (.int .i64 a0_2) := (blk_cell BK505.out 2).trans rfl; have hcz4_3 : w3.cell? ⟨gb505, 3, none⟩ = some (.slice A0_3 l0_3.length c0_3) := (blk_cell BK505.out 3).trans rfl; have hfz4_0 := blk_frozen BK505.out 0; have hfz4_1 := blk_frozen BK505.out 1; have hfz4_2 := blk_frozen BK505.out 2; have hfz4_3 := blk_frozen BK505.out 3)))
 (try simp only [Act.put, List.setIfInBounds_toArray, List.set_cons_zero, List.set_cons_succ])
 go_cut [37] (fun v37 wc => ∃ (kq : Nat) (x37_1 : Bool), v37 = .bool x37_1 ∧ Aside0 (spec_ModelOk.j0 kq (l0_0.length : Int) x37_1 l0_0 l0_1 a0_2 l0_3 = some r) ∧ Aside0 (kq ≤ k) ∧ Aside0 (wc.heap[gb505]? = some (.cells #[(.slice A0_0 l0_0.length c0_0), (.slice A0_1 l0_1.length c0_1), .int .i64 a0_2, (.slice A0_3 l0_3.length c0_3)] 46 (0, 0))) ∧ Aside0 (Below w.heap.size w wc))
 case first =>
  have H := HC2.out
  clear HC2
  replace H := Option.bind_eq_some_iff.mp H
  obtain ⟨t506, A50, H⟩ := H
  replace H : (if t506 = true then (if (l0_1.length : Int) = 0 then ((spec_l6Value.f a0_2).bind fun t507 => (if t507 = true then (spec_ModelOk.j0 k (l0_0.length : Int) (decide ((l0_3.length : Int) > 8)) l0_0 l0_1 a0_2 l0_3) else (spec_ModelOk.j0 k (l0_0.length : Int) true l0_0 l0_1 a0_2 l0_3))) else (if (l0_1.length : Int) = (l0_0.length : Int) then ((spec_l6Value.f a0_2).bind fun t508 => (if t508 = true then (spec_ModelOk.j0 k (l0_0.length : Int) (decide ((l0_3.length : Int) > 8)) l0_0 l0_1 a0_2 l0_3) else (spec_ModelOk.j0 k (l0_0.length : Int) true l0_0 l0_1 a0_2 l0_3))) else (spec_ModelOk.j0 k (l0_0.length : Int) true l0_0 l0_1 a0_2 l0_3))) else (spec_ModelOk.j0 k (l0_0.length : Int) true l0_0 l0_1 a0_2 l0_3)) = some r := H
  have A5 := Aside0.mk A50
  clear A50
  by_cases c6 : t506 = true
  case neg =>
   replace c6 := Bool.eq_false_iff.mpr c6
   subst c6
   have H1 : (spec_ModelOk.j0 k (l0_0.length : Int) true l0_0 l0_1 a0_2 l0_3) = some r := by rw [if_neg (show ¬ (false = true) by decide)] at H; exact H
   clear H
   have H := H1
   clear H1
   have H' := Aside0.mk H
   clear H
   go_wp2_with (first | (go_at_call 54; (with_reducible refine (spec_l1In.calls (l0_0.length : Int) 1 4 false _ A5.out).mono ?_); rintro e w' ⟨rfl, ⟨nd, rfl⟩⟩; (try first | exact ⟨rfl, _, World.drewN_drewN _ _ _⟩ | exact ⟨rfl, _, Eq.trans (World.drewN_drewN _ _ _) (congrArg (World.drewN _) (Nat.add_assoc _ _ _))⟩)))
   repeat (go_quiet (first | (go_at_call 54; (with_reducible refine (spec_l1In.calls (l0_0.length : Int) 1 4 false _ A5.out).mono ?_); rintro e w' ⟨rfl, ⟨nd, rfl⟩⟩; (try first | exact ⟨rfl, _, World.drewN_drewN _ _ _⟩ | exact ⟨rfl, _, Eq.trans (World.drewN_drewN _ _ _) (congrArg (World.drewN _) (Nat.add_assoc _ _ _))⟩))); try go_wp2_with (first | (go_at_call 54; (with_reducible refine (spec_l1In.calls (l0_0.length : Int) 1 4 false _ A5.out).mono ?_); rintro e w' ⟨rfl, ⟨nd, rfl⟩⟩; (try first | exact ⟨rfl, _, World.drewN_drewN _ _ _⟩ | exact ⟨rfl, _, Eq.trans (World.drewN_drewN _ _ _) (congrArg (World.drewN _) (Nat.add_assoc _ _ _))⟩))))
   go_meet
   case rel => exact ⟨_, (true), (g0), H', ⟨by first | omega | exact Nat.le_refl _⟩, ⟨g2 BK505.out⟩, ⟨g12 HB.out GE505.out⟩⟩
  subst c6
  have H1 : (if (l0_1.length : Int) = 0 then ((spec_l6Value.f a0_2).bind fun t507 => (if t507 = true then (spec_ModelOk.j0 k (l0_0.length : Int) (decide ((l0_3.length : Int) > 8)) l0_0 l0_1 a0_2 l0_3) else (spec_ModelOk.j0 k (l0_0.length : Int) true l0_0 l0_1 a0_2 l0_3))) else (if (l0_1.length : Int) = (l0_0.length : Int) then ((spec_l6Value.f a0_2).bind fun t508 => (if t508 = true then (spec_ModelOk.j0 k (l0_0.length : Int) (decide ((l0_3.length : Int) > 8)) l0_0 l0_1 a0_2 l0_3) else (spec_ModelOk.j0 k (l0_0.length : Int) true l0_0 l0_1 a0_2 l0_3))) else (spec_ModelOk.j0 k (l0_0.length : Int) true l0_0 l0_1 a0_2 l0_3))) = some r := by rw [if_pos rfl] at H; exact H
  clear H
  have H := H1
  clear H1
  by_cases c7 : (l0_1.length : Int) = 0
  case pos =>
   rw [if_pos c7] at H
   have c7b0 : ((l0_1.length : Int) == 0) = true := beq_iff_eq.mpr c7
   have c7b1 : ((l0_1.length : Int) != 0) = false := bne_eq_false_iff_eq.mpr c7
   clear c7
   (first | rw [c7b0] | (simp only [i64_w, i32_w]; rw [c7b0]) | skip)
   replace H := Option.bind_eq_some_iff.mp H
   obtain ⟨t507, A80, H⟩ := H
   replace H : (if t507 = true then (spec_ModelOk.j0 k (l0_0.length : Int) (decide ((l0_3.length : Int) > 8)) l0_0 l0_1 a0_2 l0_3) else (spec_ModelOk.j0 k (l0_0.length : Int) true l0_0 l0_1 a0_2 l0_3)) = some r := H
   have A8 := Aside0.mk A80
   clear A80
   by_cases c9 : t507 = true
   case pos =>
    subst c9
    have H1 : (spec_ModelOk.j0 k (l0_0.length : Int) (decide ((l0_3.length : Int) > 8)) l0_0 l0_1 a0_2 l0_3) = some r := by rw [if_pos rfl] at H; exact H
    clear H
    have H := H1
    clear H1
    have H' := Aside0.mk H
    clear H
    go_wp2_with (first | (go_at_call 54; (with_reducible refine (spec_l1In.calls (l0_0.length : Int) 1 4 true _ A5.out).mono ?_); rintro e w' ⟨rfl, ⟨nd, rfl⟩⟩; (try first | exact ⟨rfl, _, World.drewN_drewN _ _ _⟩ | exact ⟨rfl, _, Eq.trans (World.drewN_drewN _ _ _) (congrArg (World.drewN _) (Nat.add_assoc _ _ _))⟩); have hcz10_0 : w3.cell? ⟨gb505, 0, none⟩ = some (.slice A0_0 l0_0.length c0_0) := (blk_cell BK505.out 0).trans rfl; have hcz10_1 : w3.cell? ⟨gb505, 1, none⟩ = some (.slice A0_1 l0_1.length c0_1) := (blk_cell BK505.out 1).trans rfl; have hcz10_2 : w3.cell? ⟨gb505, 2, none⟩ = some (.int .i64 a0_2) := (blk_cell BK505.out 2).trans rfl; have hcz10_3 : w3.cell? ⟨gb505, 3, none⟩ = some (.slice A0_3 l0_3.length c0_3) := (blk_cell BK505.out 3).trans rfl; have hfz10_0 := blk_frozen BK505.out 0; have hfz10_1 := blk_frozen BK505.out 1; have hfz10_2 := blk_frozen BK505.out 2; have hfz10_3 := blk_frozen BK505.out 3) | (go_at_call 85; (with_reducible refine (spec_l6Value.calls a0_2 true _ A8.out).mono ?_); rintro e w' ⟨rfl, ⟨nd, rfl⟩⟩; (try first | exact ⟨rfl, _, World.drewN_drewN _ _ _⟩ | exact ⟨rfl, _, Eq.trans (World.drewN_drewN _ _ _) (congrArg (World.drewN _) (Nat.add_assoc _ _ _))⟩)))
    repeat (go_quiet (first | (go_at_call 54; (with_reducible refine (spec_l1In.calls (l0_0.length : Int) 1 4 true _ A5.out).mono ?_); rintro e w' ⟨rfl, ⟨nd, rfl⟩⟩; (try first | exact ⟨rfl, _, World.drewN_drewN _ _ _⟩ | exact ⟨rfl, _, Eq.trans (World.drewN_drewN _ _ _) (congrArg (World.drewN _) (Nat.add_assoc _ _ _))⟩); have hcz10_0 : w3.cell? ⟨gb505, 0, none⟩ = some (.slice A0_0 l0_0.length c0_0) := (blk_cell BK505.out 0).trans rfl; have hcz10_1 : w3.cell? ⟨gb505, 1, none⟩ = some (.slice A0_1 l0_1.length c0_1) := (blk_cell BK505.out 1).trans rfl; have hcz10_2 : w3.cell? ⟨gb505, 2, none⟩ = some (.int .i64 a0_2) := (blk_cell BK505.out 2).trans rfl; have hcz10_3 : w3.cell? ⟨gb505, 3, none⟩ = some (.slice A0_3 l0_3.length c0_3) := (blk_cell BK505.out 3).trans rfl; have hfz10_0 := blk_frozen BK505.out 0; have hfz10_1 := blk_frozen BK505.out 1; have hfz10_2 := blk_frozen BK505.out 2; have hfz10_3 := blk_frozen BK505.out 3) | (go_at_call 85; (with_reducible refine (spec_l6Value.calls a0_2 true _ A8.out).mono ?_); rintro e w' ⟨rfl, ⟨nd, rfl⟩⟩; (try first | exact ⟨rfl, _, World.drewN_drewN _ _ _⟩ | exact ⟨rfl, _, Eq.trans (World.drewN_drewN _ _ _) (congrArg (World.drewN _) (Nat.add_assoc _ _ _))⟩))); try go_wp2_with (first | (go_at_call 54; (with_reducible refine (spec_l1In.calls (l0_0.length : Int) 1 4 true _ A5.out).mono ?_); rintro e w' ⟨rfl, ⟨nd, rfl⟩⟩; (try first | exact ⟨rfl, _, World.drewN_drewN _ _ _⟩ | exact ⟨rfl, _, Eq.trans (World.drewN_drewN _ _ _) (congrArg (World.drewN _) (Nat.add_assoc _ _ _))⟩); have hcz10_0 : w3.cell? ⟨gb505, 0, none⟩ = some (.slice A0_0 l0_0.length c0_0) := (blk_cell BK505.out 0).trans rfl; have hcz10_1 : w3.cell? ⟨gb505, 1, none⟩ = some (.slice A0_1 l0_1.length c0_1) := (blk_cell BK505.out 1).trans rfl; have hcz10_2 : w3.cell? ⟨gb505, 2, none⟩ = some (.int .i64 a0_2) := (blk_cell BK505.out 2).trans rfl; have hcz10_3 : w3.cell? ⟨gb505, 3, none⟩ = some (.slice A0_3 l0_3.length c0_3) := (blk_cell BK505.out 3).trans rfl; have hfz10_0 := blk_frozen BK505.out 0; have hfz10_1 := blk_frozen BK505.out 1; have hfz10_2 := blk_frozen BK505.out 2; have hfz10_3 := blk_frozen BK505.out 3) | (go_at_call 85; (with_reducible refine (spec_l6Value.calls a0_2 true _ A8.out).mono ?_); rintro e w' ⟨rfl, ⟨nd, rfl⟩⟩; (try first | exact ⟨rfl, _, World.drewN_drewN _ _ _⟩ | exact ⟨rfl, _, Eq.trans (World.drewN_drewN _ _ _) (congrArg (World.drewN _) (Nat.add_assoc _ _ _))⟩))))
    go_meet
    case rel => exact ⟨_, (decide ((l0_3.length : Int) > 8)), (g0), H', ⟨by first | omega | exact Nat.le_refl _⟩, ⟨g2 BK505.out⟩, ⟨g12 HB.out GE505.out⟩⟩
   replace c9 := Bool.eq_false_iff.mpr c9
   subst c9
   have H1 : (spec_ModelOk.j0 k (l0_0.length : Int) true l0_0 l0_1 a0_2 l0_3) = some r := by rw [if_neg (show ¬ (false = true) by decide)] at H; exact H
   clear H
   have H := H1
   clear H1
   have H' := Aside0.mk H
   clear H
   go_wp2_with (first | (go_at_call 54; (with_reducible refine (spec_l1In.calls (l0_0.length : Int) 1 4 true _ A5.out).mono ?_); rintro e w' ⟨rfl, ⟨nd, rfl⟩⟩; (try first | exact ⟨rfl, _, World.drewN_drewN _ _ _⟩ | exact ⟨rfl, _, Eq.trans (World.drewN_drewN _ _ _) (congrArg (World.drewN _) (Nat.add_assoc _ _ _))⟩); have hcz11_0 : w3.cell? ⟨gb505, 0, none⟩ = some (.slice A0_0 l0_0.length c0_0) := (blk_cell BK505.out 0).trans rfl; have hcz11_1 : w3.cell? ⟨gb505, 1, none⟩ = some (.slice A0_1 l0_1.length c0_1) := (blk_cell BK505.out 1).trans rfl; have hcz11_2 : w3.cell? ⟨gb505, 2, none⟩ = some (.int .i64 a0_2) := (blk_cell BK505.out 2).trans rfl; have hcz11_3 : w3.cell? ⟨gb505, 3, none⟩ = some (.slice A0_3 l0_3.length c0_3) := (blk_cell BK505.out 3).trans rfl; have hfz11_0 := blk_frozen BK505.out 0; have hfz11_1 := blk_frozen BK505.out 1; have hfz11_2 := blk_frozen BK505.out 2; have hfz11_3 := blk_frozen BK505.out 3) | (go_at_call 85; (with_reducible refine (spec_l6Value.calls a0_2 false _ A8.out).mono ?_); rintro e w' ⟨rfl, ⟨nd, rfl⟩⟩; (try first | exact ⟨rfl, _, World.drewN_drewN _ _ _⟩ | exact ⟨rfl, _, Eq.trans (World.drewN_drewN _ _ _) (congrArg (World.drewN _) (Nat.add_assoc _ _ _))⟩)))
   repeat (go_quiet (first | (go_at_call 54; (with_reducible refine (spec_l1In.calls (l0_0.length : Int) 1 4 true _ A5.out).mono ?_); rintro e w' ⟨rfl, ⟨nd, rfl⟩⟩; (try first | exact ⟨rfl, _, World.drewN_drewN _ _ _⟩ | exact ⟨rfl, _, Eq.trans (World.drewN_drewN _ _ _) (congrArg (World.drewN _) (Nat.add_assoc _ _ _))⟩); have hcz11_0 : w3.cell? ⟨gb505, 0, none⟩ = some (.slice A0_0 l0_0.length c0_0) := (blk_cell BK505.out 0).trans rfl; have hcz11_1 : w3.cell? ⟨gb505, 1, none⟩ = some (.slice A0_1 l0_1.length c0_1) := (blk_cell BK505.out 1).trans rfl; have hcz11_2 : w3.cell? ⟨gb505, 2, none⟩ = some (.int .i64 a0_2) := (blk_cell BK505.out 2).trans rfl; have hcz11_3 : w3.cell? ⟨gb505, 3, none⟩ = some (.slice A0_3 l0_3.length c0_3) := (blk_cell BK505.out 3).trans rfl; have hfz11_0 := blk_frozen BK505.out 0; have hfz11_1 := blk_frozen BK505.out 1; have hfz11_2 := blk_frozen BK505.out 2; have hfz11_3 := blk_frozen BK505.out 3) | (go_at_call 85; (with_reducible refine (spec_l6Value.calls a0_2 false _ A8.out).mono ?_); rintro e w' ⟨rfl, ⟨nd, rfl⟩⟩; (try first | exact ⟨rfl, _, World.drewN_drewN _ _ _⟩ | exact ⟨rfl, _, Eq.trans (World.drewN_drewN _ _ _) (congrArg (World.drewN _) (Nat.add_assoc _ _ _))⟩))); try go_wp2_with (first | (go_at_call 54; (with_reducible refine (spec_l1In.calls (l0_0.length : Int) 1 4 true _ A5.out).mono ?_); rintro e w' ⟨rfl, ⟨nd, rfl⟩⟩; (try first | exact ⟨rfl, _, World.drewN_drewN _ _ _⟩ | exact ⟨rfl, _, Eq.trans (World.drewN_drewN _ _ _) (congrArg (World.drewN _) (Nat.add_assoc _ _ _))⟩); have hcz11_0 : w3.cell? ⟨gb505, 0, none⟩ = some (.slice A0_0 l0_0.length c0_0) := (blk_cell BK505.out 0).trans rfl; have hcz11_1 : w3.cell? ⟨gb505, 1, none⟩ = some (.slice A0_1 l0_1.length c0_1) := (blk_cell BK505.out 1).trans rfl; have hcz11_2 : w3.cell? ⟨gb505, 2, none⟩ = some (.int .i64 a0_2) := (blk_cell BK505.out 2).trans rfl; have hcz11_3 : w3.cell? ⟨gb505, 3, none⟩ = some (.slice A0_3 l0_3.length c0_3) := (blk_cell BK505.out 3).trans rfl; have hfz11_0 := blk_frozen BK505.out 0; have hfz11_1 := blk_frozen BK505.out 1; have hfz11_2 := blk_frozen BK505.out 2; have hfz11_3 := blk_frozen BK505.out 3) | (go_at_call 85; (with_reducible refine (spec_l6Value.calls a0_2 false _ A8.out).mono ?_); rintro e w' ⟨rfl, ⟨nd, rfl⟩⟩; (try first | exact ⟨rfl, _, World.drewN_drewN _ _ _⟩ | exact ⟨rfl, _, Eq.trans (World.drewN_drewN _ _ _) (congrArg (World.drewN _) (Nat.add_assoc _ _ _))⟩))))
   go_meet
   case rel => exact ⟨_, (true), (g0), H', ⟨by first | omega | exact Nat.le_refl _⟩, ⟨g2 BK505.out⟩, ⟨g12 HB.out GE505.out⟩⟩
  rw [if_neg c7] at H
  have c7b0 : ((l0_1.length : Int) == 0) = false := beq_eq_false_iff_ne.mpr c7
  have c7b1 : ((l0_1.length : Int) != 0) = true := bne_iff_ne.mpr c7
  have c7b2 : ¬ (l0_1 = []) := fun h_ => c7 (by rw [h_]; rfl)
  (first | rw [c7b0] | (simp only [i64_w, i32_w]; rw [c7b0]) | skip)
  by_cases c12 : (l0_1.length : Int) = (l0_0.length : Int)
  case neg =>
   rw [if_neg c12] at H
   have c12b0 : ((l0_1.length : Int) == (l0_0.length : Int)) = false := beq_eq_false_iff_ne.mpr c12
   have c12b1 : ((l0_1.length : Int) != (l0_0.length : Int)) = true := bne_iff_ne.mpr c12
   have c12b2 : (l0_1.length == l0_0.length) = false := by first | simpa using c12 | (simp at c12 ⊢; omega)
   have H' := Aside0.mk H
   clear H
   go_wp2_with (first | (go_at_call 54; (with_reducible refine (spec_l1In.calls (l0_0.length : Int) 1 4 true _ A5.out).mono ?_); rintro e w' ⟨rfl, ⟨nd, rfl⟩⟩; (try first | exact ⟨rfl, _, World.drewN_drewN _ _ _⟩ | exact ⟨rfl, _, Eq.trans (World.drewN_drewN _ _ _) (congrArg (World.drewN _) (Nat.add_assoc _ _ _))⟩); have hcz17_0 : w3.cell? ⟨gb505, 0, none⟩ = some (.slice A0_0 l0_0.length c0_0) := (blk_cell BK505.out 0).trans rfl; have hcz17_1 : w3.cell? ⟨gb505, 1, none⟩ = some (.slice A0_1 l0_1.length c0_1) := (blk_cell BK505.out 1).trans rfl; have hcz17_2 : w3.cell? ⟨gb505, 2, none⟩ = some (.int .i64 a0_2) := (blk_cell BK505.out 2).trans rfl; have hcz17_3 : w3.cell? ⟨gb505, 3, none⟩ = some (.slice A0_3 l0_3.length c0_3) := (blk_cell BK505.out 3).trans rfl; have hfz17_0 := blk_frozen BK505.out 0; have hfz17_1 := blk_frozen BK505.out 1; have hfz17_2 := blk_frozen BK505.out 2; have hfz17_3 := blk_frozen BK505.out 3))
   repeat (go_quiet (first | (go_at_call 54; (with_reducible refine (spec_l1In.calls (l0_0.length : Int) 1 4 true _ A5.out).mono ?_); rintro e w' ⟨rfl, ⟨nd, rfl⟩⟩; (try first | exact ⟨rfl, _, World.drewN_drewN _ _ _⟩ | exact ⟨rfl, _, Eq.trans (World.drewN_drewN _ _ _) (congrArg (World.drewN _) (Nat.add_assoc _ _ _))⟩); have hcz17_0 : w3.cell? ⟨gb505, 0, none⟩ = some (.slice A0_0 l0_0.length c0_0) := (blk_cell BK505.out 0).trans rfl; have hcz17_1 : w3.cell? ⟨gb505, 1, none⟩ = some (.slice A0_1 l0_1.length c0_1) := (blk_cell BK505.out 1).trans rfl; have hcz17_2 : w3.cell? ⟨gb505, 2, none⟩ = some (.int .i64 a0_2) := (blk_cell BK505.out 2).trans rfl; have hcz17_3 : w3.cell? ⟨gb505, 3, none⟩ = some (.slice A0_3 l0_3.length c0_3) := (blk_cell BK505.out 3).trans rfl; have hfz17_0 := blk_frozen BK505.out 0; have hfz17_1 := blk_frozen BK505.out 1; have hfz17_2 := blk_frozen BK505.out 2; have hfz17_3 := blk_frozen BK505.out 3)); try go_wp2_with (first | (go_at_call 54; (with_reducible refine (spec_l1In.calls (l0_0.length : Int) 1 4 true _ A5.out).mono ?_); rintro e w' ⟨rfl, ⟨nd, rfl⟩⟩; (try first | exact ⟨rfl, _, World.drewN_drewN _ _ _⟩ | exact ⟨rfl, _, Eq.trans (World.drewN_drewN _ _ _) (congrArg (World.drewN _) (Nat.add_assoc _ _ _))⟩); have hcz17_0 : w3.cell? ⟨gb505, 0, none⟩ = some (.slice A0_0 l0_0.length c0_0) := (blk_cell BK505.out 0).trans rfl; have hcz17_1 : w3.cell? ⟨gb505, 1, none⟩ = some (.slice A0_1 l0_1.length c0_1) := (blk_cell BK505.out 1).trans rfl; have hcz17_2 : w3.cell? ⟨gb505, 2, none⟩ = some (.int .i64 a0_2) := (blk_cell BK505.out 2).trans rfl; have hcz17_3 : w3.cell? ⟨gb505, 3, none⟩ = some (.slice A0_3 l0_3.length c0_3) := (blk_cell BK505.out 3).trans rfl; have hfz17_0 := blk_frozen BK505.out 0; have hfz17_1 := blk_frozen BK505.out 1; have hfz17_2 := blk_frozen BK505.out 2; have hfz17_3 := blk_frozen BK505.out 3)))
   go_meet
   case rel => exact ⟨_, (true), (g0), H', ⟨by first | omega | exact Nat.le_refl _⟩, ⟨g2 BK505.out⟩, ⟨g12 HB.out GE505.out⟩⟩
  rw [if_pos c12] at H
  have c12b0 : ((l0_1.length : Int) == (l0_0.length : Int)) = true := beq_iff_eq.mpr c12
  have c12b1 : ((l0_1.length : Int) != (l0_0.length : Int)) = false := bne_eq_false_iff_eq.mpr c12
  have c12b2 : (l0_1.length == l0_0.length) = true := by first | simpa using c12 | (simp at c12 ⊢; omega)
  clear c12
  replace H := Option.bind_eq_some_iff.mp H
  obtain ⟨t508, A130, H⟩ := H
  replace H : (if t508 = true then (spec_ModelOk.j0 k (l0_0.length : Int) (decide ((l0_3.length : Int) > 8)) l0_0 l0_1 a0_2 l0_3) else (spec_ModelOk.j0 k (l0_0.length : Int) true l0_0 l0_1 a0_2 l0_3)) = some r := H
  have A13 := Aside0.mk A130
  clear A130
  by_cases c14 : t508 = true
  case pos =>
   subst c14
   have H1 : (spec_ModelOk.j0 k (l0_0.length : Int) (decide ((l0_3.length : Int) > 8)) l0_0 l0_1 a0_2 l0_3) = some r := by rw [if_pos rfl] at H; exact H
   clear H
   have H := H1
   clear H1
   have H' := Aside0.mk H
   clear H
   go_wp2_with (first | (go_at_call 54; (with_reducible refine (spec_l1In.calls (l0_0.length : Int) 1 4 true _ A5.out).mono ?_); rintro e w' ⟨rfl, ⟨nd, rfl⟩⟩; (try first | exact ⟨rfl, _, World.drewN_drewN _ _ _⟩ | exact ⟨rfl, _, Eq.trans (World.drewN_drewN _ _ _) (congrArg (World.drewN _) (Nat.add_assoc _ _ _))⟩); have hcz15_0 : w3.cell? ⟨gb505, 0, none⟩ = some (.slice A0_0 l0_0.length c0_0) := (blk_cell BK505.out 0).trans rfl; have hcz15_1 : w3.cell? ⟨gb505, 1, none⟩ = some (.slice A0_1 l0_1.length c0_1) := (blk_cell BK505.out 1).trans rfl; have hcz15_2 : w3.cell? ⟨gb505, 2, none⟩ = some (.int .i64 a0_2) := (blk_cell BK505.out 2).trans rfl; have hcz15_3 : w3.cell? ⟨gb505, 3, none⟩ = some (.slice A0_3 l0_3.length c0_3) := (blk_cell BK505.out 3).trans rfl; have hfz15_0 := blk_frozen BK505.out 0; have hfz15_1 := blk_frozen BK505.out 1; have hfz15_2 := blk_frozen BK505.out 2; have hfz15_3 := blk_frozen BK505.out 3) | (go_at_call 85; (with_reducible refine (spec_l6Value.calls a0_2 true _ A13.out).mono ?_); rintro e w' ⟨rfl, ⟨nd, rfl⟩⟩; (try first | exact ⟨rfl, _, World.drewN_drewN _ _ _⟩ | exact ⟨rfl, _, Eq.trans (World.drewN_drewN _ _ _) (congrArg (World.drewN _) (Nat.add_assoc _ _ _))⟩)))
   repeat (go_quiet (first | (go_at_call 54; (with_reducible refine (spec_l1In.calls (l0_0.length : Int) 1 4 true _ A5.out).mono ?_); rintro e w' ⟨rfl, ⟨nd, rfl⟩⟩; (try first | exact ⟨rfl, _, World.drewN_drewN _ _ _⟩ | exact ⟨rfl, _, Eq.trans (World.drewN_drewN _ _ _) (congrArg (World.drewN _) (Nat.add_assoc _ _ _))⟩); have hcz15_0 : w3.cell? ⟨gb505, 0, none⟩ = some (.slice A0_0 l0_0.length c0_0) := (blk_cell BK505.out 0).trans rfl; have hcz15_1 : w3.cell? ⟨gb505, 1, none⟩ = some (.slice A0_1 l0_1.length c0_1) := (blk_cell BK505.out 1).trans rfl; have hcz15_2 : w3.cell? ⟨gb505, 2, none⟩ = some (.int .i64 a0_2) := (blk_cell BK505.out 2).trans rfl; have hcz15_3 : w3.cell? ⟨gb505, 3, none⟩ = some (.slice A0_3 l0_3.length c0_3) := (blk_cell BK505.out 3).trans rfl; have hfz15_0 := blk_frozen BK505.out 0; have hfz15_1 := blk_frozen BK505.out 1; have hfz15_2 := blk_frozen BK505.out 2; have hfz15_3 := blk_frozen BK505.out 3) | (go_at_call 85; (with_reducible refine (spec_l6Value.calls a0_2 true _ A13.out).mono ?_); rintro e w' ⟨rfl, ⟨nd, rfl⟩⟩; (try first | exact ⟨rfl, _, World.drewN_drewN _ _ _⟩ | exact ⟨rfl, _, Eq.trans (World.drewN_drewN _ _ _) (congrArg (World.drewN _) (Nat.add_assoc _ _ _))⟩))); try go_wp2_with (first | (go_at_call 54; (with_reducible refine (spec_l1In.calls (l0_0.length : Int) 1 4 true _ A5.out).mono ?_); rintro e w' ⟨rfl, ⟨nd, rfl⟩⟩; (try first | exact ⟨rfl, _, World.drewN_drewN _ _ _⟩ | exact ⟨rfl, _, Eq.trans (World.drewN_drewN _ _ _) (congrArg (World.drewN _) (Nat.add_assoc _ _ _))⟩); have hcz15_0 : w3.cell? ⟨gb505, 0, none⟩ = some (.slice A0_0 l0_0.length c0_0) := (blk_cell BK505.out 0).trans rfl; have hcz15_1 : w3.cell? ⟨gb505, 1, none⟩ = some (.slice A0_1 l0_1.length c0_1) := (blk_cell BK505.out 1).trans rfl; have hcz15_2 : w3.cell? ⟨gb505, 2, none⟩ = some (.int .i64 a0_2) := (blk_cell BK505.out 2).trans rfl; have hcz15_3 : w3.cell? ⟨gb505, 3, none⟩ = some (.slice A0_3 l0_3.length c0_3) := (blk_cell BK505.out 3).trans rfl; have hfz15_0 := blk_frozen BK505.out 0; have hfz15_1 := blk_frozen BK505.out 1; have hfz15_2 := blk_frozen BK505.out 2; have hfz15_3 := blk_frozen BK505.out 3) | (go_at_call 85; (with_reducible refine (spec_l6Value.calls a0_2 true _ A13.out).mono ?_); rintro e w' ⟨rfl, ⟨nd, rfl⟩⟩; (try first | exact ⟨rfl, _, World.drewN_drewN _ _ _⟩ | exact ⟨rfl, _, Eq.trans (World.drewN_drewN _ _ _) (congrArg (World.drewN _) (Nat.add_assoc _ _ _))⟩))))
   go_meet
   case rel => exact ⟨_, (decide ((l0_3.length : Int) > 8)), (g0), H', ⟨by first | omega | exact Nat.le_refl _⟩, ⟨g2 BK505.out⟩, ⟨g12 HB.out GE505.out⟩⟩
  replace c14 := Bool.eq_false_iff.mpr c14
  subst c14
  have H1 : (spec_ModelOk.j0 k (l0_0.length : Int) true l0_0 l0_1 a0_2 l0_3) = some r := by rw [if_neg (show ¬ (false = true) by decide)] at H; exact H
  clear H
  have H := H1
  clear H1
  have H' := Aside0.mk H
  clear H
  go_wp2_with (first | (go_at_call 54; (with_reducible refine (spec_l1In.calls (l0_0.length : Int) 1 4 true _ A5.out).mono ?_); rintro e w' ⟨rfl, ⟨nd, rfl⟩⟩; (try first | exact ⟨rfl, _, World.drewN_drewN _ _ _⟩ | exact ⟨rfl, _, Eq.trans (World.drewN_drewN _ _ _) (congrArg (World.drewN _) (Nat.add_assoc _ _ _))⟩); have hcz16_0 : w3.cell? ⟨gb505, 0, none⟩ = some (.slice A0_0 l0_0.length c0_0) := (blk_cell BK505.out 0).trans rfl; have hcz16_1 : w3.cell? ⟨gb505, 1, none⟩ = some (.slice A0_1 l0_1.length c0_1) := (blk_cell BK505.out 1).trans rfl; have hcz16_2 : w3.cell? ⟨gb505, 2, none⟩ = some (.int .i64 a0_2) := (blk_cell BK505.out 2).trans rfl; have hcz16_3 : w3.cell? ⟨gb505, 3, none⟩ = some (.slice A0_3 l0_3.length c0_3) := (blk_cell BK505.out 3).trans rfl; have hfz16_0 := blk_frozen BK505.out 0; have hfz16_1 := blk_frozen BK505.out 1; have hfz16_2 := blk_frozen BK505.out 2; have hfz16_3 := blk_frozen BK505.out 3) | (go_at_call 85; (with_reducible refine (spec_l6Value.calls a0_2 false _ A13.out).mono ?_); rintro e w' ⟨rfl, ⟨nd, rfl⟩⟩; (try first | exact ⟨rfl, _, World.drewN_drewN _ _ _⟩ | exact ⟨rfl, _, Eq.trans (World.drewN_drewN _ _ _) (congrArg (World.drewN _) (Nat.add_assoc _ _ _))⟩)))
  repeat (go_quiet (first | (go_at_call 54; (with_reducible refine (spec_l1In.calls (l0_0.length : Int) 1 4 true _ A5.out).mono ?_); rintro e w' ⟨rfl, ⟨nd, rfl⟩⟩; (try first | exact ⟨rfl, _, World.drewN_drewN _ _ _⟩ | exact ⟨rfl, _, Eq.trans (World.drewN_drewN _ _ _) (congrArg (World.drewN _) (Nat.add_assoc _ _ _))⟩); have hcz16_0 : w3.cell? ⟨gb505, 0, none⟩ = some (.slice A0_0 l0_0.length c0_0) := (blk_cell BK505.out 0).trans rfl; have hcz16_1 : w3.cell? ⟨gb505, 1, none⟩ = some (.slice A0_1 l0_1.length c0_1) := (blk_cell BK505.out 1).trans rfl; have hcz16_2 : w3.cell? ⟨gb505, 2, none⟩ = some (.int .i64 a0_2) := (blk_cell BK505.out 2).trans rfl; have hcz16_3 : w3.cell? ⟨gb505, 3, none⟩ = some (.slice A0_3 l0_3.length c0_3) := (blk_cell BK505.out 3).trans rfl; have hfz16_0 := blk_frozen BK505.out 0; have hfz16_1 := blk_frozen BK505.out 1; have hfz16_2 := blk_frozen BK505.out 2; have hfz16_3 := blk_frozen BK505.out 3) | (go_at_call 85; (with_reducible refine (spec_l6Value.calls a0_2 false _ A13.out).mono ?_); rintro e w' ⟨rfl, ⟨nd, rfl⟩⟩; (try first | exact ⟨rfl, _, World.drewN_drewN _ _ _⟩ | exact ⟨rfl, _, Eq.trans (World.drewN_drewN _ _ _) (congrArg (World.drewN _) (Nat.add_assoc _ _ _))⟩))); try go_wp2_with (first | (go_at_call 54; (with_reducible refine (spec_l1In.calls (l0_0.length : Int) 1 4 true _ A5.out).mono ?_); rintro e w' ⟨rfl, ⟨nd, rfl⟩⟩; (try first | exact ⟨rfl, _, World.drewN_drewN _ _ _⟩ | exact ⟨rfl, _, Eq.trans (World.drewN_drewN _ _ _) (congrArg (World.drewN _) (Nat.add_assoc _ _ _))⟩); have hcz16_0 : w3.cell? ⟨gb505, 0, none⟩ = some (.slice A0_0 l0_0.length c0_0) := (blk_cell BK505.out 0).trans rfl; have hcz16_1 : w3.cell? ⟨gb505, 1, none⟩ = some (.slice A0_1 l0_1.length c0_1) := (blk_cell BK505.out 1).trans rfl; have hcz16_2 : w3.cell? ⟨gb505, 2, none⟩ = some (.int .i64 a0_2) := (blk_cell BK505.out 2).trans rfl; have hcz16_3 : w3.cell? ⟨gb505, 3, none⟩ = some (.slice A0_3 l0_3.length c0_3) := (blk_cell BK505.out 3).trans rfl; have hfz16_0 := blk_frozen BK505.out 0; have hfz16_1 := blk_frozen BK505.out 1; have hfz16_2 := blk_frozen BK505.out 2; have hfz16_3 := blk_frozen BK505.out 3) | (go_at_call 85; (with_reducible refine (spec_l6Value.calls a0_2 false _ A13.out).mono ?_); rintro e w' ⟨rfl, ⟨nd, rfl⟩⟩; (try first | exact ⟨rfl, _, World.drewN_drewN _ _ _⟩ | exact ⟨rfl, _, Eq.trans (World.drewN_drewN _ _ _) (congrArg (World.drewN _) (Nat.add_assoc _ _ _))⟩))))
  go_meet
  case rel => exact ⟨_, (true), (g0), H', ⟨by first | omega | exact Nat.le_refl _⟩, ⟨g2 BK505.out⟩, ⟨g12 HB.out GE505.out⟩⟩
 case rest =>
  clear HC2
  try clear c1
  try clear p2
  try clear c3
  try clear c6
  try clear c7
  try clear c7b0
  try clear c7b1
  try clear c7b2
  try clear c9
  try clear c12
  try clear c12b0
  try clear c12b1
  try clear c12b2
  try clear c14
  try clear hcz10_0
  try clear hcz10_1
  try clear hcz10_2
  try clear hcz10_3
  try clear hcz11_0
  try clear hcz11_1
  try clear hcz11_2
  try clear hcz11_3
  try clear hcz15_0
  try clear hcz15_1
  try clear hcz15_2
  try clear hcz15_3
  try clear hcz16_0
  try clear hcz16_1
  try clear hcz16_2
  try clear hcz16_3
  try clear hcz17_0
  try clear hcz17_1
  try clear hcz17_2
  try clear hcz17_3
  try clear hcz4_0
  try clear hcz4_1
  try clear hcz4_2
  try clear hcz4_3
  try clear hfz10_0
  try clear hfz10_1
  try clear hfz10_2
  try clear hfz10_3
  try clear hfz11_0
  try clear hfz11_1
  try clear hfz11_2
  try clear hfz11_3
  try clear hfz15_0
  try clear hfz15_1
  try clear hfz15_2
  try clear hfz15_3
  try clear hfz16_0
  try clear hfz16_1
  try clear hfz16_2
  try clear hfz16_3
  try clear hfz17_0
  try clear hfz17_1
  try clear hfz17_2
  try clear hfz17_3
  try clear hfz4_0
  try clear hfz4_1
  try clear hfz4_2
  try clear hfz4_3
  obtain ⟨kq, x37_1, rfl, HA, HJ1, BK505, HB⟩ := hcut
  cases kq with
  | zero => exact absurd HA.out (by simp [spec_ModelOk.j0])
  | succ kj1 =>
   have H := HA.out
   clear HA
   simp only [spec_ModelOk.j0] at H
   by_cases c18 : x37_1 = true
   case pos =>
    subst c18
    have H1 : (some false) = some r := by rw [if_pos rfl] at H; exact H
    clear H
    have H := H1
    clear H1
    obtain rfl := Option.some.inj H
    go_wp2
    repeat (go_quiet (fail); try go_wp2)
    go_ret
    exact ⟨g5, g12 HB.out GE505.out⟩
   replace c18 := Bool.eq_false_iff.mpr c18
   subst c18
   have H1 : (spec_ModelOk.l0 kj1 (l0_0.length : Int) 0 l0_0 l0_1 a0_2 l0_3) = some r := by rw [if_neg (show ¬ (false = true) by decide)] at H; exact H
   clear H
   have H := H1
   clear H1
   have H' := Aside0.mk H
   clear H
   go_wp2
   repeat (go_quiet (fail); try go_wp2)
   go_loopg [4] kj1 (fun kq v4 w' => ∃ (x4_2 : Int), v4 = .int .i64 x4_2 ∧ Aside0 (spec_ModelOk.l0 kq (l0_0.length : Int) x4_2 l0_0 l0_1 a0_2 l0_3 = some r) ∧ Aside0 (kq ≤ kj1) ∧ Aside0 (w'.heap[gb505]? = some (.cells #[(.slice A0_0 l0_0.length c0_0), (.slice A0_1 l0_1.length c0_1), .int .i64 a0_2, (.slice A0_3 l0_3.length c0_3)] 46 (0, 0))) ∧ Aside0 (Below w.heap.size w w'))
   case atStart => exact ⟨(0), (g0), H', ⟨Nat.le_refl _⟩, ⟨g2 BK505.out⟩, ⟨g12 HB.out GE505.out⟩⟩
   case round =>
    clear H'
    try clear c1
    try clear p2
    try clear c3
    try clear c6
    try clear c7
    try clear c7b0
    try clear c7b1
    try clear c7b2
    try clear c9
    try clear c12
    try clear c12b0
    try clear c12b1
    try clear c12b2
    try clear c14
    try clear c18
    try clear hcz10_0
    try clear hcz10_1
    try clear hcz10_2
    try clear hcz10_3
    try clear hcz11_0
    try clear hcz11_1
    try clear hcz11_2
    try clear hcz11_3
    try clear hcz15_0
    try clear hcz15_1
    try clear hcz15_2
    try clear hcz15_3
    try clear hcz16_0
    try clear hcz16_1
    try clear hcz16_2
    try clear hcz16_3
    try clear hcz17_0
    try clear hcz17_1
    try clear hcz17_2
    try clear hcz17_3
    try clear hcz4_0
    try clear hcz4_1
    try clear hcz4_2
    try clear hcz4_3
    try clear hfz10_0
    try clear hfz10_1
    try clear hfz10_2
    try clear hfz10_3
    try clear hfz11_0
    try clear hfz11_1
    try clear hfz11_2
    try clear hfz11_3
    try clear hfz15_0
    try clear hfz15_1
    try clear hfz15_2
    try clear hfz15_3
    try clear hfz16_0
    try clear hfz16_1
    try clear hfz16_2
    try clear hfz16_3
    try clear hfz17_0
    try clear hfz17_1
    try clear hfz17_2
    try clear hfz17_3
    try clear hfz4_0
    try clear hfz4_1
    try clear hfz4_2
    try clear hfz4_3
    try clear p2
    obtain ⟨x4_2, rfl, HA, HK2, BK505, HB⟩ := hrel
    cases gk with
    | zero => exact absurd HA.out (by simp [spec_ModelOk.l0])
    | succ k2 =>
     have H := HA.out
     clear HA
     simp only [spec_ModelOk.l0] at H
     by_cases c19 : x4_2 < (l0_0.length : Int)
     case pos =>
      rw [if_pos c19] at H
      have c19b0 : decide (x4_2 < (l0_0.length : Int)) = true := decide_eq_true c19
      clear c19
      by_cases c20 : 0 ≤ x4_2
      case neg =>
       rw [if_neg c20] at H
       exact absurd H (by simp)
      rw [if_pos c20] at H
      have c20b0 : decide (0 ≤ x4_2) = true := decide_eq_true c20
      clear c20
      by_cases c21 : x4_2 < (l0_0.length : Int)
      case neg =>
       rw [if_neg c21] at H
       exact absurd H (by simp)
      rw [if_pos c21] at H
      have c21b0 : decide (x4_2 < (l0_0.length : Int)) = true := decide_eq_true c21
      clear c21
      replace H := Option.bind_eq_some_iff.mp H
      obtain ⟨t510, A220, H⟩ := H
      replace H : (if t510 = true then (if x4_2 ≤ (l0_0.length : Int) then ((spec_l9Has.f k2 (l0_0.take (x4_2 : Int).toNat) (rdOf ByteArray.empty l0_0 x4_2)).bind fun t513 => (if t513 = true then (some false) else (spec_ModelOk.l0 k2 (l0_0.length : Int) (wrap64 (x4_2 + 1)) l0_0 l0_1 a0_2 l0_3))) else (none)) else (some false)) = some r := H
      have A22 := Aside0.mk A220
      clear A220
      by_cases c23 : t510 = true
      case neg =>
       replace c23 := Bool.eq_false_iff.mpr c23
       subst c23
       have H1 : (some false) = some r := by rw [if_neg (show ¬ (false = true) by decide)] at H; exact H
       clear H
       have H := H1
       clear H1
       obtain rfl := Option.some.inj H
       have hcz31_0 : wr.cell? ⟨gb505, 0, none⟩ = some (.slice A0_0 l0_0.length c0_0) := (blk_cell BK505.out 0).trans rfl
       have hcz31_1 : wr.cell? ⟨gb505, 1, none⟩ = some (.slice A0_1 l0_1.length c0_1) := (blk_cell BK505.out 1).trans rfl
       have hcz31_2 : wr.cell? ⟨gb505, 2, none⟩ = some (.int .i64 a0_2) := (blk_cell BK505.out 2).trans rfl
       have hcz31_3 : wr.cell? ⟨gb505, 3, none⟩ = some (.slice A0_3 l0_3.length c0_3) := (blk_cell BK505.out 3).trans rfl
       have hfz31_0 := blk_frozen BK505.out 0
       have hfz31_1 := blk_frozen BK505.out 1
       have hfz31_2 := blk_frozen BK505.out 2
       have hfz31_3 := blk_frozen BK505.out 3
       have p509 : 0 ≤ (x4_2 : Int) := of_decide_eq_true (g6)
       have q509 : x4_2 < (l0_0.length : Int) := of_decide_eq_true (g6)
       obtain ⟨ad509, e509, hx509_0⟩ := Kd.at_string HR0_0.out x4_2 p509 q509
       cases e509
       replace hx509_0 := (HB.out.cell (World.block_lt_of_cell? w _ hx509_0)).trans hx509_0
       replace p509 := eq_true p509
       replace q509 := eq_true q509
       go_wp2_with (first | (go_at_call 86; (with_reducible refine (spec_NameOk.calls k2 (rdOf ByteArray.empty l0_0 x4_2) false _ A22.out).mono ?_); rintro e w' ⟨rfl, ⟨nd, rfl⟩⟩; (try first | exact ⟨rfl, _, World.drewN_drewN _ _ _⟩ | exact ⟨rfl, _, Eq.trans (World.drewN_drewN _ _ _) (congrArg (World.drewN _) (Nat.add_assoc _ _ _))⟩)))
       repeat (go_quiet (first | (go_at_call 86; (with_reducible refine (spec_NameOk.calls k2 (rdOf ByteArray.empty l0_0 x4_2) false _ A22.out).mono ?_); rintro e w' ⟨rfl, ⟨nd, rfl⟩⟩; (try first | exact ⟨rfl, _, World.drewN_drewN _ _ _⟩ | exact ⟨rfl, _, Eq.trans (World.drewN_drewN _ _ _) (congrArg (World.drewN _) (Nat.add_assoc _ _ _))⟩))); try go_wp2_with (first | (go_at_call 86; (with_reducible refine (spec_NameOk.calls k2 (rdOf ByteArray.empty l0_0 x4_2) false _ A22.out).mono ?_); rintro e w' ⟨rfl, ⟨nd, rfl⟩⟩; (try first | exact ⟨rfl, _, World.drewN_drewN _ _ _⟩ | exact ⟨rfl, _, Eq.trans (World.drewN_drewN _ _ _) (congrArg (World.drewN _) (Nat.add_assoc _ _ _))⟩))))
       go_ret
       exact ⟨g5, g12 HB.out GE505.out⟩
      subst c23
      have H1 : (if x4_2 ≤ (l0_0.length : Int) then ((spec_l9Has.f k2 (l0_0.take (x4_2 : Int).toNat) (rdOf ByteArray.empty l0_0 x4_2)).bind fun t513 => (if t513 = true then (some false) else (spec_ModelOk.l0 k2 (l0_0.length : Int) (wrap64 (x4_2 + 1)) l0_0 l0_1 a0_2 l0_3))) else (none)) = some r := by rw [if_pos rfl] at H; exact H
      clear H
      have H := H1
      clear H1
      have c24b0 := eq_true (of_decide_eq_true (g6) : 0 ≤ x4_2)
      by_cases c25 : x4_2 ≤ (l0_0.length : Int)
      case neg =>
       rw [if_neg c25] at H
       exact absurd H (by simp)
      rw [if_pos c25] at H
      have c25b0 := eq_true c25
      have c25b1 : decide (x4_2 ≤ (l0_0.length : Int)) = true := decide_eq_true c25
      clear c25
      replace H := Option.bind_eq_some_iff.mp H
      obtain ⟨t513, A260, H⟩ := H
      replace H : (if t513 = true then (some false) else (spec_ModelOk.l0 k2 (l0_0.length : Int) (wrap64 (x4_2 + 1)) l0_0 l0_1 a0_2 l0_3)) = some r := H
      have A26 := Aside0.mk A260
      clear A260
      have HZ27 := Aside0.mk H
      clear H
      have hcz28_0 : wr.cell? ⟨gb505, 0, none⟩ = some (.slice A0_0 l0_0.length c0_0) := (blk_cell BK505.out 0).trans rfl
      have hcz28_1 : wr.cell? ⟨gb505, 1, none⟩ = some (.slice A0_1 l0_1.length c0_1) := (blk_cell BK505.out 1).trans rfl
      have hcz28_2 : wr.cell? ⟨gb505, 2, none⟩ = some (.int .i64 a0_2) := (blk_cell BK505.out 2).trans rfl
      have hcz28_3 : wr.cell? ⟨gb505, 3, none⟩ = some (.slice A0_3 l0_3.length c0_3) := (blk_cell BK505.out 3).trans rfl
      have hfz28_0 := blk_frozen BK505.out 0
      have hfz28_1 := blk_frozen BK505.out 1
      have hfz28_2 := blk_frozen BK505.out 2
      have hfz28_3 := blk_frozen BK505.out 3
      have p509 : 0 ≤ (x4_2 : Int) := of_decide_eq_true (g6)
      have q509 : x4_2 < (l0_0.length : Int) := of_decide_eq_true (g6)
      obtain ⟨ad509, e509, hx509_0⟩ := Kd.at_string HR0_0.out x4_2 p509 q509
      cases e509
      replace hx509_0 := (HB.out.cell (World.block_lt_of_cell? w _ hx509_0)).trans hx509_0
      replace p509 := eq_true p509
      replace q509 := eq_true q509
      go_upto_if 61 with (first | (go_at_call 86; (with_reducible refine (spec_NameOk.calls k2 (rdOf ByteArray.empty l0_0 x4_2) true _ A22.out).mono ?_); rintro e w' ⟨rfl, ⟨nd, rfl⟩⟩; (try first | exact ⟨rfl, _, World.drewN_drewN _ _ _⟩ | exact ⟨rfl, _, Eq.trans (World.drewN_drewN _ _ _) (congrArg (World.drewN _) (Nat.add_assoc _ _ _))⟩); obtain ⟨i029, hi029, _, hsz29, _⟩ := info_parts info9; obtain ⟨hcut29, hA29, hC29⟩ := print_take_of (P := Try.prog) Value.string (⟨#[]⟩ : ByteArray) 24 9 .i64 Try.underlying24 hi029 hsz29 (some ad509) c0_0 l0_0 x4_2 (of_decide_eq_true (g6)) (of_decide_eq_true (g6)) HC0_0.out; have HR511 := Aside0.mk (Kd.C_of_reads (h1 := fun _ => rfl) (hA29 _ (Kd.reads_of_C HR0_0.out))); have HC511 := Aside0.mk hC29; clear hA29 hC29 hi029 hsz29; have p512 : 0 ≤ (x4_2 : Int) := of_decide_eq_true (g6); have q512 : x4_2 < (l0_0.length : Int) := of_decide_eq_true (g6); obtain ⟨ad512, e512, hx512_0⟩ := Kd.at_string HR0_0.out x4_2 p512 q512; obtain rfl : ad509 = ad512 := (by injection e512); replace hx512_0 := (HB.out.cell (World.block_lt_of_cell? w _ hx512_0)).trans hx512_0; replace p512 := eq_true p512; replace q512 := eq_true q512) | (go_at_call 87; refine calls_of_args (args' := #[.slice (some ad509) (l0_0.take (x4_2 : Int).toNat).length c0_0, .string (rdOf ByteArray.empty l0_0 x4_2)]) spec_ModelOk.z0 ?_; (with_reducible refine (spec_l9Has.calls k2 _ _ (l0_0.take (x4_2 : Int).toNat) (rdOf ByteArray.empty l0_0 x4_2) t513 _ ?side1 ?side2 A26.out).mono ?_); (case side1 => exact g23 HR511.out HB.out GE505.out); (case side2 => exact HC511.out); rintro e w' ⟨rfl, ⟨nd, rfl⟩⟩; (try first | exact ⟨rfl, _, World.drewN_drewN _ _ _⟩ | exact ⟨rfl, _, Eq.trans (World.drewN_drewN _ _ _) (congrArg (World.drewN _) (Nat.add_assoc _ _ _))⟩)))
      repeat (go_quiet (first | (go_at_call 86; (with_reducible refine (spec_NameOk.calls k2 (rdOf ByteArray.empty l0_0 x4_2) true _ A22.out).mono ?_); rintro e w' ⟨rfl, ⟨nd, rfl⟩⟩; (try first | exact ⟨rfl, _, World.drewN_drewN _ _ _⟩ | exact ⟨rfl, _, Eq.trans (World.drewN_drewN _ _ _) (congrArg (World.drewN _) (Nat.add_assoc _ _ _))⟩); obtain ⟨i029, hi029, _, hsz29, _⟩ := info_parts info9; obtain ⟨hcut29, hA29, hC29⟩ := print_take_of (P := Try.prog) Value.string (⟨#[]⟩ : ByteArray) 24 9 .i64 Try.underlying24 hi029 hsz29 (some ad509) c0_0 l0_0 x4_2 (of_decide_eq_true (g6)) (of_decide_eq_true (g6)) HC0_0.out; have HR511 := Aside0.mk (Kd.C_of_reads (h1 := fun _ => rfl) (hA29 _ (Kd.reads_of_C HR0_0.out))); have HC511 := Aside0.mk hC29; clear hA29 hC29 hi029 hsz29; have p512 : 0 ≤ (x4_2 : Int) := of_decide_eq_true (g6); have q512 : x4_2 < (l0_0.length : Int) := of_decide_eq_true (g6); obtain ⟨ad512, e512, hx512_0⟩ := Kd.at_string HR0_0.out x4_2 p512 q512; obtain rfl : ad509 = ad512 := (by injection e512); replace hx512_0 := (HB.out.cell (World.block_lt_of_cell? w _ hx512_0)).trans hx512_0; replace p512 := eq_true p512; replace q512 := eq_true q512) | (go_at_call 87; refine calls_of_args (args' := #[.slice (some ad509) (l0_0.take (x4_2 : Int).toNat).length c0_0, .string (rdOf ByteArray.empty l0_0 x4_2)]) spec_ModelOk.z0 ?_; (with_reducible refine (spec_l9Has.calls k2 _ _ (l0_0.take (x4_2 : Int).toNat) (rdOf ByteArray.empty l0_0 x4_2) t513 _ ?side1 ?side2 A26.out).mono ?_); (case side1 => exact g23 HR511.out HB.out GE505.out); (case side2 => exact HC511.out); rintro e w' ⟨rfl, ⟨nd, rfl⟩⟩; (try first | exact ⟨rfl, _, World.drewN_drewN _ _ _⟩ | exact ⟨rfl, _, Eq.trans (World.drewN_drewN _ _ _) (congrArg (World.drewN _) (Nat.add_assoc _ _ _))⟩))); go_upto_if 61 with (first | (go_at_call 86; (with_reducible refine (spec_NameOk.calls k2 (rdOf ByteArray.empty l0_0 x4_2) true _ A22.out).mono ?_); rintro e w' ⟨rfl, ⟨nd, rfl⟩⟩; (try first | exact ⟨rfl, _, World.drewN_drewN _ _ _⟩ | exact ⟨rfl, _, Eq.trans (World.drewN_drewN _ _ _) (congrArg (World.drewN _) (Nat.add_assoc _ _ _))⟩); obtain ⟨i029, hi029, _, hsz29, _⟩ := info_parts info9; obtain ⟨hcut29, hA29, hC29⟩ := print_take_of (P := Try.prog) Value.string (⟨#[]⟩ : ByteArray) 24 9 .i64 Try.underlying24 hi029 hsz29 (some ad509) c0_0 l0_0 x4_2 (of_decide_eq_true (g6)) (of_decide_eq_true (g6)) HC0_0.out; have HR511 := Aside0.mk (Kd.C_of_reads (h1 := fun _ => rfl) (hA29 _ (Kd.reads_of_C HR0_0.out))); have HC511 := Aside0.mk hC29; clear hA29 hC29 hi029 hsz29; have p512 : 0 ≤ (x4_2 : Int) := of_decide_eq_true (g6); have q512 : x4_2 < (l0_0.length : Int) := of_decide_eq_true (g6); obtain ⟨ad512, e512, hx512_0⟩ := Kd.at_string HR0_0.out x4_2 p512 q512; obtain rfl : ad509 = ad512 := (by injection e512); replace hx512_0 := (HB.out.cell (World.block_lt_of_cell? w _ hx512_0)).trans hx512_0; replace p512 := eq_true p512; replace q512 := eq_true q512) | (go_at_call 87; refine calls_of_args (args' := #[.slice (some ad509) (l0_0.take (x4_2 : Int).toNat).length c0_0, .string (rdOf ByteArray.empty l0_0 x4_2)]) spec_ModelOk.z0 ?_; (with_reducible refine (spec_l9Has.calls k2 _ _ (l0_0.take (x4_2 : Int).toNat) (rdOf ByteArray.empty l0_0 x4_2) t513 _ ?side1 ?side2 A26.out).mono ?_); (case side1 => exact g23 HR511.out HB.out GE505.out); (case side2 => exact HC511.out); rintro e w' ⟨rfl, ⟨nd, rfl⟩⟩; (try first | exact ⟨rfl, _, World.drewN_drewN _ _ _⟩ | exact ⟨rfl, _, Eq.trans (World.drewN_drewN _ _ _) (congrArg (World.drewN _) (Nat.add_assoc _ _ _))⟩))))
      (try simp only [Act.put, List.setIfInBounds_toArray, List.set_cons_zero, List.set_cons_succ])
      have H := HZ27.out
      clear HZ27
      by_cases c30 : t513 = true
      case pos =>
       subst c30
       have H1 : (some false) = some r := by rw [if_pos rfl] at H; exact H
       clear H
       have H := H1
       clear H1
       obtain rfl := Option.some.inj H
       go_wp2
       repeat (go_quiet (fail); try go_wp2)
       go_ret
       exact ⟨g5, g12 HB.out GE505.out⟩
      replace c30 := Bool.eq_false_iff.mpr c30
      subst c30
      have H1 : (spec_ModelOk.l0 k2 (l0_0.length : Int) (wrap64 (x4_2 + 1)) l0_0 l0_1 a0_2 l0_3) = some r := by rw [if_neg (show ¬ (false = true) by decide)] at H; exact H
      clear H
      have H := H1
      clear H1
      have H' := Aside0.mk H
      clear H
      go_wp2
      repeat (go_quiet (fail); try go_wp2)
      go_roundg k2
      case measure => have := HJ1.out; have := HK2.out; omega
      case rel => exact ⟨(wrap64 (x4_2 + 1)), (g0), H', ⟨by have := HJ1.out; have := HK2.out; omega⟩, ⟨g2 BK505.out⟩, ⟨g12 HB.out GE505.out⟩⟩
     rw [if_neg c19] at H
     have c19b0 : decide (x4_2 < (l0_0.length : Int)) = false := decide_eq_false c19
     clear c19
     have H' := Aside0.mk H
     clear H
     go_wp2
     repeat (go_quiet (fail); try go_wp2)
     go_loopg [5] k2 (fun kq v5 w' => ∃ (x5_3 : Int), v5 = .int .i64 x5_3 ∧ Aside0 (spec_ModelOk.l1 kq (l0_0.length : Int) x5_3 l0_0 l0_1 a0_2 l0_3 = some r) ∧ Aside0 (kq ≤ k2) ∧ Aside0 (w'.heap[gb505]? = some (.cells #[(.slice A0_0 l0_0.length c0_0), (.slice A0_1 l0_1.length c0_1), .int .i64 a0_2, (.slice A0_3 l0_3.length c0_3)] 46 (0, 0))) ∧ Aside0 (Below w.heap.size w w'))
     case atStart => exact ⟨(0), (g0), H', ⟨Nat.le_refl _⟩, ⟨g2 BK505.out⟩, ⟨g12 HB.out GE505.out⟩⟩
     case round =>
      clear H'
      try clear c1
      try clear c2
      try clear p2
      try clear c3
      try clear p5
      try clear q5
      try clear hx5
      try clear c6
      try clear p6
      try clear c7
      try clear c7b0
      try clear c7b1
      try clear c7b2
      try clear c9
      try clear c12
      try clear c12b0
      try clear c12b1
      try clear c12b2
      try clear c14
      try clear c18
      try clear c19
      try clear c19b0
      try clear c20
      try clear c20b0
      try clear c21
      try clear c21b0
      try clear c23
      try clear c24
      try clear c24b0
      try clear c25
      try clear c25b0
      try clear c25b1
      try clear c30
      try clear hcz10_0
      try clear hcz10_1
      try clear hcz10_2
      try clear hcz10_3
      try clear hcz11_0
      try clear hcz11_1
      try clear hcz11_2
      try clear hcz11_3
      try clear hcz15_0
      try clear hcz15_1
      try clear hcz15_2
      try clear hcz15_3
      try clear hcz16_0
      try clear hcz16_1
      try clear hcz16_2
      try clear hcz16_3
      try clear hcz17_0
      try clear hcz17_1
      try clear hcz17_2
      try clear hcz17_3
      try clear hcz28_0
      try clear hcz28_1
      try clear hcz28_2
      try clear hcz28_3
      try clear hcz31_0
      try clear hcz31_1
      try clear hcz31_2
      try clear hcz31_3
      try clear hcz4_0
      try clear hcz4_1
      try clear hcz4_2
      try clear hcz4_3
      try clear hfz10_0
      try clear hfz10_1
      try clear hfz10_2
      try clear hfz10_3
      try clear hfz11_0
      try clear hfz11_1
      try clear hfz11_2
      try clear hfz11_3
      try clear hfz15_0
      try clear hfz15_1
      try clear hfz15_2
      try clear hfz15_3
      try clear hfz16_0
      try clear hfz16_1
      try clear hfz16_2
      try clear hfz16_3
      try clear hfz17_0
      try clear hfz17_1
      try clear hfz17_2
      try clear hfz17_3
      try clear hfz28_0
      try clear hfz28_1
      try clear hfz28_2
      try clear hfz28_3
      try clear hfz31_0
      try clear hfz31_1
      try clear hfz31_2
      try clear hfz31_3
      try clear hfz4_0
      try clear hfz4_1
      try clear hfz4_2
      try clear hfz4_3
      try clear hx509_0
      try clear hx512_0
      try clear p2
      try clear p509
      try clear p512
      try clear q509
      try clear q512
      obtain ⟨x5_3, rfl, HA, HK3, BK505, HB⟩ := hrel
      cases gk with
      | zero => exact absurd HA.out (by simp [spec_ModelOk.l1])
      | succ k3 =>
       have H := HA.out
       clear HA
       simp only [spec_ModelOk.l1] at H
       by_cases c32 : x5_3 < (l0_1.length : Int)
       case pos =>
        rw [if_pos c32] at H
        have c32b0 : decide (x5_3 < (l0_1.length : Int)) = true := decide_eq_true c32
        clear c32
        by_cases c33 : 0 ≤ x5_3
        case neg =>
         rw [if_neg c33] at H
         exact absurd H (by simp)
        rw [if_pos c33] at H
        have c33b0 : decide (0 ≤ x5_3) = true := decide_eq_true c33
        clear c33
        replace H := Option.bind_eq_some_iff.mp H
        obtain ⟨t515, A340, H⟩ := H
        replace H : (if t515 = true then (spec_ModelOk.l1 k3 (l0_0.length : Int) (wrap64 (x5_3 + 1)) l0_0 l0_1 a0_2 l0_3) else (some false)) = some r := H
        have A34 := Aside0.mk A340
        clear A340
        by_cases c35 : t515 = true
        case neg =>
         replace c35 := Bool.eq_false_iff.mpr c35
         subst c35
         have H1 : (some false) = some r := by rw [if_neg (show ¬ (false = true) by decide)] at H; exact H
         clear H
         have H := H1
         clear H1
         obtain rfl := Option.some.inj H
         have hcz37_0 : wr.cell? ⟨gb505, 0, none⟩ = some (.slice A0_0 l0_0.length c0_0) := (blk_cell BK505.out 0).trans rfl
         have hcz37_1 : wr.cell? ⟨gb505, 1, none⟩ = some (.slice A0_1 l0_1.length c0_1) := (blk_cell BK505.out 1).trans rfl
         have hcz37_2 : wr.cell? ⟨gb505, 2, none⟩ = some (.int .i64 a0_2) := (blk_cell BK505.out 2).trans rfl
         have hcz37_3 : wr.cell? ⟨gb505, 3, none⟩ = some (.slice A0_3 l0_3.length c0_3) := (blk_cell BK505.out 3).trans rfl
         have hfz37_0 := blk_frozen BK505.out 0
         have hfz37_1 := blk_frozen BK505.out 1
         have hfz37_2 := blk_frozen BK505.out 2
         have hfz37_3 := blk_frozen BK505.out 3
         have p514 : 0 ≤ (x5_3 : Int) := of_decide_eq_true (g6)
         have q514 : x5_3 < (l0_1.length : Int) := of_decide_eq_true (g6)
         obtain ⟨ad514, e514, hx514_0⟩ := Kd.at_int HR0_1.out x5_3 p514 q514
         cases e514
         replace hx514_0 := (HB.out.cell (World.block_lt_of_cell? w _ hx514_0)).trans hx514_0
         replace p514 := eq_true p514
         replace q514 := eq_true q514
         go_wp2_with (first | (go_at_call 54; (with_reducible refine (spec_l1In.calls (rd l0_1 x5_3) (-1) 1 false _ A34.out).mono ?_); rintro e w' ⟨rfl, ⟨nd, rfl⟩⟩; (try first | exact ⟨rfl, _, World.drewN_drewN _ _ _⟩ | exact ⟨rfl, _, Eq.trans (World.drewN_drewN _ _ _) (congrArg (World.drewN _) (Nat.add_assoc _ _ _))⟩)))
         repeat (go_quiet (first | (go_at_call 54; (with_reducible refine (spec_l1In.calls (rd l0_1 x5_3) (-1) 1 false _ A34.out).mono ?_); rintro e w' ⟨rfl, ⟨nd, rfl⟩⟩; (try first | exact ⟨rfl, _, World.drewN_drewN _ _ _⟩ | exact ⟨rfl, _, Eq.trans (World.drewN_drewN _ _ _) (congrArg (World.drewN _) (Nat.add_assoc _ _ _))⟩))); try go_wp2_with (first | (go_at_call 54; (with_reducible refine (spec_l1In.calls (rd l0_1 x5_3) (-1) 1 false _ A34.out).mono ?_); rintro e w' ⟨rfl, ⟨nd, rfl⟩⟩; (try first | exact ⟨rfl, _, World.drewN_drewN _ _ _⟩ | exact ⟨rfl, _, Eq.trans (World.drewN_drewN _ _ _) (congrArg (World.drewN _) (Nat.add_assoc _ _ _))⟩))))
         go_ret
         exact ⟨g5, g12 HB.out GE505.out⟩
        subst c35
        have H1 : (spec_ModelOk.l1 k3 (l0_0.length : Int) (wrap64 (x5_3 + 1)) l0_0 l0_1 a0_2 l0_3) = some r := by rw [if_pos rfl] at H; exact H
        clear H
        have H := H1
        clear H1
        have H' := Aside0.mk H
        clear H
        have hcz36_0 : wr.cell? ⟨gb505, 0, none⟩ = some (.slice A0_0 l0_0.length c0_0) := (blk_cell BK505.out 0).trans rfl
        have hcz36_1 : wr.cell? ⟨gb505, 1, none⟩ = some (.slice A0_1 l0_1.length c0_1) := (blk_cell BK505.out 1).trans rfl
        have hcz36_2 : wr.cell? ⟨gb505, 2, none⟩ = some (.int .i64 a0_2) := (blk_cell BK505.out 2).trans rfl
        have hcz36_3 : wr.cell? ⟨gb505, 3, none⟩ = some (.slice A0_3 l0_3.length c0_3) := (blk_cell BK505.out 3).trans rfl
        have hfz36_0 := blk_frozen BK505.out 0
        have hfz36_1 := blk_frozen BK505.out 1
        have hfz36_2 := blk_frozen BK505.out 2
        have hfz36_3 := blk_frozen BK505.out 3
        have p514 : 0 ≤ (x5_3 : Int) := of_decide_eq_true (g6)
        have q514 : x5_3 < (l0_1.length : Int) := of_decide_eq_true (g6)
        obtain ⟨ad514, e514, hx514_0⟩ := Kd.at_int HR0_1.out x5_3 p514 q514
        cases e514
        replace hx514_0 := (HB.out.cell (World.block_lt_of_cell? w _ hx514_0)).trans hx514_0
        replace p514 := eq_true p514
        replace q514 := eq_true q514
        go_wp2_with (first | (go_at_call 54; (with_reducible refine (spec_l1In.calls (rd l0_1 x5_3) (-1) 1 true _ A34.out).mono ?_); rintro e w' ⟨rfl, ⟨nd, rfl⟩⟩; (try first | exact ⟨rfl, _, World.drewN_drewN _ _ _⟩ | exact ⟨rfl, _, Eq.trans (World.drewN_drewN _ _ _) (congrArg (World.drewN _) (Nat.add_assoc _ _ _))⟩)))
        repeat (go_quiet (first | (go_at_call 54; (with_reducible refine (spec_l1In.calls (rd l0_1 x5_3) (-1) 1 true _ A34.out).mono ?_); rintro e w' ⟨rfl, ⟨nd, rfl⟩⟩; (try first | exact ⟨rfl, _, World.drewN_drewN _ _ _⟩ | exact ⟨rfl, _, Eq.trans (World.drewN_drewN _ _ _) (congrArg (World.drewN _) (Nat.add_assoc _ _ _))⟩))); try go_wp2_with (first | (go_at_call 54; (with_reducible refine (spec_l1In.calls (rd l0_1 x5_3) (-1) 1 true _ A34.out).mono ?_); rintro e w' ⟨rfl, ⟨nd, rfl⟩⟩; (try first | exact ⟨rfl, _, World.drewN_drewN _ _ _⟩ | exact ⟨rfl, _, Eq.trans (World.drewN_drewN _ _ _) (congrArg (World.drewN _) (Nat.add_assoc _ _ _))⟩))))
        go_roundg k3
        case measure => have := HJ1.out; have := HK2.out; have := HK3.out; omega
        case rel => exact ⟨(wrap64 (x5_3 + 1)), (g0), H', ⟨by have := HJ1.out; have := HK2.out; have := HK3.out; omega⟩, ⟨g2 BK505.out⟩, ⟨g12 HB.out GE505.out⟩⟩
       rw [if_neg c32] at H
       have c32b0 : decide (x5_3 < (l0_1.length : Int)) = false := decide_eq_false c32
       clear c32
       have H' := Aside0.mk H
       clear H
       have hcz38_0 : wr.cell? ⟨gb505, 0, none⟩ = some (.slice A0_0 l0_0.length c0_0) := (blk_cell BK505.out 0).trans rfl
       have hcz38_1 : wr.cell? ⟨gb505, 1, none⟩ = some (.slice A0_1 l0_1.length c0_1) := (blk_cell BK505.out 1).trans rfl
       have hcz38_2 : wr.cell? ⟨gb505, 2, none⟩ = some (.int .i64 a0_2) := (blk_cell BK505.out 2).trans rfl
       have hcz38_3 : wr.cell? ⟨gb505, 3, none⟩ = some (.slice A0_3 l0_3.length c0_3) := (blk_cell BK505.out 3).trans rfl
       have hfz38_0 := blk_frozen BK505.out 0
       have hfz38_1 := blk_frozen BK505.out 1
       have hfz38_2 := blk_frozen BK505.out 2
       have hfz38_3 := blk_frozen BK505.out 3
       go_wp2
       repeat (go_quiet (fail); try go_wp2)
       go_loopg [6] k3 (fun kq v6 w' => ∃ (x6_4 : Int), v6 = .int .i64 x6_4 ∧ Aside0 (spec_ModelOk.l2 kq (l0_0.length : Int) x6_4 l0_0 l0_1 a0_2 l0_3 = some r) ∧ Aside0 (kq ≤ k3) ∧ Aside0 (w'.heap[gb505]? = some (.cells #[(.slice A0_0 l0_0.length c0_0), (.slice A0_1 l0_1.length c0_1), .int .i64 a0_2, (.slice A0_3 l0_3.length c0_3)] 46 (0, 0))) ∧ Aside0 (Below w.heap.size w w'))
       case atStart => exact ⟨(0), (g0), H', ⟨Nat.le_refl _⟩, ⟨g2 BK505.out⟩, ⟨g12 HB.out GE505.out⟩⟩
       case round =>
        clear H'
        try clear c1
        try clear c2
        try clear p2
        try clear c3
        try clear p5
        try clear q5
        try clear hx5
        try clear c6
        try clear p6
        try clear c7
        try clear c7b0
        try clear c7b1
        try clear c7b2
        try clear c9
        try clear c12
        try clear c12b0
        try clear c12b1
        try clear c12b2
        try clear c14
        try clear c18
        try clear c19
        try clear c19b0
        try clear c20
        try clear c20b0
        try clear c21
        try clear c21b0
        try clear c23
        try clear c24
        try clear c24b0
        try clear c25
        try clear c25b0
        try clear c25b1
        try clear c30
        try clear c32
        try clear c32b0
        try clear c33
        try clear c33b0
        try clear c35
        try clear hcz10_0
        try clear hcz10_1
        try clear hcz10_2
        try clear hcz10_3
        try clear hcz11_0
        try clear hcz11_1
        try clear hcz11_2
        try clear hcz11_3
        try clear hcz15_0
        try clear hcz15_1
        try clear hcz15_2
        try clear hcz15_3
        try clear hcz16_0
        try clear hcz16_1
        try clear hcz16_2
        try clear hcz16_3
        try clear hcz17_0
        try clear hcz17_1
        try clear hcz17_2
        try clear hcz17_3
        try clear hcz28_0
        try clear hcz28_1
        try clear hcz28_2
        try clear hcz28_3
        try clear hcz31_0
        try clear hcz31_1
        try clear hcz31_2
        try clear hcz31_3
        try clear hcz36_0
        try clear hcz36_1
        try clear hcz36_2
        try clear hcz36_3
        try clear hcz37_0
        try clear hcz37_1
        try clear hcz37_2
        try clear hcz37_3
        try clear hcz38_0
        try clear hcz38_1
        try clear hcz38_2
        try clear hcz38_3
        try clear hcz4_0
        try clear hcz4_1
        try clear hcz4_2
        try clear hcz4_3
        try clear hfz10_0
        try clear hfz10_1
        try clear hfz10_2
        try clear hfz10_3
        try clear hfz11_0
        try clear hfz11_1
        try clear hfz11_2
        try clear hfz11_3
        try clear hfz15_0
        try clear hfz15_1
        try clear hfz15_2
        try clear hfz15_3
        try clear hfz16_0
        try clear hfz16_1
        try clear hfz16_2
        try clear hfz16_3
        try clear hfz17_0
        try clear hfz17_1
        try clear hfz17_2
        try clear hfz17_3
        try clear hfz28_0
        try clear hfz28_1
        try clear hfz28_2
        try clear hfz28_3
        try clear hfz31_0
        try clear hfz31_1
        try clear hfz31_2
        try clear hfz31_3
        try clear hfz36_0
        try clear hfz36_1
        try clear hfz36_2
        try clear hfz36_3
        try clear hfz37_0
        try clear hfz37_1
        try clear hfz37_2
        try clear hfz37_3
        try clear hfz38_0
        try clear hfz38_1
        try clear hfz38_2
        try clear hfz38_3
        try clear hfz4_0
        try clear hfz4_1
        try clear hfz4_2
        try clear hfz4_3
        try clear hx509_0
        try clear hx512_0
        try clear hx514_0
        try clear p2
        try clear p5
        try clear p509
        try clear p512
        try clear p514
        try clear p6
        try clear q5
        try clear q509
        try clear q512
        try clear q514
        obtain ⟨x6_4, rfl, HA, HK4, BK505, HB⟩ := hrel
        cases gk with
        | zero => exact absurd HA.out (by simp [spec_ModelOk.l2])
        | succ k4 =>
         have H := HA.out
         clear HA
         simp only [spec_ModelOk.l2] at H
         by_cases c39 : x6_4 < (l0_3.length : Int)
         case neg =>
          rw [if_neg c39] at H
          have c39b0 : decide (x6_4 < (l0_3.length : Int)) = false := decide_eq_false c39
          clear c39
          obtain rfl := Option.some.inj H
          have hcz47_0 : wr.cell? ⟨gb505, 0, none⟩ = some (.slice A0_0 l0_0.length c0_0) := (blk_cell BK505.out 0).trans rfl
          have hcz47_1 : wr.cell? ⟨gb505, 1, none⟩ = some (.slice A0_1 l0_1.length c0_1) := (blk_cell BK505.out 1).trans rfl
          have hcz47_2 : wr.cell? ⟨gb505, 2, none⟩ = some (.int .i64 a0_2) := (blk_cell BK505.out 2).trans rfl
          have hcz47_3 : wr.cell? ⟨gb505, 3, none⟩ = some (.slice A0_3 l0_3.length c0_3) := (blk_cell BK505.out 3).trans rfl
          have hfz47_0 := blk_frozen BK505.out 0
          have hfz47_1 := blk_frozen BK505.out 1
          have hfz47_2 := blk_frozen BK505.out 2
          have hfz47_3 := blk_frozen BK505.out 3
          go_wp2
          repeat (go_quiet (fail); try go_wp2)
          go_ret
          exact ⟨g5, g12 HB.out GE505.out⟩
         rw [if_pos c39] at H
         have c39b0 : decide (x6_4 < (l0_3.length : Int)) = true := decide_eq_true c39
         clear c39
         by_cases c40 : 0 ≤ x6_4
         case neg =>
          rw [if_neg c40] at H
          exact absurd H (by simp)
         rw [if_pos c40] at H
         have c40b0 : decide (0 ≤ x6_4) = true := decide_eq_true c40
         clear c40
         replace H := Option.bind_eq_some_iff.mp H
         obtain ⟨t517, A410, H⟩ := H
         replace H : (if t517 = true then (spec_ModelOk.l2 k4 (l0_0.length : Int) (wrap64 (x6_4 + 1)) l0_0 l0_1 a0_2 l0_3) else (some false)) = some r := H
         have A41 := Aside0.mk A410
         clear A410
         by_cases c42 : t517 = true
         case neg =>
          replace c42 := Bool.eq_false_iff.mpr c42
          subst c42
          have H1 : (some false) = some r := by rw [if_neg (show ¬ (false = true) by decide)] at H; exact H
          clear H
          have H := H1
          clear H1
          obtain rfl := Option.some.inj H
          have hcz45_0 : wr.cell? ⟨gb505, 0, none⟩ = some (.slice A0_0 l0_0.length c0_0) := (blk_cell BK505.out 0).trans rfl
          have hcz45_1 : wr.cell? ⟨gb505, 1, none⟩ = some (.slice A0_1 l0_1.length c0_1) := (blk_cell BK505.out 1).trans rfl
          have hcz45_2 : wr.cell? ⟨gb505, 2, none⟩ = some (.int .i64 a0_2) := (blk_cell BK505.out 2).trans rfl
          have hcz45_3 : wr.cell? ⟨gb505, 3, none⟩ = some (.slice A0_3 l0_3.length c0_3) := (blk_cell BK505.out 3).trans rfl
          have hfz45_0 := blk_frozen BK505.out 0
          have hfz45_1 := blk_frozen BK505.out 1
          have hfz45_2 := blk_frozen BK505.out 2
          have hfz45_3 := blk_frozen BK505.out 3
          have p516 : 0 ≤ (x6_4 : Int) := of_decide_eq_true (g6)
          have q516 : x6_4 < (l0_3.length : Int) := of_decide_eq_true (g6)
          obtain ⟨ad516, A516_0, c516_0, e516, hx516_0, hl516_0, hi516_0⟩ := at_T68 HR0_3.out x6_4 p516 q516
          cases e516
          replace hx516_0 := (HB.out.cell (World.block_lt_of_cell? w _ hx516_0)).trans hx516_0
          have HR516_0 := Aside0.mk hi516_0
          have HC516_0 := Aside0.mk hl516_0
          clear hi516_0 hl516_0
          replace p516 := eq_true p516
          replace q516 := eq_true q516
          go_wp2_with (first | (go_at_call 88; (with_reducible refine (spec_TreeOk.calls k4 _ _ ((rd_T68 l0_3 x6_4).f0) (l0_0.length : Int) false _ ?side1 ?side2 A41.out).mono ?_); (case side1 => exact g20 HR516_0.out HB.out); (case side2 => exact HC516_0.out); rintro e w46 ⟨rfl, hb⟩; have n_ := spec_ModelOk.K2_ (blk_below (g := gb505) (o := .cells #[.slice A0_0 l0_0.length c0_0, .slice A0_1 l0_1.length c0_1, .int .i64 a0_2, .slice (some ad516) l0_3.length c0_3] 46 (0, 0)) (g2 BK505.out) hb) (below_step (g12 HB.out GE505.out) hb); clear BK505 HB; obtain ⟨BK505, HB⟩ := n_; (try clear hb); (try clear hb2); (try clear hk); (try clear hi)))
          repeat (go_quiet (first | (go_at_call 88; (with_reducible refine (spec_TreeOk.calls k4 _ _ ((rd_T68 l0_3 x6_4).f0) (l0_0.length : Int) false _ ?side1 ?side2 A41.out).mono ?_); (case side1 => exact g20 HR516_0.out HB.out); (case side2 => exact HC516_0.out); rintro e w46 ⟨rfl, hb⟩; have n0_ := Aside0.mk (blk_below (g := gb505) (o := .cells #[.slice A0_0 l0_0.length c0_0, .slice A0_1 l0_1.length c0_1, .int .i64 a0_2, .slice (some ad516) l0_3.length c0_3] 46 (0, 0)) (g2 BK505.out) hb); have n1_ := Aside0.mk (below_step (g12 HB.out GE505.out) hb); clear BK505; clear HB; have BK505 := n0_; have HB := n1_; clear n0_ n1_; (try clear hb); (try clear hb2); (try clear hk); (try clear hi))); try go_wp2_with (first | (go_at_call 88; (with_reducible refine (spec_TreeOk.calls k4 _ _ ((rd_T68 l0_3 x6_4).f0) (l0_0.length : Int) false _ ?side1 ?side2 A41.out).mono ?_); (case side1 => exact g20 HR516_0.out HB.out); (case side2 => exact HC516_0.out); rintro e w46 ⟨rfl, hb⟩; have n0_ := Aside0.mk (blk_below (g := gb505) (o := .cells #[.slice A0_0 l0_0.length c0_0, .slice A0_1 l0_1.length c0_1, .int .i64 a0_2, .slice (some ad516) l0_3.length c0_3] 46 (0, 0)) (g2 BK505.out) hb); have n1_ := Aside0.mk (below_step (g12 HB.out GE505.out) hb); clear BK505; clear HB; have BK505 := n0_; have HB := n1_; clear n0_ n1_; (try clear hb); (try clear hb2); (try clear hk); (try clear hi))))
          go_ret
          exact ⟨g5, g12 HB.out GE505.out⟩
         subst c42
         have H1 : (spec_ModelOk.l2 k4 (l0_0.length : Int) (wrap64 (x6_4 + 1)) l0_0 l0_1 a0_2 l0_3) = some r := by rw [if_pos rfl] at H; exact H
         clear H
         have H := H1
         clear H1
         have H' := Aside0.mk H
         clear H
         have hcz43_0 : wr.cell? ⟨gb505, 0, none⟩ = some (.slice A0_0 l0_0.length c0_0) := (blk_cell BK505.out 0).trans rfl
         have hcz43_1 : wr.cell? ⟨gb505, 1, none⟩ = some (.slice A0_1 l0_1.length c0_1) := (blk_cell BK505.out 1).trans rfl
         have hcz43_2 : wr.cell? ⟨gb505, 2, none⟩ = some (.int .i64 a0_2) := (blk_cell BK505.out 2).trans rfl
         have hcz43_3 : wr.cell? ⟨gb505, 3, none⟩ = some (.slice A0_3 l0_3.length c0_3) := (blk_cell BK505.out 3).trans rfl
         have hfz43_0 := blk_frozen BK505.out 0
         have hfz43_1 := blk_frozen BK505.out 1
         have hfz43_2 := blk_frozen BK505.out 2
         have hfz43_3 := blk_frozen BK505.out 3
         have p516 : 0 ≤ (x6_4 : Int) := of_decide_eq_true (g6)
         have q516 : x6_4 < (l0_3.length : Int) := of_decide_eq_true (g6)
         obtain ⟨ad516, A516_0, c516_0, e516, hx516_0, hl516_0, hi516_0⟩ := at_T68 HR0_3.out x6_4 p516 q516
         cases e516
         replace hx516_0 := (HB.out.cell (World.block_lt_of_cell? w _ hx516_0)).trans hx516_0
         have HR516_0 := Aside0.mk hi516_0
         have HC516_0 := Aside0.mk hl516_0
         clear hi516_0 hl516_0
         replace p516 := eq_true p516
         replace q516 := eq_true q516
         go_wp2_with (first | (go_at_call 88; (with_reducible refine (spec_TreeOk.calls k4 _ _ ((rd_T68 l0_3 x6_4).f0) (l0_0.length : Int) true _ ?side1 ?side2 A41.out).mono ?_); (case side1 => exact g20 HR516_0.out HB.out); (case side2 => exact HC516_0.out); rintro e w44 ⟨rfl, hb⟩; have n_ := spec_ModelOk.K2_ (blk_below (g := gb505) (o := .cells #[.slice A0_0 l0_0.length c0_0, .slice A0_1 l0_1.length c0_1, .int .i64 a0_2, .slice (some ad516) l0_3.length c0_3] 46 (0, 0)) (g2 BK505.out) hb) (below_step (g12 HB.out GE505.out) hb); clear BK505 HB; obtain ⟨BK505, HB⟩ := n_; (try clear hb); (try clear hb2); (try clear hk); (try clear hi)))
         repeat (go_quiet (first | (go_at_call 88; (with_reducible refine (spec_TreeOk.calls k4 _ _ ((rd_T68 l0_3 x6_4).f0) (l0_0.length : Int) true _ ?side1 ?side2 A41.out).mono ?_); (case side1 => exact g20 HR516_0.out HB.out); (case side2 => exact HC516_0.out); rintro e w44 ⟨rfl, hb⟩; have n0_ := Aside0.mk (blk_below (g := gb505) (o := .cells #[.slice A0_0 l0_0.length c0_0, .slice A0_1 l0_1.length c0_1, .int .i64 a0_2, .slice (some ad516) l0_3.length c0_3] 46 (0, 0)) (g2 BK505.out) hb); have n1_ := Aside0.mk (below_step (g12 HB.out GE505.out) hb); clear BK505; clear HB; have BK505 := n0_; have HB := n1_; clear n0_ n1_; (try clear hb); (try clear hb2); (try clear hk); (try clear hi))); try go_wp2_with (first | (go_at_call 88; (with_reducible refine (spec_TreeOk.calls k4 _ _ ((rd_T68 l0_3 x6_4).f0) (l0_0.length : Int) true _ ?side1 ?side2 A41.out).mono ?_); (case side1 => exact g20 HR516_0.out HB.out); (case side2 => exact HC516_0.out); rintro e w44 ⟨rfl, hb⟩; have n0_ := Aside0.mk (blk_below (g := gb505) (o := .cells #[.slice A0_0 l0_0.length c0_0, .slice A0_1 l0_1.length c0_1, .int .i64 a0_2, .slice (some ad516) l0_3.length c0_3] 46 (0, 0)) (g2 BK505.out) hb); have n1_ := Aside0.mk (below_step (g12 HB.out GE505.out) hb); clear BK505; clear HB; have BK505 := n0_; have HB := n1_; clear n0_ n1_; (try clear hb); (try clear hb2); (try clear hk); (try clear hi))))
         go_roundg k4
         case measure => have := HJ1.out; have := HK2.out; have := HK3.out; have := HK4.out; omega
         case rel => exact ⟨(wrap64 (x6_4 + 1)), (g0), H', ⟨by have := HJ1.out; have := HK2.out; have := HK3.out; have := HK4.out; omega⟩, ⟨g2 BK505.out⟩, ⟨g12 HB.out GE505.out⟩⟩
end Go.Proofs.Yteoikmbdpofhmaa.XFnUses
