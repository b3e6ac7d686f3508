import Derived.Test.YteoikmbdpofhmaaVFnUsesXx0
namespace Go.Proofs.Yteoikmbdpofhmaa.XFnUses
open Go.RowKit Go.Proofs.YteoikmbdpofhmaaW.PrintWords Go.Proofs.YteoikmbdpofhmaaW.PrintLast Go.Proofs.YteoikmbdpofhmaaW.PrintMore
attribute [local go_sem] max2_int min2_int max_two min_two max_three min_three max_four min_four
set_option linter.unusedVariables false
set_option linter.unusedSimpArgs false
theorem laws_big.z0 {p : Prop} (h : p := by rw [hg]; exact Nat.ne_of_lt (blk_lt (g := gb134) (o := .cells #[.slice none 0 0] 68 (0, 0)) (g2 BK134.out))) : p := h
theorem laws_big.z1 {p : Prop} (h : p := by rw [hg]; exact Nat.ne_of_gt (blk_lt (g := gb134) (o := .cells #[.slice none 0 0] 68 (0, 0)) (g2 BK134.out))) : p := h
theorem laws_big.z2 {p : Prop} (h : p := by (with_reducible repeat (first | refine blk_drewN ?_ _ | refine blk_drew ?_ | refine blk_alloc ?_ _)); refine blk_put (cs := #[.int .i64 ((rd_T93 l0 (rd x4_1 x6_1)).f0), .int .i64 ((rd_T93 l0 (rd x4_1 x6_1)).f1), .int .i64 x5_1, .int .i64 ((rd_T93 l0 (rd x4_1 x6_1)).f3), .int .i64 ((rd_T93 l0 (rd x4_1 x6_1)).f4)]) ?_ 3 _ rfl; (with_reducible repeat (first | refine blk_drewN ?_ _ | refine blk_drew ?_ | refine blk_alloc ?_ _)); refine blk_put (cs := #[.int .i64 ((rd_T93 l0 (rd x4_1 x6_1)).f0), .int .i64 ((rd_T93 l0 (rd x4_1 x6_1)).f1), .int .i64 ((rd_T93 l0 (rd x4_1 x6_1)).f2), .int .i64 ((rd_T93 l0 (rd x4_1 x6_1)).f3), .int .i64 ((rd_T93 l0 (rd x4_1 x6_1)).f4)]) ?_ 2 _ rfl; (with_reducible repeat (first | refine blk_drewN ?_ _ | refine blk_drew ?_ | refine blk_alloc ?_ _)); exact BK141.out) : p := h
theorem laws_big.z3 {p : Prop} (h : p := by (with_reducible repeat (first | apply Kd.R_alloc | apply Kd.R_drewN | apply Kd.R_drew)); exact (Kd.R_mono (Kd.R_far (p := ⟨gb141, 3, none⟩) (Kd.R_far (p := ⟨gb141, 2, none⟩) (Kd.R_mono HO_136000.out (fun k_ hk => (⟨hk, hk.2⟩ : _ ∧ k_ ≠ gb141))) (fun _ hk => hk.2) (.int .i64 x5_1)) (fun _ hk => hk.2) (.int .i64 (wrap64 (x5_1 + 1)))) (fun _ h_ => h_.1))) : p := h
theorem laws_big.z4 {p : Prop} (h : p := by rw [hg]; exact Nat.ne_of_lt (blk_lt (g := gb155) (o := .cells #[.slice A0_0 l0_0.length c0_0] 68 (0, 0)) (g2 BK155.out))) : p := h
theorem laws_big.z5 {p : Prop} (h : p := by rw [hg]; exact Nat.ne_of_gt (blk_lt (g := gb155) (o := .cells #[.slice A0_0 l0_0.length c0_0] 68 (0, 0)) (g2 BK155.out))) : p := h
theorem laws_big.z6 {p : Prop} (h : p := by have h_ : (a1 : Int) < ((y161.length : Int) : Int) := of_decide_eq_true (g6); first | exact h_ | (have e_ := (Kd.R_reads' HO163.out).1; omega) | simpa using h_) : p := h
theorem laws_big.K3_ {p0 p1 p2 : Prop} (h0 : p0) (h1 : p1) (h2 : p2) : Aside0 p0 ∧ Aside0 p1 ∧ Aside0 p2 := ⟨⟨h0⟩, ⟨h1⟩, ⟨h2⟩⟩
theorem laws_big.K4_ {p0 p1 p2 p3 : Prop} (h0 : p0) (h1 : p1) (h2 : p2) (h3 : p3) : Aside0 p0 ∧ Aside0 p1 ∧ Aside0 p2 ∧ Aside0 p3 := ⟨⟨h0⟩, ⟨h1⟩, ⟨h2⟩, ⟨h3⟩⟩
theorem laws_big.K5_ {p0 p1 p2 p3 p4 : Prop} (h0 : p0) (h1 : p1) (h2 : p2) (h3 : p3) (h4 : p4) : Aside0 p0 ∧ Aside0 p1 ∧ Aside0 p2 ∧ Aside0 p3 ∧ Aside0 p4 := ⟨⟨h0⟩, ⟨h1⟩, ⟨h2⟩, ⟨h3⟩, ⟨h4⟩⟩
theorem laws_big.K6_ {p0 p1 p2 p3 p4 p5 : Prop} (h0 : p0) (h1 : p1) (h2 : p2) (h3 : p3) (h4 : p4) (h5 : p5) : Aside0 p0 ∧ Aside0 p1 ∧ Aside0 p2 ∧ Aside0 p3 ∧ Aside0 p4 ∧ Aside0 p5 := ⟨⟨h0⟩, ⟨h1⟩, ⟨h2⟩, ⟨h3⟩, ⟨h4⟩, ⟨h5⟩⟩
theorem laws_big.K7_ {p0 p1 p2 p3 p4 p5 p6 : Prop} (h0 : p0) (h1 : p1) (h2 : p2) (h3 : p3) (h4 : p4) (h5 : p5) (h6 : p6) : Aside0 p0 ∧ Aside0 p1 ∧ Aside0 p2 ∧ Aside0 p3 ∧ Aside0 p4 ∧ Aside0 p5 ∧ Aside0 p6 := ⟨⟨h0⟩, ⟨h1⟩, ⟨h2⟩, ⟨h3⟩, ⟨h4⟩, ⟨h5⟩, ⟨h6⟩⟩
theorem laws_big.K10_ {p0 p1 p2 p3 p4 p5 p6 p7 p8 p9 : Prop} (h0 : p0) (h1 : p1) (h2 : p2) (h3 : p3) (h4 : p4) (h5 : p5) (h6 : p6) (h7 : p7) (h8 : p8) (h9 : p9) : Aside0 p0 ∧ Aside0 p1 ∧ Aside0 p2 ∧ Aside0 p3 ∧ Aside0 p4 ∧ Aside0 p5 ∧ Aside0 p6 ∧ Aside0 p7 ∧ Aside0 p8 ∧ Aside0 p9 := ⟨⟨h0⟩, ⟨h1⟩, ⟨h2⟩, ⟨h3⟩, ⟨h4⟩, ⟨h5⟩, ⟨h6⟩, ⟨h7⟩, ⟨h8⟩, ⟨h9⟩⟩
theorem laws_big.K12_ {p0 p1 p2 p3 p4 p5 p6 p7 p8 p9 p10 p11 : Prop} (h0 : p0) (h1 : p1) (h2 : p2) (h3 : p3) (h4 : p4) (h5 : p5) (h6 : p6) (h7 : p7) (h8 : p8) (h9 : p9) (h10 : p10) (h11 : p11) : Aside0 p0 ∧ Aside0 p1 ∧ Aside0 p2 ∧ Aside0 p3 ∧ Aside0 p4 ∧ Aside0 p5 ∧ Aside0 p6 ∧ Aside0 p7 ∧ Aside0 p8 ∧ Aside0 p9 ∧ Aside0 p10 ∧ Aside0 p11 := ⟨⟨h0⟩, ⟨h1⟩, ⟨h2⟩, ⟨h3⟩, ⟨h4⟩, ⟨h5⟩, ⟨h6⟩, ⟨h7⟩, ⟨h8⟩, ⟨h9⟩, ⟨h10⟩, ⟨h11⟩⟩
def laws_big.f (l0 : List Int) : Option (Bool) := some (decide ((l0.length : Int) > 1048576))
set_option maxHeartbeats 8000000 in
set_option maxRecDepth 100000 in
theorem laws_big.calls (A0 : Option Addr) (c0 : Nat) (l0 : List Int) (r : Bool) (w : World) (hr0 : Kd.C (Kd.int .u8) w A0 l0.length l0) (hc0 : l0.length ≤ c0) (h : laws_big.f l0 = some r) :
    Calls Try.prog 10 #[.slice A0 l0.length c0] w fun e w' => e = .returned (.bool r) ∧ Drawn0 w w' := by
 have HR0 := Aside0.mk hr0
 have HC0 := Aside0.mk hc0
 clear hr0 hc0
 have H : (some (decide ((l0.length : Int) > 1048576))) = some r := h
 clear h
 obtain rfl := Option.some.inj H
 go_enter Try.func10, Try.ntmps10
 go_wp2
 go_ret
 exact ⟨g0, g21⟩
def IsS105 (w0 W : World) (g : Nat) (f0 : List Int) (f1 : Int) (f2 : Int) : Prop := ∃ A0 c0, W.heap[g]? = some (.cells #[.slice A0 f0.length c0, .int .i64 f1, .int .i64 f2] 105 (0, 0)) ∧ w0.heap.size ≤ g ∧ Kd.C (Kd.int .u8) w0 A0 f0.length f0
theorem IsS105.grown {w0 W : World} {g : Nat} {f0 : List Int} {f1 : Int} {f2 : Int} {W1 : World} {row : Option Nat} (h : IsS105 w0 W g f0 f1 f2) (hw : W.grownBy W1 row) (hne : some g ≠ row) : IsS105 w0 W1 g f0 f1 f2 := by
 obtain ⟨A0, c0, hb, hg, hr0⟩ := h
 exact ⟨A0, c0, blk_grown hb hw hne, hg, hr0⟩
theorem IsS105.kept {w0 W : World} {g : Nat} {f0 : List Int} {f1 : Int} {f2 : Int} {W1 : World} {S : Nat → Prop} (h : IsS105 w0 W g f0 f1 f2) (hk : Kept W W1 S) (hne : ¬ S g) : IsS105 w0 W1 g f0 f1 f2 := by
 obtain ⟨A0, c0, hb, hg, hr0⟩ := h
 exact ⟨A0, c0, blk_kept hb hk hne, hg, hr0⟩
theorem IsS105.below {w0 W : World} {g : Nat} {f0 : List Int} {f1 : Int} {f2 : Int} {W1 : World} (h : IsS105 w0 W g f0 f1 f2) (hw : Below W.heap.size W W1) : IsS105 w0 W1 g f0 f1 f2 := h.grown (grown_of_below hw none) (by simp)
theorem IsS105.alloc {w0 W : World} {g : Nat} {f0 : List Int} {f1 : Int} {f2 : Int} (h : IsS105 w0 W g f0 f1 f2) (o : Obj) : IsS105 w0 (W.alloc o) g f0 f1 f2 := h.below (below_alloc (Below.refl _ _) o)
theorem IsS105.drewN {w0 W : World} {g : Nat} {f0 : List Int} {f1 : Int} {f2 : Int} (h : IsS105 w0 W g f0 f1 f2) (m : Nat) : IsS105 w0 (W.drewN m) g f0 f1 f2 := h
theorem IsS105.drew {w0 W : World} {g : Nat} {f0 : List Int} {f1 : Int} {f2 : Int} (h : IsS105 w0 W g f0 f1 f2) : IsS105 w0 W.drew g f0 f1 f2 := h
theorem IsS105.at_ {w0 W : World} {g : Nat} {f0 : List Int} {f1 : Int} {f2 : Int} {w' : World} {m : Nat} (hq : W.drewN m = w') (h : IsS105 w0 W g f0 f1 f2) : IsS105 w0 w' g f0 f1 f2 := by subst hq; exact IsS105.drewN h m
theorem IsS105.apart {w0 W : World} {g : Nat} {f0 : List Int} {f1 : Int} {f2 : Int} {α : Type} {d : Kd α} {e : Nat} {base : Nat} {ok : Nat → Prop} {v : Value} {xs : List α} (h : IsS105 w0 W g f0 f1 f2) (ho : d.R e W base ok v xs) (ht : ∀ q, q ∈ e :: d.E → q ≠ 105) : d.R e W base (fun k => ok k ∧ k ≠ g) v xs := by
 obtain ⟨A0, c0, hb, hg, hr0⟩ := h
 exact Kd.R_types ho hb ht
theorem IsS105.own_ne {w0 W : World} {g : Nat} {f0 : List Int} {f1 : Int} {f2 : Int} {α : Type} {d : Kd α} {e : Nat} {base : Nat} {ok : Nat → Prop} {v : Value} {xs : List α} (h : IsS105 w0 W g f0 f1 f2) (ho : d.R e W base ok v xs) (ht : e ≠ 105) : some g ≠ v.ownBlock := by
 obtain ⟨A0, c0, hb, hg, hr0⟩ := h
 exact Kd.R_ne ho hb ht
theorem IsS105.apartS {w0 W : World} {g : Nat} {f0 : List Int} {f1 : Int} {f2 : Int} {α : Type} {d : Kd α} {e : Nat} {base : Nat} {ok : Nat → Prop} {v : Value} {xs : List α} (h : IsS105 w0 W g f0 f1 f2) (ho : d.S e W base ok v xs) (ht : ∀ q, q ∈ e :: d.E → q ≠ 105) : d.S e W base (fun k => ok k ∧ k ≠ g) v xs := by
 obtain ⟨A0, c0, hb, hg, hr0⟩ := h
 exact Kd.S_types ho hb ht
theorem IsS105.own_neS {w0 W : World} {g : Nat} {f0 : List Int} {f1 : Int} {f2 : Int} {α : Type} {d : Kd α} {e : Nat} {base : Nat} {ok : Nat → Prop} {v : Value} {xs : List α} (h : IsS105 w0 W g f0 f1 f2) (ho : d.S e W base ok v xs) (ht : e ≠ 105) : some g ≠ v.ownBlock := by
 obtain ⟨A0, c0, hb, hg, hr0⟩ := h
 exact Kd.S_ne ho hb ht
theorem IsS105.lt {w0 W : World} {g : Nat} {f0 : List Int} {f1 : Int} {f2 : Int} (h : IsS105 w0 W g f0 f1 f2) : g < W.heap.size := by
 obtain ⟨A0, c0, hb, hg, hr0⟩ := h
 exact blk_lt hb
theorem IsS105.ge {w0 W : World} {g : Nat} {f0 : List Int} {f1 : Int} {f2 : Int} (h : IsS105 w0 W g f0 f1 f2) : w0.heap.size ≤ g := by
 obtain ⟨A0, c0, hb, hg, hr0⟩ := h
 exact hg
theorem IsS105.ne_blk {w0 W : World} {g : Nat} {f0 : List Int} {f1 : Int} {f2 : Int} {a : Nat} {cs : Array Value} {t : TypeId} {fr : Nat × Nat} (h : IsS105 w0 W g f0 f1 f2) (hb2 : W.heap[a]? = some (.cells cs t fr)) (ht : t ≠ 105) : g ≠ a := by
 obtain ⟨A0, c0, hb, hg, hr0⟩ := h
 rintro rfl
 rw [hb] at hb2
 injection hb2 with hb2
 injection hb2 with _ ht2
 exact ht ht2.symm
theorem IsS105.far {w0 W : World} {g : Nat} {f0 : List Int} {f1 : Int} {f2 : Int} {p : Addr} (h : IsS105 w0 W g f0 f1 f2) (hne : g ≠ p.block) (u : Value) : IsS105 w0 (W.setCell p u) g f0 f1 f2 := by
 obtain ⟨A0, c0, hb, hg, hr0⟩ := h
 exact ⟨A0, c0, blk_far hb hne u, hg, hr0⟩
theorem cellS105_0 {W : World} {g : Nat} {A0 : Option Addr} {c0 : Nat} {f0 : List Int} {f1 : Int} {f2 : Int} (h : W.heap[g]? = some (.cells #[.slice A0 f0.length c0, .int .i64 f1, .int .i64 f2] 105 (0, 0))) : W.cell? ⟨g, 0, none⟩ = some (.slice A0 f0.length c0) := (blk_cell h 0).trans rfl
theorem cellS105_1 {W : World} {g : Nat} {A0 : Option Addr} {c0 : Nat} {f0 : List Int} {f1 : Int} {f2 : Int} (h : W.heap[g]? = some (.cells #[.slice A0 f0.length c0, .int .i64 f1, .int .i64 f2] 105 (0, 0))) : W.cell? ⟨g, 1, none⟩ = some (.int .i64 f1) := (blk_cell h 1).trans rfl
theorem IsS105.set_1 {w0 W : World} {g : Nat} {f0 : List Int} {f1 : Int} {f2 : Int} (h : IsS105 w0 W g f0 f1 f2) (x : Int) : IsS105 w0 (W.setCell ⟨g, 1, none⟩ (.int .i64 x)) g f0 x f2 := by
 obtain ⟨A0, c0, hb, hg, hr0⟩ := h
 exact ⟨A0, c0, by simpa using blk_set hb 1 (.int .i64 x), hg, hr0⟩
theorem cellS105_2 {W : World} {g : Nat} {A0 : Option Addr} {c0 : Nat} {f0 : List Int} {f1 : Int} {f2 : Int} (h : W.heap[g]? = some (.cells #[.slice A0 f0.length c0, .int .i64 f1, .int .i64 f2] 105 (0, 0))) : W.cell? ⟨g, 2, none⟩ = some (.int .i64 f2) := (blk_cell h 2).trans rfl
theorem IsS105.set_2 {w0 W : World} {g : Nat} {f0 : List Int} {f1 : Int} {f2 : Int} (h : IsS105 w0 W g f0 f1 f2) (x : Int) : IsS105 w0 (W.setCell ⟨g, 2, none⟩ (.int .i64 x)) g f0 f1 x := by
 obtain ⟨A0, c0, hb, hg, hr0⟩ := h
 exact ⟨A0, c0, by simpa using blk_set hb 2 (.int .i64 x), hg, hr0⟩
def spec_l1New.l0 : Nat → List Int → Int → Int → Option (List Int × Int × Int)
  | 0, _, _, _ => none
  | k + 1, x0, x3, x4 => if x4 < (x0.length : Int) then (if x4 < 4000 then (if 0 ≤ x4 then (spec_l1New.l0 k x0 (Go.bits .and .i64 (wrap64 ((wrap64 ((wrap64 (x3 * 131)) + (wrap64 (rd x0 x4)))) + 7)) 1073741823) (wrap64 (x4 + 1))) else (none)) else (some (x0, 0, x3))) else (some (x0, 0, x3))
def spec_l1New.f (k : Nat) (l0 : List Int) : Option (List Int × Int × Int) := spec_l1New.l0 k l0 (wrap64 (28507 + (l0.length : Int))) 0
theorem spec_l1New.mono_l : ∀ k, (∀ y0 y1 y2, LeO (spec_l1New.l0 k y0 y1 y2) (spec_l1New.l0 (k + 1) y0 y1 y2))
  | 0 => fun _ _ _ r h => by simp [spec_l1New.l0] at h
  | k + 1 => by
    have ih0 := spec_l1New.mono_l k
    · intro y0 y1 y2
      unfold spec_l1New.l0
      repeat' first
      | (with_reducible exact ih0 _ _ _)
      | (with_reducible exact LeO.refl _)
      | (with_reducible exact LeO.none _)
      | (with_reducible refine LeO.ite ?_ ?_)
      | (with_reducible refine LeO.bind ?_ (fun _ => ?_))
      | exact ih0 _ _ _
      | exact LeO.none _
      | refine LeO.ite ?_ ?_
      | refine LeO.bind ?_ (fun _ => ?_)
theorem spec_l1New.mono : ∀ a0 k, LeO (spec_l1New.f k a0) (spec_l1New.f (k + 1) a0) := by
  intro a0 k
  have ih0 := spec_l1New.mono_l k
  unfold spec_l1New.f
  repeat' first
      | (with_reducible exact ih0 _ _ _)
      | (with_reducible exact LeO.refl _)
      | (with_reducible exact LeO.none _)
      | (with_reducible refine LeO.ite ?_ ?_)
      | (with_reducible refine LeO.bind ?_ (fun _ => ?_))
      | exact ih0 _ _ _
      | exact LeO.none _
      | refine LeO.ite ?_ ?_
      | refine LeO.bind ?_ (fun _ => ?_)
set_option maxHeartbeats 8000000 in
set_option maxRecDepth 100000 in
theorem spec_l1New.calls (k : Nat) (A0 : Option Addr) (c0 : Nat) (l0 : List Int) (r1 : List Int) (r2 : Int) (r3 : Int) (w0 w : World) (hB : Below w0.heap.size w0 w) (hr0 : Kd.C (Kd.int .u8) w0 A0 l0.length l0) (hc0 : l0.length ≤ c0) (h : spec_l1New.f k l0 = some (r1, r2, r3)) :
    Calls Try.prog 46 #[.slice A0 l0.length c0] w fun e w' => ∃ g_ : Nat, e = .returned (.pointer (some ⟨g_, 0, none⟩)) ∧ IsS105 w0 w' g_ r1 r2 r3 ∧ Below w0.heap.size w0 w' ∧ Below w.heap.size w w' := by
 have hu105 := Try.underlying105
 have HR0 := Aside0.mk hr0
 have HC0 := Aside0.mk hc0
 clear hr0 hc0
 have HBW := Aside0.mk (Below.refl w.heap.size w)
 have HW0 := Aside0.mk hB.size
 have HB := Aside0.mk hB
 clear hB
 have H : (spec_l1New.l0 k l0 (wrap64 (28507 + (l0.length : Int))) 0) = some (r1, r2, r3) := h
 clear h
 have H' := Aside0.mk H
 clear H
 go_enter Try.func46, Try.ntmps46
 go_wp2
 go_loopg [3, 4] k (fun kq v3 v4 w' => ∃ (x3_1 : Int) (x4_1 : Int), v3 = .int .i64 x3_1 ∧ v4 = .int .i64 x4_1 ∧ Aside0 (spec_l1New.l0 kq l0 x3_1 x4_1 = some (r1, r2, r3)) ∧ Aside0 (kq ≤ k) ∧ Aside0 (Below w0.heap.size w0 w') ∧ Aside0 (Below w.heap.size w w'))
 case atStart => exact ⟨(wrap64 (28507 + (l0.length : Int))), (0), (g0), (g0), H', ⟨Nat.le_refl _⟩, ⟨g4 HB.out⟩, ⟨g4 HBW.out⟩⟩
 case round =>
  clear H'
  obtain ⟨x3_1, x4_1, rfl, rfl, HA, HK1, HB, HBW⟩ := hrel
  cases gk with
  | zero => exact absurd HA.out (by simp [spec_l1New.l0])
  | succ k1 =>
   have H := HA.out
   clear HA
   simp only [spec_l1New.l0] at H
   by_cases c2 : x4_1 < (l0.length : Int)
   case neg =>
    rw [if_neg c2] at H
    have c2b0 : decide (x4_1 < (l0.length : Int)) = false := decide_eq_false c2
    clear c2
    simp only [Option.some.injEq, Prod.mk.injEq] at H
    obtain ⟨rfl, rfl, rfl⟩ := H
    go_wp2_with (first | ((with_reducible refine gate_dst (N := 31) rfl ?_); refine box_event ?hg (N := 31) ?hd (cs := #[.slice A0 l0.length c0, .int .i64 0, .int .i64 x3_1]) (t := 105) ?hr ?_; (case hd => rfl); (case hg => rfl); (case hr => exact g10); intro gb103 hg w6 hbox hb; have n_ := laws_big.K5_ (below_step HBW.out hb) (below_step (g4 HB.out) hb) hbox ((g11 HBW.out : w.heap.size ≤ gb103)) ((Nat.le_trans HW0.out (g11 HBW.out : w.heap.size ≤ gb103) : w0.heap.size ≤ gb103)); clear HBW HB; obtain ⟨HBW, HB, BK103, GW103, GE103⟩ := n_; clear hb hbox hg))
    go_ret
    exact ⟨_, rfl, (show IsS105 w0 _ gb103 l0 0 x3_1 from ⟨_, _, g2 BK103.out, GE103.out, HR0.out⟩), g12 HB.out GE103.out, g12 HBW.out GW103.out⟩
   rw [if_pos c2] at H
   have c2b0 : decide (x4_1 < (l0.length : Int)) = true := decide_eq_true c2
   clear c2
   by_cases c3 : x4_1 < 4000
   case neg =>
    rw [if_neg c3] at H
    have c3b0 : decide (x4_1 < 4000) = false := decide_eq_false c3
    clear c3
    simp only [Option.some.injEq, Prod.mk.injEq] at H
    obtain ⟨rfl, rfl, rfl⟩ := H
    go_wp2_with (first | ((with_reducible refine gate_dst (N := 31) rfl ?_); refine box_event ?hg (N := 31) ?hd (cs := #[.slice A0 l0.length c0, .int .i64 0, .int .i64 x3_1]) (t := 105) ?hr ?_; (case hd => rfl); (case hg => rfl); (case hr => exact g10); intro gb102 hg w5 hbox hb; have n_ := laws_big.K5_ (below_step HBW.out hb) (below_step (g4 HB.out) hb) hbox ((g11 HBW.out : w.heap.size ≤ gb102)) ((Nat.le_trans HW0.out (g11 HBW.out : w.heap.size ≤ gb102) : w0.heap.size ≤ gb102)); clear HBW HB; obtain ⟨HBW, HB, BK102, GW102, GE102⟩ := n_; clear hb hbox hg))
    go_ret
    exact ⟨_, rfl, (show IsS105 w0 _ gb102 l0 0 x3_1 from ⟨_, _, g2 BK102.out, GE102.out, HR0.out⟩), g12 HB.out GE102.out, g12 HBW.out GW102.out⟩
   rw [if_pos c3] at H
   have c3b0 : decide (x4_1 < 4000) = true := decide_eq_true c3
   clear c3
   by_cases c4 : 0 ≤ x4_1
   case neg =>
    rw [if_neg c4] at H
    exact absurd H (by simp)
   rw [if_pos c4] at H
   have c4b0 : decide (0 ≤ x4_1) = true := decide_eq_true c4
   clear c4
   have H' := Aside0.mk H
   clear H
   have p101 : 0 ≤ (x4_1 : Int) := of_decide_eq_true (g6)
   have q101 : x4_1 < (l0.length : Int) := of_decide_eq_true (g6)
   obtain ⟨ad101, e101, hx101_0⟩ := Kd.at_int HR0.out x4_1 p101 q101
   cases e101
   replace hx101_0 := pw_cell_below HB.out hx101_0
   replace p101 := eq_true p101
   replace q101 := eq_true q101
   go_wp2
   go_roundg k1
   case measure => have := HK1.out; omega
   case rel => exact ⟨(Go.bits .and .i64 (wrap64 ((wrap64 ((wrap64 (x3_1 * 131)) + (wrap64 (rd l0 x4_1)))) + 7)) 1073741823), (wrap64 (x4_1 + 1)), (g0), (g0), H', ⟨by have := HK1.out; omega⟩, ⟨g4 HB.out⟩, ⟨g4 HBW.out⟩⟩
def spec_l1Byte.f (s0_0 : List Int) (s0_1 : Int) (s0_2 : Int) : Option (Int × Int × Int) := if s0_1 < (s0_0.length : Int) then (if 0 ≤ s0_1 then (some (Go.bits .and .i64 (wrap64 ((Go.bits .and .i64 (Go.bits .xor .i64 ((wrap64 ((wrap64 (s0_2 * 6364136223846793005)) + 1442695040888963407)) / 8589934592) ((wrap64 ((wrap64 (s0_2 * 6364136223846793005)) + 1442695040888963407)) / 35184372088832)) 255) + (wrap64 (rd s0_0 s0_1)))) 255, wrap64 (s0_1 + 1), wrap64 ((wrap64 (s0_2 * 6364136223846793005)) + 1442695040888963407))) else (none)) else (some (Go.bits .and .i64 (Go.bits .xor .i64 ((wrap64 ((wrap64 (s0_2 * 6364136223846793005)) + 1442695040888963407)) / 8589934592) ((wrap64 ((wrap64 (s0_2 * 6364136223846793005)) + 1442695040888963407)) / 35184372088832)) 255, s0_1, wrap64 ((wrap64 (s0_2 * 6364136223846793005)) + 1442695040888963407)))
set_option maxHeartbeats 8000000 in
set_option maxRecDepth 100000 in
theorem spec_l1Byte.calls (g : Nat) (s0_0 : List Int) (s0_1 : Int) (s0_2 : Int) (r1 : Int) (r2 : Int) (r3 : Int) (w0 w : World) (hI : IsS105 w0 w g s0_0 s0_1 s0_2) (hB : Below w0.heap.size w0 w) (h : spec_l1Byte.f s0_0 s0_1 s0_2 = some (r1, r2, r3)) :
    Calls Try.prog 137 #[.pointer (some ⟨g, 0, none⟩)] w fun e w' => e = .returned (.int .i64 r1) ∧ IsS105 w0 w' g s0_0 r2 r3 ∧ Below w0.heap.size w0 w' ∧ KeepBut w w' g none := by
 have HI0 := Aside0.mk hI
 have HK := Aside0.mk (KeepBut.refl w g none)
 have HL := Aside0.mk hB.size
 clear hI
 have HW0 := Aside0.mk hB.size
 have HB := Aside0.mk hB
 clear hB
 have H : (if s0_1 < (s0_0.length : Int) then (if 0 ≤ s0_1 then (some (Go.bits .and .i64 (wrap64 ((Go.bits .and .i64 (Go.bits .xor .i64 ((wrap64 ((wrap64 (s0_2 * 6364136223846793005)) + 1442695040888963407)) / 8589934592) ((wrap64 ((wrap64 (s0_2 * 6364136223846793005)) + 1442695040888963407)) / 35184372088832)) 255) + (wrap64 (rd s0_0 s0_1)))) 255, wrap64 (s0_1 + 1), wrap64 ((wrap64 (s0_2 * 6364136223846793005)) + 1442695040888963407))) else (none)) else (some (Go.bits .and .i64 (Go.bits .xor .i64 ((wrap64 ((wrap64 (s0_2 * 6364136223846793005)) + 1442695040888963407)) / 8589934592) ((wrap64 ((wrap64 (s0_2 * 6364136223846793005)) + 1442695040888963407)) / 35184372088832)) 255, s0_1, wrap64 ((wrap64 (s0_2 * 6364136223846793005)) + 1442695040888963407)))) = some (r1, r2, r3) := h
 clear h
 by_cases c2 : s0_1 < (s0_0.length : Int)
 case neg =>
  rw [if_neg c2] at H
  have c2b0 : decide (s0_1 < (s0_0.length : Int)) = false := decide_eq_false c2
  clear c2
  simp only [Option.some.injEq, Prod.mk.injEq] at H
  obtain ⟨rfl, rfl, rfl⟩ := H
  obtain ⟨ASz5_0, cSz5_0, HGz5, hgz5, HSz5_0⟩ := HI0.out
  have hcz5_0 := cellS105_0 HGz5
  have hcz5_1 := cellS105_1 HGz5
  have hcz5_2 := cellS105_2 HGz5
  have hfz5_1 := blk_frozen HGz5 1
  have hfz5_2 := blk_frozen HGz5 2
  clear HGz5 hgz5
  go_enter Try.func137, Try.ntmps137
  go_wp2
  repeat (go_quiet (fail); try go_wp2)
  go_ret
  exact ⟨g5, g29 HI0.out, g30 HB.out HI0.out, g31 HK.out⟩
 rw [if_pos c2] at H
 have c2b0 : decide (s0_1 < (s0_0.length : Int)) = true := decide_eq_true c2
 clear c2
 by_cases c3 : 0 ≤ s0_1
 case neg =>
  rw [if_neg c3] at H
  exact absurd H (by simp)
 rw [if_pos c3] at H
 have c3b0 : decide (0 ≤ s0_1) = true := decide_eq_true c3
 clear c3
 simp only [Option.some.injEq, Prod.mk.injEq] at H
 obtain ⟨rfl, rfl, rfl⟩ := H
 obtain ⟨ASz4_0, cSz4_0, HGz4, hgz4, HSz4_0⟩ := HI0.out
 have hcz4_0 := cellS105_0 HGz4
 have hcz4_1 := cellS105_1 HGz4
 have hcz4_2 := cellS105_2 HGz4
 have hfz4_1 := blk_frozen HGz4 1
 have hfz4_2 := blk_frozen HGz4 2
 clear HGz4 hgz4
 have p104 : 0 ≤ (s0_1 : Int) := of_decide_eq_true (g6)
 have q104 : s0_1 < (s0_0.length : Int) := of_decide_eq_true (g6)
 obtain ⟨ad104, e104, hx104_0⟩ := Kd.at_int HSz4_0 s0_1 p104 q104
 cases e104
 have hn104_0 : ad104.block ≠ g := Nat.ne_of_lt (Nat.lt_of_lt_of_le (by have := World.block_lt_of_cell? _ _ hx104_0; first | rwa [add_block] at this | exact this) (IsS105.ge HI0.out))
 replace hx104_0 := pw_cell_below HB.out hx104_0
 replace hx104_0 := (cell_far (p := ⟨g, 2, none⟩) (by first | (rw [add_block]; exact hn104_0) | (show (Addr.add _ _).block ≠ _; rw [add_block]; exact hn104_0) | exact hn104_0) (.int .i64 (wrap64 ((wrap64 (s0_2 * 6364136223846793005)) + 1442695040888963407)))).trans hx104_0
 (try have hy104_0 := fun (n_ : Nat) => (show (((w.drewN n_).setCell ⟨g, 2, none⟩ (.int .i64 (wrap64 ((wrap64 (s0_2 * 6364136223846793005)) + 1442695040888963407))))).cell? _ = some _ from hx104_0))
 clear hn104_0
 replace p104 := eq_true p104
 replace q104 := eq_true q104
 go_enter Try.func137, Try.ntmps137
 go_wp2
 repeat (go_quiet (fail); try go_wp2)
 go_ret
 exact ⟨g5, g29 HI0.out, g30 HB.out HI0.out, g31 HK.out⟩
def spec_l1Below.f (s0_0 : List Int) (s0_1 : Int) (s0_2 : Int) (a1 : Int) : Option (Int × Int × Int) := if a1 ≤ 0 then (some (0, s0_1, s0_2)) else (if a1 ≤ 256 then ((spec_l1Byte.f s0_0 s0_1 s0_2).bind fun bt105 => (if a1 = 0 then (none) else (some (Int.tmod bt105.1 a1, bt105.2.1, bt105.2.2)))) else ((spec_l1Byte.f s0_0 s0_1 s0_2).bind fun bt108 => ((spec_l1Byte.f s0_0 bt108.2.1 bt108.2.2).bind fun bt111 => ((spec_l1Byte.f s0_0 bt111.2.1 bt111.2.2).bind fun bt114 => ((spec_l1Byte.f s0_0 bt114.2.1 bt114.2.2).bind fun bt117 => (if a1 = 0 then (none) else (some (Int.tmod (wrap64 ((wrap64 ((wrap64 ((wrap64 (bt108.1 * 16777216)) + (wrap64 (bt111.1 * 65536)))) + (wrap64 (bt114.1 * 256)))) + bt117.1)) a1, bt117.2.1, bt117.2.2))))))))
set_option maxHeartbeats 8000000 in
set_option maxRecDepth 100000 in
theorem spec_l1Below.calls (g : Nat) (s0_0 : List Int) (s0_1 : Int) (s0_2 : Int) (a1 : Int) (r1 : Int) (r2 : Int) (r3 : Int) (w0 w : World) (hI : IsS105 w0 w g s0_0 s0_1 s0_2) (hB : Below w0.heap.size w0 w) (h : spec_l1Below.f s0_0 s0_1 s0_2 a1 = some (r1, r2, r3)) :
    Calls Try.prog 101 #[.pointer (some ⟨g, 0, none⟩), .int .i64 a1] w fun e w' => e = .returned (.int .i64 r1) ∧ IsS105 w0 w' g s0_0 r2 r3 ∧ Below w0.heap.size w0 w' ∧ KeepBut w w' g none := by
 have HI0 := Aside0.mk hI
 have HK := Aside0.mk (KeepBut.refl w g none)
 have HL := Aside0.mk hB.size
 clear hI
 have HW0 := Aside0.mk hB.size
 have HB := Aside0.mk hB
 clear hB
 have H : (if a1 ≤ 0 then (some (0, s0_1, s0_2)) else (if a1 ≤ 256 then ((spec_l1Byte.f s0_0 s0_1 s0_2).bind fun bt105 => (if a1 = 0 then (none) else (some (Int.tmod bt105.1 a1, bt105.2.1, bt105.2.2)))) else ((spec_l1Byte.f s0_0 s0_1 s0_2).bind fun bt108 => ((spec_l1Byte.f s0_0 bt108.2.1 bt108.2.2).bind fun bt111 => ((spec_l1Byte.f s0_0 bt111.2.1 bt111.2.2).bind fun bt114 => ((spec_l1Byte.f s0_0 bt114.2.1 bt114.2.2).bind fun bt117 => (if a1 = 0 then (none) else (some (Int.tmod (wrap64 ((wrap64 ((wrap64 ((wrap64 (bt108.1 * 16777216)) + (wrap64 (bt111.1 * 65536)))) + (wrap64 (bt114.1 * 256)))) + bt117.1)) a1, bt117.2.1, bt117.2.2))))))))) = some (r1, r2, r3) := h
 clear h
 by_cases c3 : a1 ≤ 0
 case pos =>
  rw [if_pos c3] at H
  have c3b0 : decide (a1 ≤ 0) = true := decide_eq_true c3
  clear c3
  simp only [Option.some.injEq, Prod.mk.injEq] at H
  obtain ⟨rfl, rfl, rfl⟩ := H
  go_enter Try.func101, Try.ntmps101
  go_wp2
  go_ret
  exact ⟨g5, g29 HI0.out, g30 HB.out HI0.out, g31 HK.out⟩
 rw [if_neg c3] at H
 have c3b0 : decide (a1 ≤ 0) = false := decide_eq_false c3
 clear c3
 by_cases c4 : a1 ≤ 256
 case pos =>
  rw [if_pos c4] at H
  have c4b0 : decide (a1 ≤ 256) = true := decide_eq_true c4
  clear c4
  replace H := Option.bind_eq_some_iff.mp H
  obtain ⟨⟨t105, t106, t107⟩, A50, H⟩ := H
  replace H : (if a1 = 0 then (none) else (some (Int.tmod t105 a1, t106, t107))) = some (r1, r2, r3) := H
  have A5 := Aside0.mk A50
  clear A50
  by_cases c6 : a1 = 0
  case pos =>
   rw [if_pos c6] at H
   exact absurd H (by simp)
  rw [if_neg c6] at H
  have c6b0 : (a1 == 0) = false := beq_eq_false_iff_ne.mpr c6
  have c6b1 : (a1 != 0) = true := bne_iff_ne.mpr c6
  simp only [Option.some.injEq, Prod.mk.injEq] at H
  obtain ⟨rfl, rfl, rfl⟩ := H
  go_enter Try.func101, Try.ntmps101
  go_wp2_with (first | ((with_reducible refine gate_callee (f := 137) rfl ?_); refine goesL_ (some 14) rfl rfl Try.func137 (by kernel_rfl) rfl #[.pointer (some ⟨g, 0, none⟩)] rfl (g9) ?_; (with_reducible refine (spec_l1Byte.calls g s0_0 s0_1 s0_2 t105 t106 t107 w0 _ ?side1 ?side2 A5.out).mono ?_); (case side1 => exact g29 HI0.out); (case side2 => exact g30 HB.out HI0.out); rintro e w7 ⟨rfl, hi, hb, hk⟩; refine ⟨_, rfl, ?_⟩; have n_ := laws_big.K3_ (KeepBut.trans (g31 HK.out) hk (.inl rfl)) hb hi; clear HK HB HI0; obtain ⟨HK, HB, HI0⟩ := n_; (try clear hb); (try clear hb2); (try clear hk); (try clear hi)))
  go_ret
  exact ⟨g5, g29 HI0.out, g30 HB.out HI0.out, g31 HK.out⟩
 rw [if_neg c4] at H
 have c4b0 : decide (a1 ≤ 256) = false := decide_eq_false c4
 clear c4
 replace H := Option.bind_eq_some_iff.mp H
 obtain ⟨⟨t108, t109, t110⟩, A80, H⟩ := H
 replace H : ((spec_l1Byte.f s0_0 t109 t110).bind fun bt111 => ((spec_l1Byte.f s0_0 bt111.2.1 bt111.2.2).bind fun bt114 => ((spec_l1Byte.f s0_0 bt114.2.1 bt114.2.2).bind fun bt117 => (if a1 = 0 then (none) else (some (Int.tmod (wrap64 ((wrap64 ((wrap64 ((wrap64 (t108 * 16777216)) + (wrap64 (bt111.1 * 65536)))) + (wrap64 (bt114.1 * 256)))) + bt117.1)) a1, bt117.2.1, bt117.2.2)))))) = some (r1, r2, r3) := H
 have A8 := Aside0.mk A80
 clear A80
 replace H := Option.bind_eq_some_iff.mp H
 obtain ⟨⟨t111, t112, t113⟩, A90, H⟩ := H
 replace H : ((spec_l1Byte.f s0_0 t112 t113).bind fun bt114 => ((spec_l1Byte.f s0_0 bt114.2.1 bt114.2.2).bind fun bt117 => (if a1 = 0 then (none) else (some (Int.tmod (wrap64 ((wrap64 ((wrap64 ((wrap64 (t108 * 16777216)) + (wrap64 (t111 * 65536)))) + (wrap64 (bt114.1 * 256)))) + bt117.1)) a1, bt117.2.1, bt117.2.2))))) = some (r1, r2, r3) := H
 have A9 := Aside0.mk A90
 clear A90
 replace H := Option.bind_eq_some_iff.mp H
 obtain ⟨⟨t114, t115, t116⟩, A100, H⟩ := H
 replace H : ((spec_l1Byte.f s0_0 t115 t116).bind fun bt117 => (if a1 = 0 then (none) else (some (Int.tmod (wrap64 ((wrap64 ((wrap64 ((wrap64 (t108 * 16777216)) + (wrap64 (t111 * 65536)))) + (wrap64 (t114 * 256)))) + bt117.1)) a1, bt117.2.1, bt117.2.2)))) = some (r1, r2, r3) := H
 have A10 := Aside0.mk A100
 clear A100
 replace H := Option.bind_eq_some_iff.mp H
 obtain ⟨⟨t117, t118, t119⟩, A110, H⟩ := H
 replace H : (if a1 = 0 then (none) else (some (Int.tmod (wrap64 ((wrap64 ((wrap64 ((wrap64 (t108 * 16777216)) + (wrap64 (t111 * 65536)))) + (wrap64 (t114 * 256)))) + t117)) a1, t118, t119))) = some (r1, r2, r3) := H
 have A11 := Aside0.mk A110
 clear A110
 by_cases c12 : a1 = 0
 case pos =>
  rw [if_pos c12] at H
  exact absurd H (by simp)
 rw [if_neg c12] at H
 have c12b0 : (a1 == 0) = false := beq_eq_false_iff_ne.mpr c12
 have c12b1 : (a1 != 0) = true := bne_iff_ne.mpr c12
 simp only [Option.some.injEq, Prod.mk.injEq] at H
 obtain ⟨rfl, rfl, rfl⟩ := H
 go_enter Try.func101, Try.ntmps101
 go_wp2_with (first | ((with_reducible refine gate_callee (f := 137) rfl ?_); refine goesL_ (some 18) rfl rfl Try.func137 (by kernel_rfl) rfl #[.pointer (some ⟨g, 0, none⟩)] rfl (g9) ?_; (with_reducible refine (spec_l1Byte.calls g s0_0 s0_1 s0_2 t108 t109 t110 w0 _ ?side1 ?side2 A8.out).mono ?_); (case side1 => exact g29 HI0.out); (case side2 => exact g30 HB.out HI0.out); rintro e w13 ⟨rfl, hi, hb, hk⟩; refine ⟨_, rfl, ?_⟩; have n_ := laws_big.K3_ (KeepBut.trans (g31 HK.out) hk (.inl rfl)) hb hi; clear HK HB HI0; obtain ⟨HK, HB, HI0⟩ := n_; (try clear hb); (try clear hb2); (try clear hk); (try clear hi)) | ((with_reducible refine gate_callee (f := 137) rfl ?_); refine goesL_ (some 20) rfl rfl Try.func137 (by kernel_rfl) rfl #[.pointer (some ⟨g, 0, none⟩)] rfl (g9) ?_; (with_reducible refine (spec_l1Byte.calls g s0_0 t109 t110 t111 t112 t113 w0 _ ?side1 ?side2 A9.out).mono ?_); (case side1 => exact g29 HI0.out); (case side2 => exact g30 HB.out HI0.out); rintro e w14 ⟨rfl, hi, hb, hk⟩; refine ⟨_, rfl, ?_⟩; have n_ := laws_big.K3_ (KeepBut.trans (g31 HK.out) hk (.inl rfl)) hb hi; clear HK HB HI0; obtain ⟨HK, HB, HI0⟩ := n_; (try clear hb); (try clear hb2); (try clear hk); (try clear hi)) | ((with_reducible refine gate_callee (f := 137) rfl ?_); refine goesL_ (some 22) rfl rfl Try.func137 (by kernel_rfl) rfl #[.pointer (some ⟨g, 0, none⟩)] rfl (g9) ?_; (with_reducible refine (spec_l1Byte.calls g s0_0 t112 t113 t114 t115 t116 w0 _ ?side1 ?side2 A10.out).mono ?_); (case side1 => exact g29 HI0.out); (case side2 => exact g30 HB.out HI0.out); rintro e w15 ⟨rfl, hi, hb, hk⟩; refine ⟨_, rfl, ?_⟩; have n_ := laws_big.K3_ (KeepBut.trans (g31 HK.out) hk (.inl rfl)) hb hi; clear HK HB HI0; obtain ⟨HK, HB, HI0⟩ := n_; (try clear hb); (try clear hb2); (try clear hk); (try clear hi)) | ((with_reducible refine gate_callee (f := 137) rfl ?_); refine goesL_ (some 24) rfl rfl Try.func137 (by kernel_rfl) rfl #[.pointer (some ⟨g, 0, none⟩)] rfl (g9) ?_; (with_reducible refine (spec_l1Byte.calls g s0_0 t115 t116 t117 t118 t119 w0 _ ?side1 ?side2 A11.out).mono ?_); (case side1 => exact g29 HI0.out); (case side2 => exact g30 HB.out HI0.out); rintro e w16 ⟨rfl, hi, hb, hk⟩; refine ⟨_, rfl, ?_⟩; have n_ := laws_big.K3_ (KeepBut.trans (g31 HK.out) hk (.inl rfl)) hb hi; clear HK HB HI0; obtain ⟨HK, HB, HI0⟩ := n_; (try clear hb); (try clear hb2); (try clear hk); (try clear hi)))
 go_ret
 exact ⟨g5, g29 HI0.out, g30 HB.out HI0.out, g31 HK.out⟩
def spec_OneLeaf.f (a0 : Int) : Option ((List (S93))) := some (([(⟨(-1), 0, 0, 0, a0⟩ : S93)] : List (S93)))
set_option maxHeartbeats 8000000 in
set_option maxRecDepth 100000 in
theorem spec_OneLeaf.calls (a0 : Int) (r : List (S93)) (w : World) (h : spec_OneLeaf.f a0 = some r) :
    Calls Try.prog 122 #[.int .i64 a0] w fun e w' => ∃ v0_ : Value, e = .returned (.agg #[v0_]) ∧ Kd.R k93 93 w' w.heap.size (fun _ => True) v0_ r ∧ Below w.heap.size w w' := by
 have hu68 := Try.underlying68
 have hu93 := Try.underlying93
 have HB := Aside0.mk (Below.refl w.heap.size w)
 have H : (some (([(⟨(-1), 0, 0, 0, a0⟩ : S93)] : List (S93)))) = some r := h
 clear h
 obtain ⟨y121, hy121⟩ : ∃ y_ : List (S93), y_ = (([(⟨(-1), 0, 0, 0, a0⟩ : S93)] : List (S93))) := ⟨_, rfl⟩
 replace H : (some y121) = some r := by first | (rw [hy121]; with_reducible exact H) | (have H2_ := (Option.bind_some _ _).symm.trans H; rw [hy121]; with_reducible exact H2_) | (have H2_ := (Option.bind_some _ _).symm.trans H; with_reducible exact H2_) | with_reducible exact H | (rw [hy121]; exact H) | exact H
 have Ny121 := Aside0.mk hy121
 clear hy121
 obtain rfl := Option.some.inj H
 go_enter Try.func122, Try.ntmps122
 go_wp2_with (first | ((with_reducible refine gate_dst (N := 2) rfl ?_); refine box_event ?hg (N := 2) ?hd (cs := #[.slice none 0 0]) (t := 68) ?hr ?_; (case hd => rfl); (case hg => rfl); (case hr => exact g10); intro gb120 hg w2 hbox hb; have n_ := laws_big.K4_ (below_step (g4 HB.out) hb) hbox ((g11 HB.out : w.heap.size ≤ gb120)) ((g11 HB.out : w.heap.size ≤ gb120)); clear HB; obtain ⟨HB, BK120, GW120, GE120⟩ := n_; clear hb hbox hg) | ((with_reducible refine gate_dst (N := 5) rfl ?_); refine Kd.R_lit k93 _ 93 ?hg (N := 5) ?hd (xs := ([(⟨(-1), 0, 0, 0, a0⟩ : S93)] : List (S93))) (inner := [.int .i64 (-1), .int .i64 0, .int .i64 0, .int .i64 0, .int .i64 a0]) (ok := fun _ => True) (okp := fun _ => True) ?hr ?hp (fun _ hk => hk) trivial (Below.refl _ _) (Nat.le_refl _) (by simp) ?_; (case hd => rfl); (case hg => rfl); (case hr => exact g10); (case hp => exact (Reps.c5 (show Kd.M k93 _ _ _ (⟨(-1), 0, 0, 0, a0⟩ : S93) [.int .i64 (-1), .int .i64 0, .int .i64 0, .int .i64 0, .int .i64 a0] from (k93_mkM _ _ _ (⟨(-1), 0, 0, 0, a0⟩ : S93) )) (Reps.none _ _))); intro v122 w3 ho4 hb hg_ hnew_; clear hg_ hnew_; (first | rw [← Ny121.out] at ho4 | (simp only [Int.reduceToNat] at ho4; rw [← Ny121.out] at ho4)); have n_ := laws_big.K3_ (Kd.R_lower ho4 (below_size (g12 HB.out GE120.out))) (blk_below (g := gb120) (o := .cells #[.slice none 0 0] 68 (0, 0)) (g2 BK120.out) hb) (below_step (g12 HB.out GE120.out) hb); clear BK120 HB; obtain ⟨HO123, BK120, HB⟩ := n_; clear hb ho4; obtain ⟨Ao5, co5, eo5⟩ := Kd.R_slice HO123.out; subst eo5; have hcz6_0 : w3.cell? ⟨gb120, 0, none⟩ = some (.slice none 0 0) := (blk_cell BK120.out 0).trans rfl; have hfz6_0 := blk_frozen BK120.out 0))
 refine bodyPost_ret (results_cell_row rfl _ _ gb120 68 #[.slice Ao5 y121.length co5] (0, 0) _ rfl (by (with_reducible repeat (first | refine blk_drewN ?_ _ | refine blk_drew ?_ | refine blk_alloc ?_ _)); refine blk_put (cs := #[.slice none 0 0]) ?_ 0 _ rfl; (with_reducible repeat (first | refine blk_drewN ?_ _ | refine blk_drew ?_ | refine blk_alloc ?_ _)); exact BK120.out) Try.underlying68 rfl (by kernel_rfl)) rfl ?_
 exact ⟨_, g5, by (with_reducible repeat (first | apply Kd.R_alloc | apply Kd.R_drewN | apply Kd.R_drew)); exact Kd.R_mono (Kd.R_far (p := ⟨gb120, 0, none⟩) (Kd.R_types HO123.out BK120.out (by decide)) (fun _ hk => hk.2) (.slice Ao5 y121.length co5)) (fun _ hk => trivial), g12 HB.out GE120.out⟩
def spec_l17Inner.f (a0_0 : Int) (a0_1 : Int) (a0_2 : Int) (a0_3 : Int) (a0_4 : Int) : Option (Bool) := some (a0_0 != (-1))
set_option maxHeartbeats 8000000 in
set_option maxRecDepth 100000 in
theorem spec_l17Inner.calls (a0_0 : Int) (a0_1 : Int) (a0_2 : Int) (a0_3 : Int) (a0_4 : Int) (r : Bool) (w : World) (h : spec_l17Inner.f a0_0 a0_1 a0_2 a0_3 a0_4 = some r) :
    Calls Try.prog 117 #[.agg #[.int .i64 a0_0, .int .i64 a0_1, .int .i64 a0_2, .int .i64 a0_3, .int .i64 a0_4]] w fun e w' => e = .returned (.bool r) ∧ Below w.heap.size w w' := by
 have hu93 := Try.underlying93
 have HB := Aside0.mk (Below.refl w.heap.size w)
 have H : (some (a0_0 != (-1))) = some r := h
 clear h
 obtain rfl := Option.some.inj H
 go_enter Try.func117, Try.ntmps117
 go_wp2_with (first | ((with_reducible refine gate_dst (N := 1) rfl ?_); refine box_event ?hg (N := 1) ?hd (cs := #[.int .i64 a0_0, .int .i64 a0_1, .int .i64 a0_2, .int .i64 a0_3, .int .i64 a0_4]) (t := 93) ?hr ?_; (case hd => rfl); (case hg => rfl); (case hr => exact g10); intro gb124 hg w2 hbox hb; have n_ := laws_big.K4_ (below_step (g4 HB.out) hb) hbox ((g11 HB.out : w.heap.size ≤ gb124)) ((g11 HB.out : w.heap.size ≤ gb124)); clear HB; obtain ⟨HB, BK124, GW124, GE124⟩ := n_; clear hb hbox hg; have hcz3_0 : w2.cell? ⟨gb124, 0, none⟩ = some (.int .i64 a0_0) := (blk_cell BK124.out 0).trans rfl; have hcz3_1 : w2.cell? ⟨gb124, 1, none⟩ = some (.int .i64 a0_1) := (blk_cell BK124.out 1).trans rfl; have hcz3_2 : w2.cell? ⟨gb124, 2, none⟩ = some (.int .i64 a0_2) := (blk_cell BK124.out 2).trans rfl; have hcz3_3 : w2.cell? ⟨gb124, 3, none⟩ = some (.int .i64 a0_3) := (blk_cell BK124.out 3).trans rfl; have hcz3_4 : w2.cell? ⟨gb124, 4, none⟩ = some (.int .i64 a0_4) := (blk_cell BK124.out 4).trans rfl; have hfz3_0 := blk_frozen BK124.out 0; have hfz3_1 := blk_frozen BK124.out 1; have hfz3_2 := blk_frozen BK124.out 2; have hfz3_3 := blk_frozen BK124.out 3; have hfz3_4 := blk_frozen BK124.out 4))
 go_ret
 exact ⟨g5, g12 HB.out GE124.out⟩
def spec_LeavesOf.l0 : Nat → List Int → Int → List (S93) → Option (List Int)
  | 0, _, _, _ => none
  | k + 1, x3, x4, x126000 => if x4 < (x126000.length : Int) then (if 0 ≤ x4 then ((spec_l17Inner.f ((rd_T93 x126000 x4).f0) ((rd_T93 x126000 x4).f1) ((rd_T93 x126000 x4).f2) ((rd_T93 x126000 x4).f3) ((rd_T93 x126000 x4).f4)).bind fun t130 => (if t130 = true then (spec_LeavesOf.l0 k x3 (wrap64 (x4 + 1)) x126000) else (if x3.length < 17592186044416 then (spec_LeavesOf.l0 k (x3 ++ [x4]) (wrap64 (x4 + 1)) x126000) else (none)))) else (none)) else (some x3)
def spec_LeavesOf.f (k : Nat) (l0_0 : List (S93)) : Option (List Int) := spec_LeavesOf.l0 k (([] : List Int)) 0 l0_0
set_option maxHeartbeats 8000000 in
set_option maxRecDepth 100000 in
theorem spec_LeavesOf.calls (k : Nat) (A0_0 : Option Addr) (c0_0 : Nat) (l0_0 : List (S93)) (r : List Int) (w : World) (hr0_0 : Kd.C k93 w A0_0 l0_0.length l0_0) (hc0_0 : l0_0.length ≤ c0_0) (h : spec_LeavesOf.f k l0_0 = some r) :
    Calls Try.prog 162 #[.agg #[.slice A0_0 l0_0.length c0_0]] w fun e w' => ∃ v0_ : Value, e = .returned (v0_) ∧ Kd.R (Kd.int .i64) 3 w' w.heap.size (fun _ => True) v0_ r ∧ Below w.heap.size w w' := by
 have hu68 := Try.underlying68
 have hu93 := Try.underlying93
 have HR0_0 := Aside0.mk hr0_0
 have HC0_0 := Aside0.mk hc0_0
 clear hr0_0 hc0_0
 have HB := Aside0.mk (Below.refl w.heap.size w)
 have H : (spec_LeavesOf.l0 k (([] : List Int)) 0 l0_0) = some r := h
 clear h
 obtain ⟨y126, hy126⟩ : ∃ y_ : List Int, y_ = (([] : List Int)) := ⟨_, rfl⟩
 replace H : (spec_LeavesOf.l0 k y126 0 l0_0) = some r := by first | (rw [hy126]; with_reducible exact H) | (have H2_ := (Option.bind_some _ _).symm.trans H; rw [hy126]; with_reducible exact H2_) | (have H2_ := (Option.bind_some _ _).symm.trans H; with_reducible exact H2_) | with_reducible exact H | (rw [hy126]; exact H) | exact H
 have Ny126 := Aside0.mk hy126
 clear hy126
 have H' := Aside0.mk H
 clear H
 go_enter Try.func162, Try.ntmps162
 go_wp2_with (first | ((with_reducible refine gate_dst (N := 1) rfl ?_); refine box_event ?hg (N := 1) ?hd (cs := #[.slice A0_0 l0_0.length c0_0]) (t := 68) ?hr ?_; (case hd => rfl); (case hg => rfl); (case hr => exact g10); intro gb125 hg w2 hbox hb; have n_ := laws_big.K4_ (below_step (g4 HB.out) hb) hbox ((g11 HB.out : w.heap.size ≤ gb125)) ((g11 HB.out : w.heap.size ≤ gb125)); clear HB; obtain ⟨HB, BK125, GW125, GE125⟩ := n_; clear hb hbox hg) | ((with_reducible refine gate_dst (N := 5) rfl ?_); refine Kd.R_lit (Kd.int .i64) _ 3 ?hg (N := 5) ?hd (xs := ([] : List Int)) (inner := []) (ok := fun _ => True) (okp := fun _ => True) ?hr ?hp (fun _ hk => hk) trivial (Below.refl _ _) (Nat.le_refl _) (by simp) ?_; (case hd => rfl); (case hg => rfl); (case hr => exact g10); (case hp => exact (Reps.none _ _)); intro v127 w3 ho4 hb hg_ hnew_; clear hg_ hnew_; (first | rw [← Ny126.out] at ho4 | (simp only [Int.reduceToNat] at ho4; rw [← Ny126.out] at ho4)); have n_ := laws_big.K3_ (Kd.R_lower ho4 (below_size (g12 HB.out GE125.out))) (blk_below (g := gb125) (o := .cells #[.slice A0_0 l0_0.length c0_0] 68 (0, 0)) (g2 BK125.out) hb) (below_step (g12 HB.out GE125.out) hb); clear BK125 HB; obtain ⟨HO128, BK125, HB⟩ := n_; clear hb ho4))
 go_loopg [3, 4] k (fun kq v3 v4 w' => ∃ (x3_1 : List Int) (x4_1 : Int), v4 = .int .i64 x4_1 ∧ Aside0 (spec_LeavesOf.l0 kq x3_1 x4_1 l0_0 = some r) ∧ Aside0 (kq ≤ k) ∧ Aside0 (Kd.R (Kd.int .i64) 3 w' w.heap.size (fun _ => True) v3 x3_1) ∧ Aside0 (w'.heap[gb125]? = some (.cells #[(.slice A0_0 l0_0.length c0_0)] 68 (0, 0))) ∧ Aside0 (Below w.heap.size w w'))
 case atStart => exact ⟨(y126), (0), (g0), H', ⟨Nat.le_refl _⟩, ⟨g1 HO128.out⟩, ⟨g2 BK125.out⟩, ⟨g12 HB.out GE125.out⟩⟩
 case round =>
  clear H'
  try clear c1
  try clear p2
  obtain ⟨x3_1, x4_1, rfl, HA, HK1, HO_3, BK125, HB⟩ := hrel
  cases gk with
  | zero => exact absurd HA.out (by simp [spec_LeavesOf.l0])
  | succ k1 =>
   have H := HA.out
   clear HA
   simp only [spec_LeavesOf.l0] at H
   by_cases c5 : x4_1 < (l0_0.length : Int)
   case neg =>
    rw [if_neg c5] at H
    have c5b0 : decide (x4_1 < (l0_0.length : Int)) = false := decide_eq_false c5
    clear c5
    obtain rfl := Option.some.inj H
    have hcz15_0 : wr.cell? ⟨gb125, 0, none⟩ = some (.slice A0_0 l0_0.length c0_0) := (blk_cell BK125.out 0).trans rfl
    have hfz15_0 := blk_frozen BK125.out 0
    go_wp2
    go_ret
    exact ⟨_, g5, g1 HO_3.out, g12 HB.out GE125.out⟩
   rw [if_pos c5] at H
   have c5b0 : decide (x4_1 < (l0_0.length : Int)) = true := decide_eq_true c5
   clear c5
   by_cases c6 : 0 ≤ x4_1
   case neg =>
    rw [if_neg c6] at H
    exact absurd H (by simp)
   rw [if_pos c6] at H
   have c6b0 : decide (0 ≤ x4_1) = true := decide_eq_true c6
   clear c6
   replace H := Option.bind_eq_some_iff.mp H
   obtain ⟨t130, A70, H⟩ := H
   replace H : (if t130 = true then (spec_LeavesOf.l0 k1 x3_1 (wrap64 (x4_1 + 1)) l0_0) else (if x3_1.length < 17592186044416 then (spec_LeavesOf.l0 k1 (x3_1 ++ [x4_1]) (wrap64 (x4_1 + 1)) l0_0) else (none))) = some r := H
   have A7 := Aside0.mk A70
   clear A70
   by_cases c8 : t130 = true
   case pos =>
    subst c8
    have H1 : (spec_LeavesOf.l0 k1 x3_1 (wrap64 (x4_1 + 1)) l0_0) = some r := by rw [if_pos rfl] at H; exact H
    clear H
    have H := H1
    clear H1
    have H' := Aside0.mk H
    clear H
    have hcz9_0 : wr.cell? ⟨gb125, 0, none⟩ = some (.slice A0_0 l0_0.length c0_0) := (blk_cell BK125.out 0).trans rfl
    have hfz9_0 := blk_frozen BK125.out 0
    have p129 : 0 ≤ (x4_1 : Int) := of_decide_eq_true (g6)
    have q129 : x4_1 < (l0_0.length : Int) := of_decide_eq_true (g6)
    obtain ⟨ad129, e129, hx129_0, hx129_1, hx129_2, hx129_3, hx129_4⟩ := at_T93 HR0_0.out x4_1 p129 q129
    cases e129
    replace hx129_0 := (HB.out.cell (World.block_lt_of_cell? w _ hx129_0)).trans hx129_0
    replace hx129_1 := (HB.out.cell (World.block_lt_of_cell? w _ hx129_1)).trans hx129_1
    replace hx129_2 := (HB.out.cell (World.block_lt_of_cell? w _ hx129_2)).trans hx129_2
    replace hx129_3 := (HB.out.cell (World.block_lt_of_cell? w _ hx129_3)).trans hx129_3
    replace hx129_4 := (HB.out.cell (World.block_lt_of_cell? w _ hx129_4)).trans hx129_4
    replace p129 := eq_true p129
    replace q129 := eq_true q129
    go_wp2_with (first | ((with_reducible refine gate_callee (f := 117) rfl ?_); refine goesL_ (some 18) rfl rfl Try.func117 (by kernel_rfl) rfl #[.agg #[.int .i64 ((rd_T93 l0_0 x4_1).f0), .int .i64 ((rd_T93 l0_0 x4_1).f1), .int .i64 ((rd_T93 l0_0 x4_1).f2), .int .i64 ((rd_T93 l0_0 x4_1).f3), .int .i64 ((rd_T93 l0_0 x4_1).f4)]] rfl (g9) ?_; (with_reducible refine (spec_l17Inner.calls ((rd_T93 l0_0 x4_1).f0) ((rd_T93 l0_0 x4_1).f1) ((rd_T93 l0_0 x4_1).f2) ((rd_T93 l0_0 x4_1).f3) ((rd_T93 l0_0 x4_1).f4) true _ A7.out).mono ?_); rintro e w10 ⟨rfl, hb⟩; refine ⟨_, rfl, ?_⟩; have n_ := laws_big.K3_ (Kd.R_below (g1 HO_3.out) hb) (blk_below (g := gb125) (o := .cells #[.slice (some ad129) l0_0.length c0_0] 68 (0, 0)) (g2 BK125.out) hb) (below_step (g12 HB.out GE125.out) hb); clear HO_3 BK125 HB; obtain ⟨HO_3, BK125, HB⟩ := n_; (try clear hb); (try clear hb2); (try clear hk); (try clear hi)))
    go_roundg k1
    case measure => have := HK1.out; omega
    case rel => exact ⟨(x3_1), (wrap64 (x4_1 + 1)), (g0), H', ⟨by have := HK1.out; omega⟩, ⟨g1 HO_3.out⟩, ⟨g2 BK125.out⟩, ⟨g12 HB.out GE125.out⟩⟩
   replace c8 := Bool.eq_false_iff.mpr c8
   subst c8
   have H1 : (if x3_1.length < 17592186044416 then (spec_LeavesOf.l0 k1 (x3_1 ++ [x4_1]) (wrap64 (x4_1 + 1)) l0_0) else (none)) = some r := by rw [if_neg (show ¬ (false = true) by decide)] at H; exact H
   clear H
   have H := H1
   clear H1
   by_cases c11 : x3_1.length < 17592186044416
   case neg =>
    rw [if_neg c11] at H
    exact absurd H (by simp)
   rw [if_pos c11] at H
   have LMc11 := Aside0.mk c11
   clear c11
   obtain ⟨y131, hy131⟩ : ∃ y_ : List Int, y_ = (x3_1 ++ [x4_1]) := ⟨_, rfl⟩
   replace H : (spec_LeavesOf.l0 k1 y131 (wrap64 (x4_1 + 1)) l0_0) = some r := by first | (rw [hy131]; with_reducible exact H) | (have H2_ := (Option.bind_some _ _).symm.trans H; rw [hy131]; with_reducible exact H2_) | (have H2_ := (Option.bind_some _ _).symm.trans H; with_reducible exact H2_) | with_reducible exact H | (rw [hy131]; exact H) | exact H
   have Ny131 := Aside0.mk hy131
   clear hy131
   have H' := Aside0.mk H
   clear H
   have hcz12_0 : wr.cell? ⟨gb125, 0, none⟩ = some (.slice A0_0 l0_0.length c0_0) := (blk_cell BK125.out 0).trans rfl
   have hfz12_0 := blk_frozen BK125.out 0
   have p129 : 0 ≤ (x4_1 : Int) := of_decide_eq_true (g6)
   have q129 : x4_1 < (l0_0.length : Int) := of_decide_eq_true (g6)
   obtain ⟨ad129, e129, hx129_0, hx129_1, hx129_2, hx129_3, hx129_4⟩ := at_T93 HR0_0.out x4_1 p129 q129
   cases e129
   replace hx129_0 := (HB.out.cell (World.block_lt_of_cell? w _ hx129_0)).trans hx129_0
   replace hx129_1 := (HB.out.cell (World.block_lt_of_cell? w _ hx129_1)).trans hx129_1
   replace hx129_2 := (HB.out.cell (World.block_lt_of_cell? w _ hx129_2)).trans hx129_2
   replace hx129_3 := (HB.out.cell (World.block_lt_of_cell? w _ hx129_3)).trans hx129_3
   replace hx129_4 := (HB.out.cell (World.block_lt_of_cell? w _ hx129_4)).trans hx129_4
   replace p129 := eq_true p129
   replace q129 := eq_true q129
   go_wp2_with (first | ((with_reducible refine gate_callee (f := 117) rfl ?_); refine goesL_ (some 18) rfl rfl Try.func117 (by kernel_rfl) rfl #[.agg #[.int .i64 ((rd_T93 l0_0 x4_1).f0), .int .i64 ((rd_T93 l0_0 x4_1).f1), .int .i64 ((rd_T93 l0_0 x4_1).f2), .int .i64 ((rd_T93 l0_0 x4_1).f3), .int .i64 ((rd_T93 l0_0 x4_1).f4)]] rfl (g9) ?_; (with_reducible refine (spec_l17Inner.calls ((rd_T93 l0_0 x4_1).f0) ((rd_T93 l0_0 x4_1).f1) ((rd_T93 l0_0 x4_1).f2) ((rd_T93 l0_0 x4_1).f3) ((rd_T93 l0_0 x4_1).f4) false _ A7.out).mono ?_); rintro e w13 ⟨rfl, hb⟩; refine ⟨_, rfl, ?_⟩; have n_ := laws_big.K3_ (Kd.R_below (g1 HO_3.out) hb) (blk_below (g := gb125) (o := .cells #[.slice (some ad129) l0_0.length c0_0] 68 (0, 0)) (g2 BK125.out) hb) (below_step (g12 HB.out GE125.out) hb); clear HO_3 BK125 HB; obtain ⟨HO_3, BK125, HB⟩ := n_; (try clear hb); (try clear hb2); (try clear hk); (try clear hi)) | ((with_reducible refine gate_builtin (b := .append) (xs := #[.tmp 20, .tmp 22]) rfl ?_); at_builtin; refine Kd.R_append (Kd.int .i64) (w0 := w) w.heap.size rfl (.tmp 20) (.tmp 22) 26 3 (.int .i64 0) 8 rfl Try.underlying26 info3 rfl (by decide) (by omega) u3 x3_1 x4_1 [.int .i64 x4_1] (fun _ => True) (fun _ => False) rfl rfl ?aP (fun _ hk => hk.elim) ?aF ?aO ?aB ?aS ?aL ?_; (case aP => exact rfl); (case aB => exact g13 HB.out GE125.out); (case aF => exact (fun _ _ => trivial)); (case aO => exact g14 HO_3.out); (case aS => exact g15 HB.out GE125.out); (case aL => have := LMc11.out; omega); intro v132 w14 ho hb hg hat; rw [← Ny131.out] at ho; have n_ := laws_big.K3_ (blk_grown (g := gb125) (o := .cells #[.slice (some ad129) l0_0.length c0_0] 68 (0, 0)) (g2 BK125.out) hg (Kd.R_ne HO_3.out BK125.out (by decide))) hb ho; clear BK125 HB HO_3; obtain ⟨BK125, HB, HO133⟩ := n_; clear ho hb hg hat))
   go_roundg k1
   case measure => have := HK1.out; omega
   case rel => exact ⟨(y131), (wrap64 (x4_1 + 1)), (g0), H', ⟨by have := HK1.out; omega⟩, ⟨g1 HO133.out⟩, ⟨g2 BK125.out⟩, ⟨g12 HB.out GE125.out⟩⟩
def spec_l17Levels.l0 : Nat → List (S93) → List Int → Int → Int → List (S93) → Option ((List (S93)))
  | 0, _, _, _, _, _ => none
  | k + 1, x0, x4, x5, x6, x136000 => if x6 < (x4.length : Int) then (if 0 ≤ x6 then (if 0 ≤ (rd x4 x6) then (if (rd x4 x6) < (x0.length : Int) then ((spec_l17Inner.f ((rd_T93 x0 (rd x4 x6)).f0) ((rd_T93 x0 (rd x4 x6)).f1) ((rd_T93 x0 (rd x4 x6)).f2) ((rd_T93 x0 (rd x4 x6)).f3) ((rd_T93 x0 (rd x4 x6)).f4)).bind fun t142 => (if t142 = true then ((some (([(rd_T93 x0 (rd x4 x6)).f2, (rd_T93 x0 (rd x4 x6)).f3] : List Int) : List Int)).bind fun y143 => (if x4.length + y143.length < 17592186044416 then (if x136000.length < 3518437208883 then (spec_l17Levels.l0 k x0 (x4 ++ y143) (wrap64 (x5 + 2)) (wrap64 (x6 + 1)) (x136000 ++ [(⟨(rd_T93 x0 (rd x4 x6)).f0, (rd_T93 x0 (rd x4 x6)).f1, x5, wrap64 (x5 + 1), (rd_T93 x0 (rd x4 x6)).f4⟩ : S93)])) else (none)) else (none))) else (if x136000.length < 3518437208883 then (spec_l17Levels.l0 k x0 x4 x5 (wrap64 (x6 + 1)) (x136000 ++ [(⟨(rd_T93 x0 (rd x4 x6)).f0, (rd_T93 x0 (rd x4 x6)).f1, (rd_T93 x0 (rd x4 x6)).f2, (rd_T93 x0 (rd x4 x6)).f3, (rd_T93 x0 (rd x4 x6)).f4⟩ : S93)])) else (none)))) else (none)) else (none)) else (none)) else (some x136000)
def spec_l17Levels.f (k : Nat) (l0 : List (S93)) : Option ((List (S93))) := spec_l17Levels.l0 k l0 (([0] : List Int)) 1 0 ([] : List (S93))
set_option maxHeartbeats 8000000 in
set_option maxRecDepth 100000 in
theorem spec_l17Levels.calls (k : Nat) (A0 : Option Addr) (c0 : Nat) (l0 : List (S93)) (r : List (S93)) (w : World) (hr0 : Kd.C k93 w A0 l0.length l0) (hc0 : l0.length ≤ c0) (h : spec_l17Levels.f k l0 = some r) :
    Calls Try.prog 168 #[.slice A0 l0.length c0] w fun e w' => ∃ v0_ : Value, e = .returned (.agg #[v0_]) ∧ Kd.R k93 93 w' w.heap.size (fun _ => True) v0_ r ∧ Below w.heap.size w w' := by
 have hu68 := Try.underlying68
 have hu93 := Try.underlying93
 have HR0 := Aside0.mk hr0
 have HC0 := Aside0.mk hc0
 clear hr0 hc0
 have HB := Aside0.mk (Below.refl w.heap.size w)
 have H : (spec_l17Levels.l0 k l0 (([0] : List Int)) 1 0 ([] : List (S93))) = some r := h
 clear h
 obtain ⟨y136, hy136⟩ : ∃ y_ : List Int, y_ = (([0] : List Int)) := ⟨_, rfl⟩
 replace H : (spec_l17Levels.l0 k l0 y136 1 0 ([] : List (S93))) = some r := by first | (rw [hy136]; with_reducible exact H) | (have H2_ := (Option.bind_some _ _).symm.trans H; rw [hy136]; with_reducible exact H2_) | (have H2_ := (Option.bind_some _ _).symm.trans H; with_reducible exact H2_) | with_reducible exact H | (rw [hy136]; exact H) | exact H
 have Ny136 := Aside0.mk hy136
 clear hy136
 have H' := Aside0.mk H
 clear H
 go_enter Try.func168, Try.ntmps168
 go_wp2_with (first | ((with_reducible refine gate_dst (N := 2) rfl ?_); refine box_event ?hg (N := 2) ?hd (cs := #[.slice none 0 0]) (t := 68) ?hr ?_; (case hd => rfl); (case hg => rfl); (case hr => exact g10); intro gb134 hg w2 hbox hb; have n_ := laws_big.K4_ (below_step (g4 HB.out) hb) hbox ((g11 HB.out : w.heap.size ≤ gb134)) ((g11 HB.out : w.heap.size ≤ gb134)); clear HB; obtain ⟨HB, BK134, GW134, GE134⟩ := n_; clear hb hbox hg) | ((with_reducible refine gate_dst (N := 3) rfl ?_); refine box_event ?hg (N := 3) ?hd (cs := #[.slice none 0 0]) (t := 68) ?hr ?_; (case hd => rfl); (case hg => rfl); (case hr => exact g10); intro gb135 hg w3 hbox hb; have n_ := laws_big.K7_ (blk_below (g := gb134) (o := .cells #[.slice none 0 0] 68 (0, 0)) (g2 BK134.out) hb) (below_step (g12 HB.out GE134.out) hb) hbox ((g16 HB.out GE134.out : w.heap.size ≤ gb135)) ((g16 HB.out GE134.out : w.heap.size ≤ gb135)) ((laws_big.z0 : gb134 ≠ gb135)) ((laws_big.z1 : gb135 ≠ gb134)); clear BK134 HB; obtain ⟨BK134, HB, BK135, GW135, GE135, NB134_135, NB135_134⟩ := n_; clear hb hbox hg; have hnb4 := NB135_134.out; have hnc4 := NB134_135.out; have hcz5_0 : w3.cell? ⟨gb135, 0, none⟩ = some (.slice none 0 0) := (blk_cell BK135.out 0).trans rfl; have hfz5_0 := blk_frozen BK135.out 0) | ((with_reducible refine gate_dst (N := 9) rfl ?_); refine Kd.R_lit (Kd.int .i64) _ 3 ?hg (N := 9) ?hd (xs := ([0] : List Int)) (inner := [.int .i64 0]) (ok := fun _ => True) (okp := fun _ => True) ?hr ?hp (fun _ hk => hk) trivial (Below.refl _ _) (Nat.le_refl _) (by simp) ?_; (case hd => rfl); (case hg => rfl); (case hr => exact g10); (case hp => exact (Reps.one (show Kd.M (Kd.int .i64) _ _ _ 0 [.int .i64 0] from rfl) (Reps.none _ _))); intro v137 w6 ho7 hb hg_ hnew_; clear hg_ hnew_; (first | rw [← Ny136.out] at ho7 | (simp only [Int.reduceToNat] at ho7; rw [← Ny136.out] at ho7)); have n_ := laws_big.K4_ (Kd.R_lower ho7 (below_size (g18 HB.out GE134.out GE135.out))) (blk_below (g := gb134) (o := .cells #[.slice none 0 0] 68 (0, 0)) (g22 NB134_135.out BK134.out) hb) (blk_below (g := gb135) (o := .cells #[.slice none 0 0] 68 (0, 0)) (by (with_reducible repeat (first | refine blk_drewN ?_ _ | refine blk_drew ?_ | refine blk_alloc ?_ _)); refine blk_put (cs := #[.slice none 0 0]) ?_ 0 _ rfl; (with_reducible repeat (first | refine blk_drewN ?_ _ | refine blk_drew ?_ | refine blk_alloc ?_ _)); exact BK135.out) hb) (below_step (g18 HB.out GE134.out GE135.out) hb); clear BK134 BK135 HB; obtain ⟨HO138, BK134, BK135, HB⟩ := n_; clear hb ho7))
 go_loopg [4, 5, 6] k (fun kq v4 v5 v6 w' => ∃ (x4_1 : List Int) (x5_1 : Int) (x6_1 : Int) (x136000_1 : List (S93)) (u136000 : Value), v5 = .int .i64 x5_1 ∧ v6 = .int .i64 x6_1 ∧ Aside0 (spec_l17Levels.l0 kq l0 x4_1 x5_1 x6_1 x136000_1 = some r) ∧ Aside0 (kq ≤ k) ∧ Aside0 (Kd.R (Kd.int .i64) 3 w' w.heap.size (fun _ => True) v4 x4_1) ∧ Aside0 (Kd.R k93 93 w' w.heap.size (fun _ => True) u136000 x136000_1) ∧ Aside0 (w'.heap[gb134]? = some (.cells #[(.slice none 0 0)] 68 (0, 0))) ∧ Aside0 (w'.heap[gb135]? = some (.cells #[u136000] 68 (0, 0))) ∧ Aside0 (Below w.heap.size w w'))
 case atStart => exact ⟨(y136), (1), (0), (([] : List (S93))), (.slice none 0 0), (g0), (g0), H', ⟨Nat.le_refl _⟩, ⟨g1 HO138.out⟩, ⟨by first | exact Kd.R_nil _ _ _ _ _ | exact Kd.N_nil _ _ _ _ _ | exact Kd.V_nil _ _ _ _ _ | exact Kd.Q_nil _ _ _ _ _ | exact Kd.S_nil _ _ _ _ _⟩, ⟨g2 BK134.out⟩, ⟨g2 BK135.out⟩, ⟨g18 HB.out GE134.out GE135.out⟩⟩
 case round =>
  clear H'
  try clear c1
  try clear p2
  try clear c4
  try clear hcz5_0
  try clear hfz5_0
  obtain ⟨x4_1, x5_1, x6_1, x136000_1, u136000, rfl, rfl, HA, HK1, HO_4, HO_136000, BK134, BK135, HB⟩ := hrel
  cases gk with
  | zero => exact absurd HA.out (by simp [spec_l17Levels.l0])
  | succ k1 =>
   have H := HA.out
   clear HA
   simp only [spec_l17Levels.l0] at H
   by_cases c8 : x6_1 < (x4_1.length : Int)
   case neg =>
    rw [if_neg c8] at H
    have c8b0 : decide (x6_1 < (x4_1.length : Int)) = false := decide_eq_false c8
    clear c8
    obtain rfl := Option.some.inj H
    obtain ⟨Ao45, co45, eo45⟩ := Kd.R_slice HO_4.out
    subst eo45
    have hnb46 := NB135_134.out
    have hnc46 := NB134_135.out
    have hcz47_0 : wr.cell? ⟨gb135, 0, none⟩ = some (u136000) := (blk_cell BK135.out 0).trans rfl
    have hfz47_0 := blk_frozen BK135.out 0
    obtain ⟨Ao48, co48, eo48⟩ := Kd.R_slice HO_136000.out
    subst eo48
    have hcz49_0 : wr.cell? ⟨gb134, 0, none⟩ = some (.slice none 0 0) := (blk_cell BK134.out 0).trans rfl
    have hfz49_0 := blk_frozen BK134.out 0
    go_wp2
    refine bodyPost_ret (results_cell_row rfl _ _ gb134 68 #[.slice Ao48 x136000_1.length co48] (0, 0) _ rfl (by (with_reducible repeat (first | refine blk_drewN ?_ _ | refine blk_drew ?_ | refine blk_alloc ?_ _)); refine blk_put (cs := #[.slice none 0 0]) ?_ 0 _ rfl; (with_reducible repeat (first | refine blk_drewN ?_ _ | refine blk_drew ?_ | refine blk_alloc ?_ _)); exact BK134.out) Try.underlying68 rfl (by kernel_rfl)) rfl ?_
    exact ⟨_, g5, by (with_reducible repeat (first | apply Kd.R_alloc | apply Kd.R_drewN | apply Kd.R_drew)); exact Kd.R_mono (Kd.R_far (p := ⟨gb134, 0, none⟩) (Kd.R_types HO_136000.out BK134.out (by decide)) (fun _ hk => hk.2) (.slice Ao48 x136000_1.length co48)) (fun _ hk => trivial), g18 HB.out GE134.out GE135.out⟩
   rw [if_pos c8] at H
   have c8b0 : decide (x6_1 < (x4_1.length : Int)) = true := decide_eq_true c8
   clear c8
   by_cases c9 : 0 ≤ x6_1
   case neg =>
    rw [if_neg c9] at H
    exact absurd H (by simp)
   rw [if_pos c9] at H
   have c9b0 : decide (0 ≤ x6_1) = true := decide_eq_true c9
   clear c9
   by_cases c10 : 0 ≤ (rd x4_1 x6_1)
   case neg =>
    rw [if_neg c10] at H
    exact absurd H (by simp)
   rw [if_pos c10] at H
   have c10b0 : decide (0 ≤ (rd x4_1 x6_1)) = true := decide_eq_true c10
   clear c10
   by_cases c11 : (rd x4_1 x6_1) < (l0.length : Int)
   case neg =>
    rw [if_neg c11] at H
    exact absurd H (by simp)
   rw [if_pos c11] at H
   have c11b0 : decide ((rd x4_1 x6_1) < (l0.length : Int)) = true := decide_eq_true c11
   clear c11
   replace H := Option.bind_eq_some_iff.mp H
   obtain ⟨t142, A120, H⟩ := H
   replace H : (if t142 = true then ((some (([(rd_T93 l0 (rd x4_1 x6_1)).f2, (rd_T93 l0 (rd x4_1 x6_1)).f3] : List Int) : List Int)).bind fun y143 => (if x4_1.length + y143.length < 17592186044416 then (if x136000_1.length < 3518437208883 then (spec_l17Levels.l0 k1 l0 (x4_1 ++ y143) (wrap64 (x5_1 + 2)) (wrap64 (x6_1 + 1)) (x136000_1 ++ [(⟨(rd_T93 l0 (rd x4_1 x6_1)).f0, (rd_T93 l0 (rd x4_1 x6_1)).f1, x5_1, wrap64 (x5_1 + 1), (rd_T93 l0 (rd x4_1 x6_1)).f4⟩ : S93)])) else (none)) else (none))) else (if x136000_1.length < 3518437208883 then (spec_l17Levels.l0 k1 l0 x4_1 x5_1 (wrap64 (x6_1 + 1)) (x136000_1 ++ [(⟨(rd_T93 l0 (rd x4_1 x6_1)).f0, (rd_T93 l0 (rd x4_1 x6_1)).f1, (rd_T93 l0 (rd x4_1 x6_1)).f2, (rd_T93 l0 (rd x4_1 x6_1)).f3, (rd_T93 l0 (rd x4_1 x6_1)).f4⟩ : S93)])) else (none))) = some r := H
   have A12 := Aside0.mk A120
   clear A120
   have HZ13 := Aside0.mk H
   clear H
   obtain ⟨Ao14, co14, eo14⟩ := Kd.R_slice HO_4.out
   subst eo14
   have p139 : 0 ≤ (x6_1 : Int) := of_decide_eq_true (g6)
   have q139 : x6_1 < (x4_1.length : Int) := of_decide_eq_true (g6)
   obtain ⟨ad139, e139, hx139_0⟩ := Kd.at_int (Kd.R_reads' HO_4.out).2.2 x6_1 p139 q139
   cases e139
   replace p139 := eq_true p139
   replace q139 := eq_true q139
   have p140 : 0 ≤ ((rd x4_1 x6_1) : Int) := of_decide_eq_true (g6)
   have q140 : (rd x4_1 x6_1) < (l0.length : Int) := of_decide_eq_true (g6)
   obtain ⟨ad140, e140, hx140_0, hx140_1, hx140_2, hx140_3, hx140_4⟩ := at_T93 HR0.out (rd x4_1 x6_1) p140 q140
   cases e140
   replace hx140_0 := (HB.out.cell (World.block_lt_of_cell? w _ hx140_0)).trans hx140_0
   replace hx140_1 := (HB.out.cell (World.block_lt_of_cell? w _ hx140_1)).trans hx140_1
   replace hx140_2 := (HB.out.cell (World.block_lt_of_cell? w _ hx140_2)).trans hx140_2
   replace hx140_3 := (HB.out.cell (World.block_lt_of_cell? w _ hx140_3)).trans hx140_3
   replace hx140_4 := (HB.out.cell (World.block_lt_of_cell? w _ hx140_4)).trans hx140_4
   replace p140 := eq_true p140
   replace q140 := eq_true q140
   go_upto_if 24 with (first | ((with_reducible refine gate_dst (N := 7) rfl ?_); refine box_event ?hg (N := 7) ?hd (cs := #[.int .i64 0, .int .i64 0, .int .i64 0, .int .i64 0, .int .i64 0]) (t := 93) ?hr ?_; (case hd => rfl); (case hg => rfl); (case hr => exact g10); intro gb141 hg w15 hbox hb; have n_ := laws_big.K12_ (Kd.R_below (g1 HO_4.out) hb) (Kd.R_below (Kd.R_elderB (g1 HO_136000.out) gb141 (Nat.le_of_eq hg.symm)) hb) (blk_below (g := gb134) (o := .cells #[.slice none 0 0] 68 (0, 0)) (g2 BK134.out) hb) (blk_below (g := gb135) (o := .cells #[u136000] 68 (0, 0)) (g2 BK135.out) hb) (below_step (g18 HB.out GE134.out GE135.out) hb) hbox ((g32 HB.out GE134.out GE135.out : w.heap.size ≤ gb141)) ((g32 HB.out GE134.out GE135.out : w.heap.size ≤ gb141)) ((laws_big.z0 : gb134 ≠ gb141)) ((laws_big.z1 : gb141 ≠ gb134)) ((by rw [hg]; exact Nat.ne_of_lt (blk_lt (g := gb135) (o := .cells #[u136000] 68 (0, 0)) (g2 BK135.out)) : gb135 ≠ gb141)) ((by rw [hg]; exact Nat.ne_of_gt (blk_lt (g := gb135) (o := .cells #[u136000] 68 (0, 0)) (g2 BK135.out)) : gb141 ≠ gb135)); clear HO_4 HO_136000 BK134 BK135 HB; obtain ⟨HO_4, HO_136000, BK134, BK135, HB, BK141, GW141, GE141, NB134_141, NB141_134, NB135_141, NB141_135⟩ := n_; clear hb hbox hg; have hnb16 := NB141_134.out; have hnc16 := NB134_141.out; have hnb17 := NB141_135.out; have hnc17 := NB135_141.out; have hcz18_0 : w15.cell? ⟨gb141, 0, none⟩ = some (.int .i64 0) := (blk_cell BK141.out 0).trans rfl; have hcz18_1 : w15.cell? ⟨gb141, 1, none⟩ = some (.int .i64 0) := (blk_cell BK141.out 1).trans rfl; have hcz18_2 : w15.cell? ⟨gb141, 2, none⟩ = some (.int .i64 0) := (blk_cell BK141.out 2).trans rfl; have hcz18_3 : w15.cell? ⟨gb141, 3, none⟩ = some (.int .i64 0) := (blk_cell BK141.out 3).trans rfl; have hcz18_4 : w15.cell? ⟨gb141, 4, none⟩ = some (.int .i64 0) := (blk_cell BK141.out 4).trans rfl; have hfz18_0 := blk_frozen BK141.out 0; have hfz18_1 := blk_frozen BK141.out 1; have hfz18_2 := blk_frozen BK141.out 2; have hfz18_3 := blk_frozen BK141.out 3; have hfz18_4 := blk_frozen BK141.out 4) | ((with_reducible refine gate_callee (f := 117) rfl ?_); refine goesL_ (some 24) rfl rfl Try.func117 (by kernel_rfl) rfl #[.agg #[.int .i64 ((rd_T93 l0 (rd x4_1 x6_1)).f0), .int .i64 ((rd_T93 l0 (rd x4_1 x6_1)).f1), .int .i64 ((rd_T93 l0 (rd x4_1 x6_1)).f2), .int .i64 ((rd_T93 l0 (rd x4_1 x6_1)).f3), .int .i64 ((rd_T93 l0 (rd x4_1 x6_1)).f4)]] rfl (g9) ?_; (with_reducible refine (spec_l17Inner.calls ((rd_T93 l0 (rd x4_1 x6_1)).f0) ((rd_T93 l0 (rd x4_1 x6_1)).f1) ((rd_T93 l0 (rd x4_1 x6_1)).f2) ((rd_T93 l0 (rd x4_1 x6_1)).f3) ((rd_T93 l0 (rd x4_1 x6_1)).f4) t142 _ A12.out).mono ?_); rintro e w19 ⟨rfl, hb⟩; refine ⟨_, rfl, ?_⟩; have n_ := laws_big.K6_ (Kd.R_below (by (with_reducible repeat (first | apply Kd.R_alloc | apply Kd.R_drewN | apply Kd.R_drew)); exact (Kd.R_mono (Kd.R_far (p := ⟨gb141, 4, none⟩) (Kd.R_far (p := ⟨gb141, 3, none⟩) (Kd.R_far (p := ⟨gb141, 2, none⟩) (Kd.R_far (p := ⟨gb141, 1, none⟩) (Kd.R_far (p := ⟨gb141, 0, none⟩) (Kd.R_types HO_4.out BK141.out (by decide)) (fun _ hk => hk.2) (.int .i64 ((rd_T93 l0 (rd x4_1 x6_1)).f0))) (fun _ hk => hk.2) (.int .i64 ((rd_T93 l0 (rd x4_1 x6_1)).f1))) (fun _ hk => hk.2) (.int .i64 ((rd_T93 l0 (rd x4_1 x6_1)).f2))) (fun _ hk => hk.2) (.int .i64 ((rd_T93 l0 (rd x4_1 x6_1)).f3))) (fun _ hk => hk.2) (.int .i64 ((rd_T93 l0 (rd x4_1 x6_1)).f4))) (fun _ h_ => h_.1))) hb) (Kd.R_below (by (with_reducible repeat (first | apply Kd.R_alloc | apply Kd.R_drewN | apply Kd.R_drew)); exact (Kd.R_mono (Kd.R_far (p := ⟨gb141, 4, none⟩) (Kd.R_far (p := ⟨gb141, 3, none⟩) (Kd.R_far (p := ⟨gb141, 2, none⟩) (Kd.R_far (p := ⟨gb141, 1, none⟩) (Kd.R_far (p := ⟨gb141, 0, none⟩) (Kd.R_mono HO_136000.out (fun k_ hk => (⟨hk, hk.2⟩ : _ ∧ k_ ≠ gb141))) (fun _ hk => hk.2) (.int .i64 ((rd_T93 l0 (rd x4_1 x6_1)).f0))) (fun _ hk => hk.2) (.int .i64 ((rd_T93 l0 (rd x4_1 x6_1)).f1))) (fun _ hk => hk.2) (.int .i64 ((rd_T93 l0 (rd x4_1 x6_1)).f2))) (fun _ hk => hk.2) (.int .i64 ((rd_T93 l0 (rd x4_1 x6_1)).f3))) (fun _ hk => hk.2) (.int .i64 ((rd_T93 l0 (rd x4_1 x6_1)).f4))) (fun _ h_ => h_.1))) hb) (blk_below (g := gb134) (o := .cells #[.slice none 0 0] 68 (0, 0)) (g17 NB134_141.out BK134.out) hb) (blk_below (g := gb135) (o := .cells #[u136000] 68 (0, 0)) (g17 NB135_141.out BK135.out) hb) (blk_below (g := gb141) (o := .cells #[.int .i64 ((rd_T93 l0 (rd x4_1 x6_1)).f0), .int .i64 ((rd_T93 l0 (rd x4_1 x6_1)).f1), .int .i64 ((rd_T93 l0 (rd x4_1 x6_1)).f2), .int .i64 ((rd_T93 l0 (rd x4_1 x6_1)).f3), .int .i64 ((rd_T93 l0 (rd x4_1 x6_1)).f4)] 93 (0, 0)) (by (with_reducible repeat (first | refine blk_drewN ?_ _ | refine blk_drew ?_ | refine blk_alloc ?_ _)); refine blk_put (cs := #[.int .i64 ((rd_T93 l0 (rd x4_1 x6_1)).f0), .int .i64 ((rd_T93 l0 (rd x4_1 x6_1)).f1), .int .i64 ((rd_T93 l0 (rd x4_1 x6_1)).f2), .int .i64 ((rd_T93 l0 (rd x4_1 x6_1)).f3), .int .i64 0]) ?_ 4 _ rfl; (with_reducible repeat (first | refine blk_drewN ?_ _ | refine blk_drew ?_ | refine blk_alloc ?_ _)); refine blk_put (cs := #[.int .i64 ((rd_T93 l0 (rd x4_1 x6_1)).f0), .int .i64 ((rd_T93 l0 (rd x4_1 x6_1)).f1), .int .i64 ((rd_T93 l0 (rd x4_1 x6_1)).f2), .int .i64 0, .int .i64 0]) ?_ 3 _ rfl; (with_reducible repeat (first | refine blk_drewN ?_ _ | refine blk_drew ?_ | refine blk_alloc ?_ _)); refine blk_put (cs := #[.int .i64 ((rd_T93 l0 (rd x4_1 x6_1)).f0), .int .i64 ((rd_T93 l0 (rd x4_1 x6_1)).f1), .int .i64 0, .int .i64 0, .int .i64 0]) ?_ 2 _ rfl; (with_reducible repeat (first | refine blk_drewN ?_ _ | refine blk_drew ?_ | refine blk_alloc ?_ _)); refine blk_put (cs := #[.int .i64 ((rd_T93 l0 (rd x4_1 x6_1)).f0), .int .i64 0, .int .i64 0, .int .i64 0, .int .i64 0]) ?_ 1 _ rfl; (with_reducible repeat (first | refine blk_drewN ?_ _ | refine blk_drew ?_ | refine blk_alloc ?_ _)); refine blk_put (cs := #[.int .i64 0, .int .i64 0, .int .i64 0, .int .i64 0, .int .i64 0]) ?_ 0 _ rfl; (with_reducible repeat (first | refine blk_drewN ?_ _ | refine blk_drew ?_ | refine blk_alloc ?_ _)); exact BK141.out) hb) (below_step (g33 HB.out GE134.out GE135.out GE141.out) hb); clear HO_4 HO_136000 BK134 BK135 BK141 HB; obtain ⟨HO_4, HO_136000, BK134, BK135, BK141, HB⟩ := n_; (try clear hb); (try clear hb2); (try clear hk); (try clear hi)))
   (try simp only [Act.put, List.setIfInBounds_toArray, List.set_cons_zero, List.set_cons_succ])
   have H := HZ13.out
   clear HZ13
   by_cases c20 : t142 = true
   case neg =>
    replace c20 := Bool.eq_false_iff.mpr c20
    subst c20
    have H1 : (if x136000_1.length < 3518437208883 then (spec_l17Levels.l0 k1 l0 x4_1 x5_1 (wrap64 (x6_1 + 1)) (x136000_1 ++ [(⟨(rd_T93 l0 (rd x4_1 x6_1)).f0, (rd_T93 l0 (rd x4_1 x6_1)).f1, (rd_T93 l0 (rd x4_1 x6_1)).f2, (rd_T93 l0 (rd x4_1 x6_1)).f3, (rd_T93 l0 (rd x4_1 x6_1)).f4⟩ : S93)])) else (none)) = some r := by rw [if_neg (show ¬ (false = true) by decide)] at H; exact H
    clear H
    have H := H1
    clear H1
    by_cases c36 : x136000_1.length < 3518437208883
    case neg =>
     rw [if_neg c36] at H
     exact absurd H (by simp)
    rw [if_pos c36] at H
    have LMc36 := Aside0.mk c36
    clear c36
    obtain ⟨y152, hy152⟩ : ∃ y_ : List (S93), y_ = (x136000_1 ++ [(⟨(rd_T93 l0 (rd x4_1 x6_1)).f0, (rd_T93 l0 (rd x4_1 x6_1)).f1, (rd_T93 l0 (rd x4_1 x6_1)).f2, (rd_T93 l0 (rd x4_1 x6_1)).f3, (rd_T93 l0 (rd x4_1 x6_1)).f4⟩ : S93)]) := ⟨_, rfl⟩
    replace H : (spec_l17Levels.l0 k1 l0 x4_1 x5_1 (wrap64 (x6_1 + 1)) y152) = some r := by first | (rw [hy152]; with_reducible exact H) | (have H2_ := (Option.bind_some _ _).symm.trans H; rw [hy152]; with_reducible exact H2_) | (have H2_ := (Option.bind_some _ _).symm.trans H; with_reducible exact H2_) | with_reducible exact H | (rw [hy152]; exact H) | exact H
    have Ny152 := Aside0.mk hy152
    clear hy152
    have H' := Aside0.mk H
    clear H
    have hnb37 := NB135_134.out
    have hnc37 := NB134_135.out
    have hnb38 := NB135_141.out
    have hnc38 := NB141_135.out
    have hcz39_0 : w19.cell? ⟨gb135, 0, none⟩ = some (u136000) := (blk_cell BK135.out 0).trans rfl
    have hfz39_0 := blk_frozen BK135.out 0
    have hnb40 := NB141_134.out
    have hnc40 := NB134_141.out
    have hcz41_0 : w19.cell? ⟨gb141, 0, none⟩ = some (.int .i64 ((rd_T93 l0 (rd x4_1 x6_1)).f0)) := (blk_cell BK141.out 0).trans rfl
    have hcz41_1 : w19.cell? ⟨gb141, 1, none⟩ = some (.int .i64 ((rd_T93 l0 (rd x4_1 x6_1)).f1)) := (blk_cell BK141.out 1).trans rfl
    have hcz41_2 : w19.cell? ⟨gb141, 2, none⟩ = some (.int .i64 ((rd_T93 l0 (rd x4_1 x6_1)).f2)) := (blk_cell BK141.out 2).trans rfl
    have hcz41_3 : w19.cell? ⟨gb141, 3, none⟩ = some (.int .i64 ((rd_T93 l0 (rd x4_1 x6_1)).f3)) := (blk_cell BK141.out 3).trans rfl
    have hcz41_4 : w19.cell? ⟨gb141, 4, none⟩ = some (.int .i64 ((rd_T93 l0 (rd x4_1 x6_1)).f4)) := (blk_cell BK141.out 4).trans rfl
    have hfz41_0 := blk_frozen BK141.out 0
    have hfz41_1 := blk_frozen BK141.out 1
    have hfz41_2 := blk_frozen BK141.out 2
    have hfz41_3 := blk_frozen BK141.out 3
    have hfz41_4 := blk_frozen BK141.out 4
    go_wp2_with (first | ((with_reducible refine gate_builtin (b := .append) (xs := #[.tmp 40, .tmp 42]) rfl ?_); at_builtin; refine Kd.R_append k93 (w0 := w) w.heap.size rfl (.tmp 40) (.tmp 42) 66 93 (.agg #[(.int .i64 0), (.int .i64 0), (.int .i64 0), (.int .i64 0), (.int .i64 0)]) 40 rfl Try.underlying66 info93 rfl (by decide) (by omega) u136000 x136000_1 (⟨(rd_T93 l0 (rd x4_1 x6_1)).f0, (rd_T93 l0 (rd x4_1 x6_1)).f1, (rd_T93 l0 (rd x4_1 x6_1)).f2, (rd_T93 l0 (rd x4_1 x6_1)).f3, (rd_T93 l0 (rd x4_1 x6_1)).f4⟩ : S93) [.int .i64 ((rd_T93 l0 (rd x4_1 x6_1)).f0), .int .i64 ((rd_T93 l0 (rd x4_1 x6_1)).f1), .int .i64 ((rd_T93 l0 (rd x4_1 x6_1)).f2), .int .i64 ((rd_T93 l0 (rd x4_1 x6_1)).f3), .int .i64 ((rd_T93 l0 (rd x4_1 x6_1)).f4)] (fun k_ => k_ ≠ gb141) (fun _ => False) rfl rfl ?aP (fun _ hk => hk.elim) ?aF ?aO ?aB ?aS ?aL ?_; (case aP => exact k93_mkM _ _ _ (⟨(rd_T93 l0 (rd x4_1 x6_1)).f0, (rd_T93 l0 (rd x4_1 x6_1)).f1, (rd_T93 l0 (rd x4_1 x6_1)).f2, (rd_T93 l0 (rd x4_1 x6_1)).f3, (rd_T93 l0 (rd x4_1 x6_1)).f4⟩ : S93)); (case aB => exact g34 HB.out GE134.out GE135.out GE141.out); (case aF => exact (fun k_ hk => Kd.freshB (g := gb141) (o := .cells #[.int .i64 ((rd_T93 l0 (rd x4_1 x6_1)).f0), .int .i64 ((rd_T93 l0 (rd x4_1 x6_1)).f1), .int .i64 ((rd_T93 l0 (rd x4_1 x6_1)).f2), .int .i64 ((rd_T93 l0 (rd x4_1 x6_1)).f3), .int .i64 ((rd_T93 l0 (rd x4_1 x6_1)).f4)] 93 (0, 0)) (g2 BK141.out) k_ hk)); (case aO => exact (by (with_reducible repeat (first | apply Kd.R_alloc | apply Kd.R_drewN | apply Kd.R_drew)); exact Kd.R_mono HO_136000.out (fun _ hk => hk.2))); (case aS => exact g35 HB.out GE134.out GE135.out GE141.out); (case aL => have := LMc36.out; omega); intro v153 w42 ho hb hg hat; rw [← Ny152.out] at ho; have n_ := laws_big.K6_ (Kd.R_over' (g1 HO_4.out) (Kd.R_typed (g1 HO_136000.out)) (by decide) hg) (blk_grown (g := gb134) (o := .cells #[.slice none 0 0] 68 (0, 0)) (g2 BK134.out) hg (Kd.R_ne HO_136000.out BK134.out (by decide))) (blk_grown (g := gb135) (o := .cells #[u136000] 68 (0, 0)) (g2 BK135.out) hg (Kd.R_ne HO_136000.out BK135.out (by decide))) (blk_grown (g := gb141) (o := .cells #[.int .i64 ((rd_T93 l0 (rd x4_1 x6_1)).f0), .int .i64 ((rd_T93 l0 (rd x4_1 x6_1)).f1), .int .i64 ((rd_T93 l0 (rd x4_1 x6_1)).f2), .int .i64 ((rd_T93 l0 (rd x4_1 x6_1)).f3), .int .i64 ((rd_T93 l0 (rd x4_1 x6_1)).f4)] 93 (0, 0)) (g2 BK141.out) hg (Kd.R_away HO_136000.out (fun _ hk => hk.2))) hb ho; clear HO_4 BK134 BK135 BK141 HB HO_136000; obtain ⟨HO_4, BK134, BK135, BK141, HB, HO154⟩ := n_; clear ho hb hg hat; obtain ⟨Ao43, co43, eo43⟩ := Kd.R_slice HO154.out; subst eo43; have hcz44_0 : w42.cell? ⟨gb135, 0, none⟩ = some (u136000) := (blk_cell BK135.out 0).trans rfl; have hfz44_0 := blk_frozen BK135.out 0))
    go_roundg k1
    case measure => have := HK1.out; omega
    case rel => exact ⟨(x4_1), (x5_1), (wrap64 (x6_1 + 1)), (y152), (.slice Ao43 y152.length co43), (g0), (g0), H', ⟨by have := HK1.out; omega⟩, ⟨by (with_reducible repeat (first | apply Kd.R_alloc | apply Kd.R_drewN | apply Kd.R_drew)); exact Kd.R_mono (Kd.R_far (p := ⟨gb135, 0, none⟩) (Kd.R_types HO_4.out BK135.out (by decide)) (fun _ hk => hk.2) (.slice Ao43 y152.length co43)) (fun _ hk => trivial)⟩, ⟨by (with_reducible repeat (first | apply Kd.R_alloc | apply Kd.R_drewN | apply Kd.R_drew)); exact Kd.R_mono (Kd.R_far (p := ⟨gb135, 0, none⟩) (Kd.R_types HO154.out BK135.out (by decide)) (fun _ hk => hk.2) (.slice Ao43 y152.length co43)) (fun _ hk => trivial)⟩, ⟨g22 NB134_135.out BK134.out⟩, ⟨by (with_reducible repeat (first | refine blk_drewN ?_ _ | refine blk_drew ?_ | refine blk_alloc ?_ _)); refine blk_put (cs := #[u136000]) ?_ 0 _ rfl; (with_reducible repeat (first | refine blk_drewN ?_ _ | refine blk_drew ?_ | refine blk_alloc ?_ _)); exact BK135.out⟩, ⟨g33 HB.out GE134.out GE135.out GE141.out⟩⟩
   subst c20
   have H1 : ((some (([(rd_T93 l0 (rd x4_1 x6_1)).f2, (rd_T93 l0 (rd x4_1 x6_1)).f3] : List Int) : List Int)).bind fun y143 => (if x4_1.length + y143.length < 17592186044416 then (if x136000_1.length < 3518437208883 then (spec_l17Levels.l0 k1 l0 (x4_1 ++ y143) (wrap64 (x5_1 + 2)) (wrap64 (x6_1 + 1)) (x136000_1 ++ [(⟨(rd_T93 l0 (rd x4_1 x6_1)).f0, (rd_T93 l0 (rd x4_1 x6_1)).f1, x5_1, wrap64 (x5_1 + 1), (rd_T93 l0 (rd x4_1 x6_1)).f4⟩ : S93)])) else (none)) else (none))) = some r := by rw [if_pos rfl] at H; exact H
   clear H
   have H := H1
   clear H1
   obtain ⟨y143, hy143⟩ : ∃ y_ : List Int, y_ = (([(rd_T93 l0 (rd x4_1 x6_1)).f2, (rd_T93 l0 (rd x4_1 x6_1)).f3] : List Int)) := ⟨_, rfl⟩
   replace H : (if x4_1.length + y143.length < 17592186044416 then (if x136000_1.length < 3518437208883 then (spec_l17Levels.l0 k1 l0 (x4_1 ++ y143) (wrap64 (x5_1 + 2)) (wrap64 (x6_1 + 1)) (x136000_1 ++ [(⟨(rd_T93 l0 (rd x4_1 x6_1)).f0, (rd_T93 l0 (rd x4_1 x6_1)).f1, x5_1, wrap64 (x5_1 + 1), (rd_T93 l0 (rd x4_1 x6_1)).f4⟩ : S93)])) else (none)) else (none)) = some r := by first | (rw [hy143]; with_reducible exact H) | (have H2_ := (Option.bind_some _ _).symm.trans H; rw [hy143]; with_reducible exact H2_) | (have H2_ := (Option.bind_some _ _).symm.trans H; with_reducible exact H2_) | with_reducible exact H | (rw [hy143]; exact H) | exact H
   have Ny143 := Aside0.mk hy143
   clear hy143
   by_cases c21 : x4_1.length + y143.length < 17592186044416
   case neg =>
    rw [if_neg c21] at H
    exact absurd H (by simp)
   rw [if_pos c21] at H
   have LMc21 := Aside0.mk c21
   clear c21
   obtain ⟨y146, hy146⟩ : ∃ y_ : List Int, y_ = (x4_1 ++ y143) := ⟨_, rfl⟩
   replace H : (if x136000_1.length < 3518437208883 then (spec_l17Levels.l0 k1 l0 y146 (wrap64 (x5_1 + 2)) (wrap64 (x6_1 + 1)) (x136000_1 ++ [(⟨(rd_T93 l0 (rd x4_1 x6_1)).f0, (rd_T93 l0 (rd x4_1 x6_1)).f1, x5_1, wrap64 (x5_1 + 1), (rd_T93 l0 (rd x4_1 x6_1)).f4⟩ : S93)])) else (none)) = some r := by first | (rw [hy146]; with_reducible exact H) | (have H2_ := (Option.bind_some _ _).symm.trans H; rw [hy146]; with_reducible exact H2_) | (have H2_ := (Option.bind_some _ _).symm.trans H; with_reducible exact H2_) | with_reducible exact H | (rw [hy146]; exact H) | exact H
   have Ny146 := Aside0.mk hy146
   clear hy146
   by_cases c22 : x136000_1.length < 3518437208883
   case neg =>
    rw [if_neg c22] at H
    exact absurd H (by simp)
   rw [if_pos c22] at H
   have LMc22 := Aside0.mk c22
   clear c22
   obtain ⟨y149, hy149⟩ : ∃ y_ : List (S93), y_ = (x136000_1 ++ [(⟨(rd_T93 l0 (rd x4_1 x6_1)).f0, (rd_T93 l0 (rd x4_1 x6_1)).f1, x5_1, wrap64 (x5_1 + 1), (rd_T93 l0 (rd x4_1 x6_1)).f4⟩ : S93)]) := ⟨_, rfl⟩
   replace H : (spec_l17Levels.l0 k1 l0 y146 (wrap64 (x5_1 + 2)) (wrap64 (x6_1 + 1)) y149) = some r := by first | (rw [hy149]; with_reducible exact H) | (have H2_ := (Option.bind_some _ _).symm.trans H; rw [hy149]; with_reducible exact H2_) | (have H2_ := (Option.bind_some _ _).symm.trans H; with_reducible exact H2_) | with_reducible exact H | (rw [hy149]; exact H) | exact H
   have Ny149 := Aside0.mk hy149
   clear hy149
   have H' := Aside0.mk H
   clear H
   have hnb23 := NB141_134.out
   have hnc23 := NB134_141.out
   have hnb24 := NB141_135.out
   have hnc24 := NB135_141.out
   have hcz25_0 : w19.cell? ⟨gb141, 0, none⟩ = some (.int .i64 ((rd_T93 l0 (rd x4_1 x6_1)).f0)) := (blk_cell BK141.out 0).trans rfl
   have hcz25_1 : w19.cell? ⟨gb141, 1, none⟩ = some (.int .i64 ((rd_T93 l0 (rd x4_1 x6_1)).f1)) := (blk_cell BK141.out 1).trans rfl
   have hcz25_2 : w19.cell? ⟨gb141, 2, none⟩ = some (.int .i64 ((rd_T93 l0 (rd x4_1 x6_1)).f2)) := (blk_cell BK141.out 2).trans rfl
   have hcz25_3 : w19.cell? ⟨gb141, 3, none⟩ = some (.int .i64 ((rd_T93 l0 (rd x4_1 x6_1)).f3)) := (blk_cell BK141.out 3).trans rfl
   have hcz25_4 : w19.cell? ⟨gb141, 4, none⟩ = some (.int .i64 ((rd_T93 l0 (rd x4_1 x6_1)).f4)) := (blk_cell BK141.out 4).trans rfl
   have hfz25_0 := blk_frozen BK141.out 0
   have hfz25_1 := blk_frozen BK141.out 1
   have hfz25_2 := blk_frozen BK141.out 2
   have hfz25_3 := blk_frozen BK141.out 3
   have hfz25_4 := blk_frozen BK141.out 4
   go_wp2_with (first | ((with_reducible refine gate_dst (N := 30) rfl ?_); refine Kd.R_lit (Kd.int .i64) _ 3 ?hg (N := 30) ?hd (xs := ([(rd_T93 l0 (rd x4_1 x6_1)).f2, (rd_T93 l0 (rd x4_1 x6_1)).f3] : List Int)) (inner := [.int .i64 ((rd_T93 l0 (rd x4_1 x6_1)).f2), .int .i64 ((rd_T93 l0 (rd x4_1 x6_1)).f3)]) (ok := fun _ => True) (okp := fun _ => True) ?hr ?hp (fun _ hk => hk) trivial (Below.refl _ _) (Nat.le_refl _) (by simp) ?_; (case hd => rfl); (case hg => rfl); (case hr => exact g10); (case hp => exact (Reps.one (show Kd.M (Kd.int .i64) _ _ _ ((rd_T93 l0 (rd x4_1 x6_1)).f2) [.int .i64 ((rd_T93 l0 (rd x4_1 x6_1)).f2)] from rfl) (Reps.one (show Kd.M (Kd.int .i64) _ _ _ ((rd_T93 l0 (rd x4_1 x6_1)).f3) [.int .i64 ((rd_T93 l0 (rd x4_1 x6_1)).f3)] from rfl) (Reps.none _ _)))); intro v144 w26 ho27 hb hg_ hnew_; clear hg_ hnew_; (first | rw [← Ny143.out] at ho27 | (simp only [Int.reduceToNat] at ho27; rw [← Ny143.out] at ho27)); have n_ := laws_big.K7_ (Kd.R_elder' (g1 HO_4.out) (Kd.R_base ho27) hb) (Kd.R_below (g1 HO_136000.out) hb) (Kd.R_lower (Kd.R_new' ho27 (Kd.R_lt (g1 HO_4.out))) (below_size (g33 HB.out GE134.out GE135.out GE141.out))) (blk_below (g := gb134) (o := .cells #[.slice none 0 0] 68 (0, 0)) (g2 BK134.out) hb) (blk_below (g := gb135) (o := .cells #[u136000] 68 (0, 0)) (g2 BK135.out) hb) (blk_below (g := gb141) (o := .cells #[.int .i64 ((rd_T93 l0 (rd x4_1 x6_1)).f0), .int .i64 ((rd_T93 l0 (rd x4_1 x6_1)).f1), .int .i64 ((rd_T93 l0 (rd x4_1 x6_1)).f2), .int .i64 ((rd_T93 l0 (rd x4_1 x6_1)).f3), .int .i64 ((rd_T93 l0 (rd x4_1 x6_1)).f4)] 93 (0, 0)) (g2 BK141.out) hb) (below_step (g33 HB.out GE134.out GE135.out GE141.out) hb); clear HO_4 HO_136000 BK134 BK135 BK141 HB; obtain ⟨HO_4, HO_136000, HO145, BK134, BK135, BK141, HB⟩ := n_; clear hb ho27; obtain ⟨Ao29, co29, eo29⟩ := Kd.R_slice HO145.out; subst eo29) | ((with_reducible refine gate_builtin (b := .append) (xs := #[.tmp 25, .tmp 30]) rfl ?_); at_builtin; refine Kd.R_append_rows (Kd.int .i64) (w0 := w) w.heap.size rfl (.tmp 25) (.tmp 30) 26 3 (.int .i64 0) 8 rfl Try.underlying26 info3 rfl (by decide) (by omega) (.slice (some ad139) x4_1.length co14) x4_1 y143 _ _ _ (fun k_ => some k_ ≠ (.slice Ao29 y143.length co29 : Value).ownBlock) (fun _ => False) rfl rfl ?aO ?aR (fun _ _ h => h) (fun _ h => h.elim) ?aF ?aB ?aS ?aL ?_; (case aR => exact g26 HO145.out); (case aB => exact g34 HB.out GE134.out GE135.out GE141.out); (case aF => exact (fun k_ hk => Kd.fresh' (Kd.R_lt (g1 HO145.out)) k_ hk)); (case aO => exact (by (with_reducible repeat (first | apply Kd.R_alloc | apply Kd.R_drewN | apply Kd.R_drew)); exact Kd.R_mono HO_4.out (fun _ hk => hk.2))); (case aS => exact g35 HB.out GE134.out GE135.out GE141.out); (case aL => have := LMc21.out; omega); intro v147 w28 ho hb hg hat; rw [← Ny146.out] at ho; have n_ := laws_big.K7_ (Kd.R_over' (g1 HO_136000.out) (Kd.R_typed (g1 HO_4.out)) (by decide) hg) (blk_grown (g := gb134) (o := .cells #[.slice none 0 0] 68 (0, 0)) (g2 BK134.out) hg (Kd.R_ne HO_4.out BK134.out (by decide))) (blk_grown (g := gb135) (o := .cells #[u136000] 68 (0, 0)) (g2 BK135.out) hg (Kd.R_ne HO_4.out BK135.out (by decide))) (blk_grown (g := gb141) (o := .cells #[.int .i64 ((rd_T93 l0 (rd x4_1 x6_1)).f0), .int .i64 ((rd_T93 l0 (rd x4_1 x6_1)).f1), .int .i64 ((rd_T93 l0 (rd x4_1 x6_1)).f2), .int .i64 ((rd_T93 l0 (rd x4_1 x6_1)).f3), .int .i64 ((rd_T93 l0 (rd x4_1 x6_1)).f4)] 93 (0, 0)) (g2 BK141.out) hg (Kd.R_ne HO_4.out BK141.out (by decide))) (Kd.R_after (ok := (fun _ => True)) (g1 HO145.out) hg hat) hb ho; clear HO_136000 BK134 BK135 BK141 HO145 HB HO_4; obtain ⟨HO_136000, BK134, BK135, BK141, HO145, HB, HO148⟩ := n_; clear ho hb hg hat; have hcz30_0 : w28.cell? ⟨gb141, 0, none⟩ = some (.int .i64 ((rd_T93 l0 (rd x4_1 x6_1)).f0)) := (blk_cell BK141.out 0).trans rfl; have hcz30_1 : w28.cell? ⟨gb141, 1, none⟩ = some (.int .i64 ((rd_T93 l0 (rd x4_1 x6_1)).f1)) := (blk_cell BK141.out 1).trans rfl; have hcz30_2 : w28.cell? ⟨gb141, 2, none⟩ = some (.int .i64 ((rd_T93 l0 (rd x4_1 x6_1)).f2)) := (blk_cell BK141.out 2).trans rfl; have hcz30_3 : w28.cell? ⟨gb141, 3, none⟩ = some (.int .i64 ((rd_T93 l0 (rd x4_1 x6_1)).f3)) := (blk_cell BK141.out 3).trans rfl; have hcz30_4 : w28.cell? ⟨gb141, 4, none⟩ = some (.int .i64 ((rd_T93 l0 (rd x4_1 x6_1)).f4)) := (blk_cell BK141.out 4).trans rfl; have hfz30_0 := blk_frozen BK141.out 0; have hfz30_1 := blk_frozen BK141.out 1; have hfz30_2 := blk_frozen BK141.out 2; have hfz30_3 := blk_frozen BK141.out 3; have hfz30_4 := blk_frozen BK141.out 4; have hnb31 := NB135_134.out; have hnc31 := NB134_135.out; have hcz32_0 : w28.cell? ⟨gb135, 0, none⟩ = some (u136000) := (blk_cell BK135.out 0).trans rfl; have hfz32_0 := blk_frozen BK135.out 0) | ((with_reducible refine gate_builtin (b := .append) (xs := #[.tmp 40, .tmp 42]) rfl ?_); at_builtin; refine Kd.R_append k93 (w0 := w) w.heap.size rfl (.tmp 40) (.tmp 42) 66 93 (.agg #[(.int .i64 0), (.int .i64 0), (.int .i64 0), (.int .i64 0), (.int .i64 0)]) 40 rfl Try.underlying66 info93 rfl (by decide) (by omega) u136000 x136000_1 (⟨(rd_T93 l0 (rd x4_1 x6_1)).f0, (rd_T93 l0 (rd x4_1 x6_1)).f1, x5_1, wrap64 (x5_1 + 1), (rd_T93 l0 (rd x4_1 x6_1)).f4⟩ : S93) [.int .i64 ((rd_T93 l0 (rd x4_1 x6_1)).f0), .int .i64 ((rd_T93 l0 (rd x4_1 x6_1)).f1), .int .i64 x5_1, .int .i64 (wrap64 (x5_1 + 1)), .int .i64 ((rd_T93 l0 (rd x4_1 x6_1)).f4)] (fun k_ => k_ ≠ gb141) (fun _ => False) rfl (g10) ?aP (fun _ hk => hk.elim) ?aF ?aO ?aB ?aS ?aL ?_; (case aP => exact k93_mkM _ _ _ (⟨(rd_T93 l0 (rd x4_1 x6_1)).f0, (rd_T93 l0 (rd x4_1 x6_1)).f1, x5_1, wrap64 (x5_1 + 1), (rd_T93 l0 (rd x4_1 x6_1)).f4⟩ : S93)); (case aB => exact g34 HB.out GE134.out GE135.out GE141.out); (case aF => exact (fun k_ hk => Kd.freshB (g := gb141) (o := .cells #[.int .i64 ((rd_T93 l0 (rd x4_1 x6_1)).f0), .int .i64 ((rd_T93 l0 (rd x4_1 x6_1)).f1), .int .i64 x5_1, .int .i64 (wrap64 (x5_1 + 1)), .int .i64 ((rd_T93 l0 (rd x4_1 x6_1)).f4)] 93 (0, 0)) laws_big.z2 k_ hk)); (case aO => exact (by (with_reducible repeat (first | apply Kd.R_alloc | apply Kd.R_drewN | apply Kd.R_drew)); exact Kd.R_mono (Kd.R_far (p := ⟨gb141, 3, none⟩) (Kd.R_far (p := ⟨gb141, 2, none⟩) (Kd.R_mono HO_136000.out (fun k_ hk => (⟨hk, hk.2⟩ : _ ∧ k_ ≠ gb141))) (fun _ hk => hk.2) (.int .i64 x5_1)) (fun _ hk => hk.2) (.int .i64 (wrap64 (x5_1 + 1)))) (fun _ hk => hk.1.2))); (case aS => exact g35 HB.out GE134.out GE135.out GE141.out); (case aL => have := LMc22.out; omega); intro v150 w33 ho hb hg hat; rw [← Ny149.out] at ho; have n_ := laws_big.K7_ (blk_grown (g := gb134) (o := .cells #[.slice none 0 0] 68 (0, 0)) (g36 NB134_141.out BK134.out) hg (Kd.R_ne HO_136000.out BK134.out (by decide))) (blk_grown (g := gb135) (o := .cells #[u136000] 68 (0, 0)) (g36 NB135_141.out BK135.out) hg (Kd.R_ne HO_136000.out BK135.out (by decide))) (blk_grown (g := gb141) (o := .cells #[.int .i64 ((rd_T93 l0 (rd x4_1 x6_1)).f0), .int .i64 ((rd_T93 l0 (rd x4_1 x6_1)).f1), .int .i64 x5_1, .int .i64 (wrap64 (x5_1 + 1)), .int .i64 ((rd_T93 l0 (rd x4_1 x6_1)).f4)] 93 (0, 0)) laws_big.z2 hg (Kd.R_away HO_136000.out (fun _ hk => hk.2))) (Kd.R_over' (by (with_reducible repeat (first | apply Kd.R_alloc | apply Kd.R_drewN | apply Kd.R_drew)); exact (Kd.R_mono (Kd.R_far (p := ⟨gb141, 3, none⟩) (Kd.R_far (p := ⟨gb141, 2, none⟩) (Kd.R_types HO145.out BK141.out (by decide)) (fun _ hk => hk.2) (.int .i64 x5_1)) (fun _ hk => hk.2) (.int .i64 (wrap64 (x5_1 + 1)))) (fun _ h_ => h_.1))) (Kd.R_typed laws_big.z3) (by decide) hg) (Kd.R_over' (by (with_reducible repeat (first | apply Kd.R_alloc | apply Kd.R_drewN | apply Kd.R_drew)); exact (Kd.R_mono (Kd.R_far (p := ⟨gb141, 3, none⟩) (Kd.R_far (p := ⟨gb141, 2, none⟩) (Kd.R_types HO148.out BK141.out (by decide)) (fun _ hk => hk.2) (.int .i64 x5_1)) (fun _ hk => hk.2) (.int .i64 (wrap64 (x5_1 + 1)))) (fun _ h_ => h_.1))) (Kd.R_typed laws_big.z3) (by decide) hg) hb ho; clear BK134 BK135 BK141 HO145 HO148 HB HO_136000; obtain ⟨BK134, BK135, BK141, HO145, HO148, HB, HO151⟩ := n_; clear ho hb hg hat; obtain ⟨Ao34, co34, eo34⟩ := Kd.R_slice HO151.out; subst eo34; have hcz35_0 : w33.cell? ⟨gb135, 0, none⟩ = some (u136000) := (blk_cell BK135.out 0).trans rfl; have hfz35_0 := blk_frozen BK135.out 0))
   go_roundg k1
   case measure => have := HK1.out; omega
   case rel => exact ⟨(y146), (wrap64 (x5_1 + 2)), (wrap64 (x6_1 + 1)), (y149), (.slice Ao34 y149.length co34), (g0), (g0), H', ⟨by have := HK1.out; omega⟩, ⟨by (with_reducible repeat (first | apply Kd.R_alloc | apply Kd.R_drewN | apply Kd.R_drew)); exact Kd.R_mono (Kd.R_far (p := ⟨gb135, 0, none⟩) (Kd.R_types HO148.out BK135.out (by decide)) (fun _ hk => hk.2) (.slice Ao34 y149.length co34)) (fun _ hk => trivial)⟩, ⟨by (with_reducible repeat (first | apply Kd.R_alloc | apply Kd.R_drewN | apply Kd.R_drew)); exact Kd.R_mono (Kd.R_far (p := ⟨gb135, 0, none⟩) (Kd.R_types HO151.out BK135.out (by decide)) (fun _ hk => hk.2) (.slice Ao34 y149.length co34)) (fun _ hk => trivial)⟩, ⟨g22 NB134_135.out BK134.out⟩, ⟨by (with_reducible repeat (first | refine blk_drewN ?_ _ | refine blk_drew ?_ | refine blk_alloc ?_ _)); refine blk_put (cs := #[u136000]) ?_ 0 _ rfl; (with_reducible repeat (first | refine blk_drewN ?_ _ | refine blk_drew ?_ | refine blk_alloc ?_ _)); exact BK135.out⟩, ⟨g33 HB.out GE134.out GE135.out GE141.out⟩⟩
def spec_l17Grown.f (k : Nat) (l0_0 : List (S93)) (a1 : Int) (a2_0 : Int) (a2_1 : Int) (a2_2 : Int) (a2_3 : Int) (a2_4 : Int) (a3 : Int) (a4 : Int) : Option ((List (S93))) := (some (([] : List (S93)) : List (S93))).bind fun y158 => (if y158.length + l0_0.length < 3518437208883 then ((some (y158 ++ l0_0 : List (S93))).bind fun y161 => (if 0 ≤ a1 then (if a1 < (y161.length : Int) then ((some (y161.set (a1 : Int).toNat (⟨a2_0, a2_1, (y161.length : Int), wrap64 ((y161.length : Int) + 1), 0⟩ : S93) : List (S93))).bind fun y164 => ((some (([(⟨(-1), 0, 0, 0, a3⟩ : S93), (⟨(-1), 0, 0, 0, a4⟩ : S93)] : List (S93)) : List (S93))).bind fun y165 => (if y164.length + y165.length < 3518437208883 then ((spec_l17Levels.f k (y164 ++ y165)).bind fun t171 => (some t171)) else (none)))) else (none)) else (none))) else (none))
set_option maxHeartbeats 8000000 in
set_option maxRecDepth 100000 in
theorem spec_l17Grown.calls (k : Nat) (A0_0 : Option Addr) (c0_0 : Nat) (l0_0 : List (S93)) (a1 : Int) (a2_0 : Int) (a2_1 : Int) (a2_2 : Int) (a2_3 : Int) (a2_4 : Int) (a3 : Int) (a4 : Int) (r : List (S93)) (w : World) (hr0_0 : Kd.C k93 w A0_0 l0_0.length l0_0) (hc0_0 : l0_0.length ≤ c0_0) (h : spec_l17Grown.f k l0_0 a1 a2_0 a2_1 a2_2 a2_3 a2_4 a3 a4 = some r) :
    Calls Try.prog 163 #[.agg #[.slice A0_0 l0_0.length c0_0], .int .i64 a1, .agg #[.int .i64 a2_0, .int .i64 a2_1, .int .i64 a2_2, .int .i64 a2_3, .int .i64 a2_4], .int .i64 a3, .int .i64 a4] w fun e w' => ∃ v0_ : Value, e = .returned (.agg #[v0_]) ∧ Kd.R k93 93 w' w.heap.size (fun _ => True) v0_ r ∧ Below w.heap.size w w' := by
 have hu68 := Try.underlying68
 have hu93 := Try.underlying93
 have HR0_0 := Aside0.mk hr0_0
 have HC0_0 := Aside0.mk hc0_0
 clear hr0_0 hc0_0
 have HB := Aside0.mk (Below.refl w.heap.size w)
 have H : ((some (([] : List (S93)) : List (S93))).bind fun y158 => (if y158.length + l0_0.length < 3518437208883 then ((some (y158 ++ l0_0 : List (S93))).bind fun y161 => (if 0 ≤ a1 then (if a1 < (y161.length : Int) then ((some (y161.set (a1 : Int).toNat (⟨a2_0, a2_1, (y161.length : Int), wrap64 ((y161.length : Int) + 1), 0⟩ : S93) : List (S93))).bind fun y164 => ((some (([(⟨(-1), 0, 0, 0, a3⟩ : S93), (⟨(-1), 0, 0, 0, a4⟩ : S93)] : List (S93)) : List (S93))).bind fun y165 => (if y164.length + y165.length < 3518437208883 then ((spec_l17Levels.f k (y164 ++ y165)).bind fun t171 => (some t171)) else (none)))) else (none)) else (none))) else (none))) = some r := h
 clear h
 obtain ⟨y158, hy158⟩ : ∃ y_ : List (S93), y_ = (([] : List (S93))) := ⟨_, rfl⟩
 replace H : (if y158.length + l0_0.length < 3518437208883 then ((some (y158 ++ l0_0 : List (S93))).bind fun y161 => (if 0 ≤ a1 then (if a1 < (y161.length : Int) then ((some (y161.set (a1 : Int).toNat (⟨a2_0, a2_1, (y161.length : Int), wrap64 ((y161.length : Int) + 1), 0⟩ : S93) : List (S93))).bind fun y164 => ((some (([(⟨(-1), 0, 0, 0, a3⟩ : S93), (⟨(-1), 0, 0, 0, a4⟩ : S93)] : List (S93)) : List (S93))).bind fun y165 => (if y164.length + y165.length < 3518437208883 then ((spec_l17Levels.f k (y164 ++ y165)).bind fun t171 => (some t171)) else (none)))) else (none)) else (none))) else (none)) = some r := by first | (rw [hy158]; with_reducible exact H) | (have H2_ := (Option.bind_some _ _).symm.trans H; rw [hy158]; with_reducible exact H2_) | (have H2_ := (Option.bind_some _ _).symm.trans H; with_reducible exact H2_) | with_reducible exact H | (rw [hy158]; exact H) | exact H
 have Ny158 := Aside0.mk hy158
 clear hy158
 by_cases c6 : y158.length + l0_0.length < 3518437208883
 case neg =>
  rw [if_neg c6] at H
  exact absurd H (by simp)
 rw [if_pos c6] at H
 have LMc6 := Aside0.mk c6
 clear c6
 obtain ⟨y161, hy161⟩ : ∃ y_ : List (S93), y_ = (y158 ++ l0_0) := ⟨_, rfl⟩
 replace H : (if 0 ≤ a1 then (if a1 < (y161.length : Int) then ((some (y161.set (a1 : Int).toNat (⟨a2_0, a2_1, (y161.length : Int), wrap64 ((y161.length : Int) + 1), 0⟩ : S93) : List (S93))).bind fun y164 => ((some (([(⟨(-1), 0, 0, 0, a3⟩ : S93), (⟨(-1), 0, 0, 0, a4⟩ : S93)] : List (S93)) : List (S93))).bind fun y165 => (if y164.length + y165.length < 3518437208883 then ((spec_l17Levels.f k (y164 ++ y165)).bind fun t171 => (some t171)) else (none)))) else (none)) else (none)) = some r := by first | (rw [hy161]; with_reducible exact H) | (have H2_ := (Option.bind_some _ _).symm.trans H; rw [hy161]; with_reducible exact H2_) | (have H2_ := (Option.bind_some _ _).symm.trans H; with_reducible exact H2_) | with_reducible exact H | (rw [hy161]; exact H) | exact H
 have Ny161 := Aside0.mk hy161
 clear hy161
 by_cases c7 : 0 ≤ a1
 case neg =>
  rw [if_neg c7] at H
  exact absurd H (by simp)
 rw [if_pos c7] at H
 have c7b0 : decide (0 ≤ a1) = true := decide_eq_true c7
 clear c7
 by_cases c8 : a1 < (y161.length : Int)
 case neg =>
  rw [if_neg c8] at H
  exact absurd H (by simp)
 rw [if_pos c8] at H
 have c8b0 : decide (a1 < (y161.length : Int)) = true := decide_eq_true c8
 clear c8
 obtain ⟨y164, hy164⟩ : ∃ y_ : List (S93), y_ = (y161.set (a1 : Int).toNat (⟨a2_0, a2_1, (y161.length : Int), wrap64 ((y161.length : Int) + 1), 0⟩ : S93)) := ⟨_, rfl⟩
 replace H : ((some (([(⟨(-1), 0, 0, 0, a3⟩ : S93), (⟨(-1), 0, 0, 0, a4⟩ : S93)] : List (S93)) : List (S93))).bind fun y165 => (if y164.length + y165.length < 3518437208883 then ((spec_l17Levels.f k (y164 ++ y165)).bind fun t171 => (some t171)) else (none))) = some r := by first | (rw [hy164]; with_reducible exact H) | (have H2_ := (Option.bind_some _ _).symm.trans H; rw [hy164]; with_reducible exact H2_) | (have H2_ := (Option.bind_some _ _).symm.trans H; with_reducible exact H2_) | with_reducible exact H | (rw [hy164]; exact H) | exact H
 have Ny164 := Aside0.mk hy164
 clear hy164
 obtain ⟨y165, hy165⟩ : ∃ y_ : List (S93), y_ = (([(⟨(-1), 0, 0, 0, a3⟩ : S93), (⟨(-1), 0, 0, 0, a4⟩ : S93)] : List (S93))) := ⟨_, rfl⟩
 replace H : (if y164.length + y165.length < 3518437208883 then ((spec_l17Levels.f k (y164 ++ y165)).bind fun t171 => (some t171)) else (none)) = some r := by first | (rw [hy165]; with_reducible exact H) | (have H2_ := (Option.bind_some _ _).symm.trans H; rw [hy165]; with_reducible exact H2_) | (have H2_ := (Option.bind_some _ _).symm.trans H; with_reducible exact H2_) | with_reducible exact H | (rw [hy165]; exact H) | exact H
 have Ny165 := Aside0.mk hy165
 clear hy165
 by_cases c10 : y164.length + y165.length < 3518437208883
 case neg =>
  rw [if_neg c10] at H
  exact absurd H (by simp)
 rw [if_pos c10] at H
 have LMc10 := Aside0.mk c10
 clear c10
 obtain ⟨y168, hy168⟩ : ∃ y_ : List (S93), y_ = (y164 ++ y165) := ⟨_, rfl⟩
 replace H : ((spec_l17Levels.f k y168).bind fun t171 => (some t171)) = some r := by first | (rw [hy168]; with_reducible exact H) | (have H2_ := (Option.bind_some _ _).symm.trans H; rw [hy168]; with_reducible exact H2_) | (have H2_ := (Option.bind_some _ _).symm.trans H; with_reducible exact H2_) | with_reducible exact H | (rw [hy168]; exact H) | exact H
 have Ny168 := Aside0.mk hy168
 clear hy168
 replace H := Option.bind_eq_some_iff.mp H
 obtain ⟨t171, A110, H⟩ := H
 replace H : (some t171) = some r := H
 have A11 := Aside0.mk A110
 clear A110
 obtain rfl := Option.some.inj H
 go_enter Try.func163, Try.ntmps163
 go_wp2_with (first | ((with_reducible refine gate_dst (N := 5) rfl ?_); refine box_event ?hg (N := 5) ?hd (cs := #[.slice A0_0 l0_0.length c0_0]) (t := 68) ?hr ?_; (case hd => rfl); (case hg => rfl); (case hr => exact g10); intro gb155 hg w12 hbox hb; have n_ := laws_big.K4_ (below_step (g4 HB.out) hb) hbox ((g11 HB.out : w.heap.size ≤ gb155)) ((g11 HB.out : w.heap.size ≤ gb155)); clear HB; obtain ⟨HB, BK155, GW155, GE155⟩ := n_; clear hb hbox hg) | ((with_reducible refine gate_dst (N := 7) rfl ?_); refine box_event ?hg (N := 7) ?hd (cs := #[.int .i64 a2_0, .int .i64 a2_1, .int .i64 a2_2, .int .i64 a2_3, .int .i64 a2_4]) (t := 93) ?hr ?_; (case hd => rfl); (case hg => rfl); (case hr => exact g10); intro gb156 hg w13 hbox hb; have n_ := laws_big.K7_ (blk_below (g := gb155) (o := .cells #[.slice A0_0 l0_0.length c0_0] 68 (0, 0)) (g2 BK155.out) hb) (below_step (g12 HB.out GE155.out) hb) hbox ((g16 HB.out GE155.out : w.heap.size ≤ gb156)) ((g16 HB.out GE155.out : w.heap.size ≤ gb156)) ((laws_big.z4 : gb155 ≠ gb156)) ((laws_big.z5 : gb156 ≠ gb155)); clear BK155 HB; obtain ⟨BK155, HB, BK156, GW156, GE156, NB155_156, NB156_155⟩ := n_; clear hb hbox hg) | ((with_reducible refine gate_dst (N := 10) rfl ?_); refine box_event ?hg (N := 10) ?hd (cs := #[.slice none 0 0]) (t := 68) ?hr ?_; (case hd => rfl); (case hg => rfl); (case hr => exact g10); intro gb157 hg w14 hbox hb; have n_ := laws_big.K10_ (blk_below (g := gb155) (o := .cells #[.slice A0_0 l0_0.length c0_0] 68 (0, 0)) (g2 BK155.out) hb) (blk_below (g := gb156) (o := .cells #[.int .i64 a2_0, .int .i64 a2_1, .int .i64 a2_2, .int .i64 a2_3, .int .i64 a2_4] 93 (0, 0)) (g2 BK156.out) hb) (below_step (g18 HB.out GE155.out GE156.out) hb) hbox ((g32 HB.out GE155.out GE156.out : w.heap.size ≤ gb157)) ((g32 HB.out GE155.out GE156.out : w.heap.size ≤ gb157)) ((laws_big.z4 : gb155 ≠ gb157)) ((laws_big.z5 : gb157 ≠ gb155)) ((by rw [hg]; exact Nat.ne_of_lt (blk_lt (g := gb156) (o := .cells #[.int .i64 a2_0, .int .i64 a2_1, .int .i64 a2_2, .int .i64 a2_3, .int .i64 a2_4] 93 (0, 0)) (g2 BK156.out)) : gb156 ≠ gb157)) ((by rw [hg]; exact Nat.ne_of_gt (blk_lt (g := gb156) (o := .cells #[.int .i64 a2_0, .int .i64 a2_1, .int .i64 a2_2, .int .i64 a2_3, .int .i64 a2_4] 93 (0, 0)) (g2 BK156.out)) : gb157 ≠ gb156)); clear BK155 BK156 HB; obtain ⟨BK155, BK156, HB, BK157, GW157, GE157, NB155_157, NB157_155, NB156_157, NB157_156⟩ := n_; clear hb hbox hg) | ((with_reducible refine gate_dst (N := 12) rfl ?_); refine Kd.R_lit k93 _ 93 ?hg (N := 12) ?hd (xs := ([] : List (S93))) (inner := []) (ok := fun _ => True) (okp := fun _ => True) ?hr ?hp (fun _ hk => hk) trivial (Below.refl _ _) (Nat.le_refl _) (by simp) ?_; (case hd => rfl); (case hg => rfl); (case hr => exact g10); (case hp => exact (Reps.none _ _)); intro v159 w15 ho16 hb hg_ hnew_; clear hg_ hnew_; (first | rw [← Ny158.out] at ho16 | (simp only [Int.reduceToNat] at ho16; rw [← Ny158.out] at ho16)); have n_ := laws_big.K5_ (Kd.R_lower (Kd.R_newB ho16 (g := gb156) (o := .cells #[.int .i64 a2_0, .int .i64 a2_1, .int .i64 a2_2, .int .i64 a2_3, .int .i64 a2_4] 93 (0, 0)) (g2 BK156.out)) (below_size (g33 HB.out GE155.out GE156.out GE157.out))) (blk_below (g := gb155) (o := .cells #[.slice A0_0 l0_0.length c0_0] 68 (0, 0)) (g2 BK155.out) hb) (blk_below (g := gb156) (o := .cells #[.int .i64 a2_0, .int .i64 a2_1, .int .i64 a2_2, .int .i64 a2_3, .int .i64 a2_4] 93 (0, 0)) (g2 BK156.out) hb) (blk_below (g := gb157) (o := .cells #[.slice none 0 0] 68 (0, 0)) (g2 BK157.out) hb) (below_step (g33 HB.out GE155.out GE156.out GE157.out) hb); clear BK155 BK156 BK157 HB; obtain ⟨HO160, BK155, BK156, BK157, HB⟩ := n_; clear hb ho16; have hnb17 := NB155_156.out; have hnc17 := NB156_155.out; have hnb18 := NB155_157.out; have hnc18 := NB157_155.out; have hcz19_0 : w15.cell? ⟨gb155, 0, none⟩ = some (.slice A0_0 l0_0.length c0_0) := (blk_cell BK155.out 0).trans rfl; have hfz19_0 := blk_frozen BK155.out 0) | ((with_reducible refine gate_builtin (b := .append) (xs := #[.tmp 12, .tmp 14]) rfl ?_); at_builtin; refine Kd.R_append_rows k93 (w0 := w) w.heap.size rfl (.tmp 12) (.tmp 14) 66 93 (.agg #[(.int .i64 0), (.int .i64 0), (.int .i64 0), (.int .i64 0), (.int .i64 0)]) 40 rfl Try.underlying66 info93 rfl (by decide) (by omega) v159 y158 l0_0 _ _ _ (fun k_ => k_ ≠ gb156) (fun _ => False) rfl rfl ?aO ?aR (fun _ _ h => h) (fun _ h => h.elim) ?aF ?aB ?aS ?aL ?_; (case aR => exact g20 HR0_0.out HB.out); (case aB => exact g34 HB.out GE155.out GE156.out GE157.out); (case aF => exact (fun k_ hk => Kd.freshB (g := gb156) (o := .cells #[.int .i64 a2_0, .int .i64 a2_1, .int .i64 a2_2, .int .i64 a2_3, .int .i64 a2_4] 93 (0, 0)) (g2 BK156.out) k_ hk)); (case aO => exact (by (with_reducible repeat (first | apply Kd.R_alloc | apply Kd.R_drewN | apply Kd.R_drew)); exact Kd.R_mono HO160.out (fun _ hk => hk.2))); (case aS => exact g35 HB.out GE155.out GE156.out GE157.out); (case aL => have := LMc6.out; omega); intro v162 w20 ho hb hg hat; rw [← Ny161.out] at ho; have n_ := laws_big.K5_ (blk_grown (g := gb155) (o := .cells #[.slice A0_0 l0_0.length c0_0] 68 (0, 0)) (g2 BK155.out) hg (Kd.R_ne HO160.out BK155.out (by decide))) (blk_grown (g := gb156) (o := .cells #[.int .i64 a2_0, .int .i64 a2_1, .int .i64 a2_2, .int .i64 a2_3, .int .i64 a2_4] 93 (0, 0)) (g2 BK156.out) hg (Kd.R_away HO160.out (fun _ hk => hk.2))) (blk_grown (g := gb157) (o := .cells #[.slice none 0 0] 68 (0, 0)) (g2 BK157.out) hg (Kd.R_ne HO160.out BK157.out (by decide))) hb ho; clear BK155 BK156 BK157 HB HO160; obtain ⟨BK155, BK156, BK157, HB, HO163⟩ := n_; clear ho hb hg hat; have hnb21 := NB156_157.out; have hnc21 := NB157_156.out; have hcz22_0 : w20.cell? ⟨gb156, 0, none⟩ = some (.int .i64 a2_0) := (blk_cell BK156.out 0).trans rfl; have hcz22_1 : w20.cell? ⟨gb156, 1, none⟩ = some (.int .i64 a2_1) := (blk_cell BK156.out 1).trans rfl; have hcz22_2 : w20.cell? ⟨gb156, 2, none⟩ = some (.int .i64 a2_2) := (blk_cell BK156.out 2).trans rfl; have hcz22_3 : w20.cell? ⟨gb156, 3, none⟩ = some (.int .i64 a2_3) := (blk_cell BK156.out 3).trans rfl; have hcz22_4 : w20.cell? ⟨gb156, 4, none⟩ = some (.int .i64 a2_4) := (blk_cell BK156.out 4).trans rfl; have hfz22_0 := blk_frozen BK156.out 0; have hfz22_1 := blk_frozen BK156.out 1; have hfz22_2 := blk_frozen BK156.out 2; have hfz22_3 := blk_frozen BK156.out 3; have hfz22_4 := blk_frozen BK156.out 4) | ((with_reducible refine gate_store (t := 3) (p := 16) rfl ?_); refine store_event (t := 3) (p := 16) (v := ?vo_w23) (w1 := (w20.setCell ⟨gb156, 4, none⟩ (.int .i64 0))) ?hg ?ho ?hn ?hr ?_; (case ho => rfl); (case hg => rfl); (case hn => rfl); (case hr => exact g10); intro w23 hw; have n0_ : Aside0 (Kd.R k93 93 w23 w.heap.size (fun k_ => k_ ≠ gb156) v162 y161) := ⟨(by rw [hw]; exact (by (with_reducible repeat (first | apply Kd.R_alloc | apply Kd.R_drewN | apply Kd.R_drew)); exact Kd.R_mono (Kd.R_far (p := ⟨gb156, 4, none⟩) (Kd.R_mono HO163.out (fun k_ hk => (⟨hk, hk⟩ : _ ∧ k_ ≠ gb156))) (fun _ hk => hk.2) (.int .i64 0)) (fun _ hk => hk.1)))⟩; have n1_ : Aside0 (w23.heap[gb155]? = some (.cells #[.slice A0_0 l0_0.length c0_0] 68 (0, 0))) := ⟨(g37 NB155_156.out BK155.out)⟩; have n2_ : Aside0 (w23.heap[gb156]? = some (.cells #[.int .i64 a2_0, .int .i64 a2_1, .int .i64 a2_2, .int .i64 a2_3, .int .i64 0] 93 (0, 0))) := ⟨(by rw [hw]; exact (by (with_reducible repeat (first | refine blk_drewN ?_ _ | refine blk_drew ?_ | refine blk_alloc ?_ _)); refine blk_put (cs := #[.int .i64 a2_0, .int .i64 a2_1, .int .i64 a2_2, .int .i64 a2_3, .int .i64 a2_4]) ?_ 4 _ rfl; (with_reducible repeat (first | refine blk_drewN ?_ _ | refine blk_drew ?_ | refine blk_alloc ?_ _)); exact BK156.out))⟩; have n3_ : Aside0 (w23.heap[gb157]? = some (.cells #[.slice none 0 0] 68 (0, 0))) := ⟨(g37 NB157_156.out BK157.out)⟩; have n4_ : Aside0 (Below w.heap.size w w23) := ⟨(g38 HB.out GE155.out GE156.out GE157.out)⟩; clear hw; clear HO163; clear BK155; clear BK156; clear BK157; clear HB; have HO163 := n0_; have BK155 := n1_; have BK156 := n2_; have BK157 := n3_; have HB := n4_; clear n0_ n1_ n2_ n3_ n4_; obtain ⟨Ao24, co24, eo24⟩ := Kd.R_slice HO163.out; subst eo24; have hcz25_0 : w23.cell? ⟨gb156, 0, none⟩ = some (.int .i64 a2_0) := (blk_cell BK156.out 0).trans rfl; have hcz25_1 : w23.cell? ⟨gb156, 1, none⟩ = some (.int .i64 a2_1) := (blk_cell BK156.out 1).trans rfl; have hcz25_2 : w23.cell? ⟨gb156, 2, none⟩ = some (.int .i64 a2_2) := (blk_cell BK156.out 2).trans rfl; have hcz25_3 : w23.cell? ⟨gb156, 3, none⟩ = some (.int .i64 a2_3) := (blk_cell BK156.out 3).trans rfl; have hcz25_4 : w23.cell? ⟨gb156, 4, none⟩ = some (.int .i64 0) := (blk_cell BK156.out 4).trans rfl; have hfz25_0 := blk_frozen BK156.out 0; have hfz25_1 := blk_frozen BK156.out 1; have hfz25_2 := blk_frozen BK156.out 2; have hfz25_3 := blk_frozen BK156.out 3; have hfz25_4 := blk_frozen BK156.out 4) | ((with_reducible refine gate_store (t := 3) (p := 19) rfl ?_); refine store_event (t := 3) (p := 19) (v := ?vo_w26) (w1 := (w23.setCell ⟨gb156, 2, none⟩ (.int .i64 (y161.length : Int)))) ?hg ?ho ?hn ?hr ?_; (case ho => rfl); (case hg => rfl); (case hn => rfl); (case hr => exact g10); intro w26 hw; have n0_ : Aside0 (Kd.R k93 93 w26 w.heap.size (fun k_ => k_ ≠ gb156) (.slice Ao24 y161.length co24) y161) := ⟨(by rw [hw]; exact (by (with_reducible repeat (first | apply Kd.R_alloc | apply Kd.R_drewN | apply Kd.R_drew)); exact Kd.R_mono (Kd.R_far (p := ⟨gb156, 2, none⟩) (Kd.R_mono HO163.out (fun k_ hk => (⟨hk, hk⟩ : _ ∧ k_ ≠ gb156))) (fun _ hk => hk.2) (.int .i64 (y161.length : Int))) (fun _ hk => hk.1)))⟩; have n1_ : Aside0 (w26.heap[gb155]? = some (.cells #[.slice A0_0 l0_0.length c0_0] 68 (0, 0))) := ⟨(g37 NB155_156.out BK155.out)⟩; have n2_ : Aside0 (w26.heap[gb156]? = some (.cells #[.int .i64 a2_0, .int .i64 a2_1, .int .i64 (y161.length : Int), .int .i64 a2_3, .int .i64 0] 93 (0, 0))) := ⟨(by rw [hw]; exact (by (with_reducible repeat (first | refine blk_drewN ?_ _ | refine blk_drew ?_ | refine blk_alloc ?_ _)); refine blk_put (cs := #[.int .i64 a2_0, .int .i64 a2_1, .int .i64 a2_2, .int .i64 a2_3, .int .i64 0]) ?_ 2 _ rfl; (with_reducible repeat (first | refine blk_drewN ?_ _ | refine blk_drew ?_ | refine blk_alloc ?_ _)); exact BK156.out))⟩; have n3_ : Aside0 (w26.heap[gb157]? = some (.cells #[.slice none 0 0] 68 (0, 0))) := ⟨(g37 NB157_156.out BK157.out)⟩; have n4_ : Aside0 (Below w.heap.size w w26) := ⟨(g38 HB.out GE155.out GE156.out GE157.out)⟩; clear hw; clear HO163; clear BK155; clear BK156; clear BK157; clear HB; have HO163 := n0_; have BK155 := n1_; have BK156 := n2_; have BK157 := n3_; have HB := n4_; clear n0_ n1_ n2_ n3_ n4_; have hcz27_0 : w26.cell? ⟨gb156, 0, none⟩ = some (.int .i64 a2_0) := (blk_cell BK156.out 0).trans rfl; have hcz27_1 : w26.cell? ⟨gb156, 1, none⟩ = some (.int .i64 a2_1) := (blk_cell BK156.out 1).trans rfl; have hcz27_2 : w26.cell? ⟨gb156, 2, none⟩ = some (.int .i64 (y161.length : Int)) := (blk_cell BK156.out 2).trans rfl; have hcz27_3 : w26.cell? ⟨gb156, 3, none⟩ = some (.int .i64 a2_3) := (blk_cell BK156.out 3).trans rfl; have hcz27_4 : w26.cell? ⟨gb156, 4, none⟩ = some (.int .i64 0) := (blk_cell BK156.out 4).trans rfl; have hfz27_0 := blk_frozen BK156.out 0; have hfz27_1 := blk_frozen BK156.out 1; have hfz27_2 := blk_frozen BK156.out 2; have hfz27_3 := blk_frozen BK156.out 3; have hfz27_4 := blk_frozen BK156.out 4) | ((with_reducible refine gate_store (t := 3) (p := 23) rfl ?_); refine store_event (t := 3) (p := 23) (v := ?vo_w28) (w1 := (w26.setCell ⟨gb156, 3, none⟩ (.int .i64 (wrap64 ((y161.length : Int) + 1))))) ?hg ?ho ?hn ?hr ?_; (case ho => rfl); (case hg => rfl); (case hn => rfl); (case hr => exact g10); intro w28 hw; have n0_ : Aside0 (Kd.R k93 93 w28 w.heap.size (fun k_ => k_ ≠ gb156) (.slice Ao24 y161.length co24) y161) := ⟨(by rw [hw]; exact (by (with_reducible repeat (first | apply Kd.R_alloc | apply Kd.R_drewN | apply Kd.R_drew)); exact Kd.R_mono (Kd.R_far (p := ⟨gb156, 3, none⟩) (Kd.R_mono HO163.out (fun k_ hk => (⟨hk, hk⟩ : _ ∧ k_ ≠ gb156))) (fun _ hk => hk.2) (.int .i64 (wrap64 ((y161.length : Int) + 1)))) (fun _ hk => hk.1)))⟩; have n1_ : Aside0 (w28.heap[gb155]? = some (.cells #[.slice A0_0 l0_0.length c0_0] 68 (0, 0))) := ⟨(g37 NB155_156.out BK155.out)⟩; have n2_ : Aside0 (w28.heap[gb156]? = some (.cells #[.int .i64 a2_0, .int .i64 a2_1, .int .i64 (y161.length : Int), .int .i64 (wrap64 ((y161.length : Int) + 1)), .int .i64 0] 93 (0, 0))) := ⟨(by rw [hw]; exact (by (with_reducible repeat (first | refine blk_drewN ?_ _ | refine blk_drew ?_ | refine blk_alloc ?_ _)); refine blk_put (cs := #[.int .i64 a2_0, .int .i64 a2_1, .int .i64 (y161.length : Int), .int .i64 a2_3, .int .i64 0]) ?_ 3 _ rfl; (with_reducible repeat (first | refine blk_drewN ?_ _ | refine blk_drew ?_ | refine blk_alloc ?_ _)); exact BK156.out))⟩; have n3_ : Aside0 (w28.heap[gb157]? = some (.cells #[.slice none 0 0] 68 (0, 0))) := ⟨(g37 NB157_156.out BK157.out)⟩; have n4_ : Aside0 (Below w.heap.size w w28) := ⟨(g38 HB.out GE155.out GE156.out GE157.out)⟩; clear hw; clear HO163; clear BK155; clear BK156; clear BK157; clear HB; have HO163 := n0_; have BK155 := n1_; have BK156 := n2_; have BK157 := n3_; have HB := n4_; clear n0_ n1_ n2_ n3_ n4_; have hcz29_0 : w28.cell? ⟨gb156, 0, none⟩ = some (.int .i64 a2_0) := (blk_cell BK156.out 0).trans rfl; have hcz29_1 : w28.cell? ⟨gb156, 1, none⟩ = some (.int .i64 a2_1) := (blk_cell BK156.out 1).trans rfl; have hcz29_2 : w28.cell? ⟨gb156, 2, none⟩ = some (.int .i64 (y161.length : Int)) := (blk_cell BK156.out 2).trans rfl; have hcz29_3 : w28.cell? ⟨gb156, 3, none⟩ = some (.int .i64 (wrap64 ((y161.length : Int) + 1))) := (blk_cell BK156.out 3).trans rfl; have hcz29_4 : w28.cell? ⟨gb156, 4, none⟩ = some (.int .i64 0) := (blk_cell BK156.out 4).trans rfl; have hfz29_0 := blk_frozen BK156.out 0; have hfz29_1 := blk_frozen BK156.out 1; have hfz29_2 := blk_frozen BK156.out 2; have hfz29_3 := blk_frozen BK156.out 3; have hfz29_4 := blk_frozen BK156.out 4; have p9 : 0 ≤ (a1 : Int) := of_decide_eq_true (g6); have q9 : (a1 : Int) < ((y161.length : Int) : Int) := of_decide_eq_true (g6); obtain ⟨go9, co9, eo9, gb9, gl9, cl9, HG9⟩ := Kd.R_form HO163.out (by omega); (first | cases eo9 | (injection eo9 with ea_ en_ ec_; (first | subst ea_ | (injection ea_ with ea_; subst ea_)); subst ec_; clear en_)); have GB9 := Aside0.mk gb9; have GG9 := Aside0.mk HG9; clear gb9 gl9 HG9; obtain ⟨ce9, hcl9, hM9, hcc9, hfr9⟩ := Kd.R_elem HO163.out z93 (a1 : Int) p9 q9; obtain rfl := k93_openM hM9; have hx9_0 : w28.cell? ⟨go9, (a1 : Int).toNat * 5, none⟩ = some (.int .i64 ((rd_T93 y161 a1).f0)) := hcc9 0 _ rfl; have hx9_1 : w28.cell? ⟨go9, (a1 : Int).toNat * 5 + 1, none⟩ = some (.int .i64 ((rd_T93 y161 a1).f1)) := hcc9 1 _ rfl; have hx9_2 : w28.cell? ⟨go9, (a1 : Int).toNat * 5 + 2, none⟩ = some (.int .i64 ((rd_T93 y161 a1).f2)) := hcc9 2 _ rfl; have hx9_3 : w28.cell? ⟨go9, (a1 : Int).toNat * 5 + 3, none⟩ = some (.int .i64 ((rd_T93 y161 a1).f3)) := hcc9 3 _ rfl; have hx9_4 : w28.cell? ⟨go9, (a1 : Int).toNat * 5 + 4, none⟩ = some (.int .i64 ((rd_T93 y161 a1).f4)) := hcc9 4 _ rfl; have hf9_0 : w28.frozen? ⟨go9, (a1 : Int).toNat * 5, none⟩ = false := hfr9 0; have hf9_1 : w28.frozen? ⟨go9, (a1 : Int).toNat * 5 + 1, none⟩ = false := hfr9 1; have hf9_2 : w28.frozen? ⟨go9, (a1 : Int).toNat * 5 + 2, none⟩ = false := hfr9 2; have hf9_3 : w28.frozen? ⟨go9, (a1 : Int).toNat * 5 + 3, none⟩ = false := hfr9 3; have hf9_4 : w28.frozen? ⟨go9, (a1 : Int).toNat * 5 + 4, none⟩ = false := hfr9 4; clear hcl9 hcc9 hfr9; (try clear hM9); replace p9 := eq_true p9; replace q9 := eq_true q9; have HX30 := Aside0.mk (show Kd.R k93 93 w28 w.heap.size (fun k_ => k_ ≠ gb156) (.slice (some ⟨go9, 0, none⟩) y161.length co24) y161 from (g1 HO163.out)); obtain ⟨ce30, hcl30, hM30, hcc30, hfr30⟩ := Kd.R_elem HX30.out z93 (a1 : Int) (of_decide_eq_true (g6)) laws_big.z6; obtain rfl := k93_openM hM30; have HP30 := Kd.R_seg HX30.out (a1 : Int) (of_decide_eq_true (g6)) laws_big.z6 (seg := [.int .i64 a2_0, .int .i64 a2_1, .int .i64 (y161.length : Int), .int .i64 (wrap64 ((y161.length : Int) + 1)), .int .i64 0]) (j := 0) hcl30 hcc30 (show 5 ≤ 5 from by decide) (x' := (⟨a2_0, a2_1, (y161.length : Int), wrap64 ((y161.length : Int) + 1), 0⟩ : S93)) (k93_mkM _ _ _ (⟨a2_0, a2_1, (y161.length : Int), wrap64 ((y161.length : Int) + 1), 0⟩ : S93) ) (fun _ hk => hk); have hx30_0 := hcc30 0 _ rfl; (try simp only [show (k93).sz = 5 from rfl, Nat.mul_one, Nat.add_zero] at hx30_0); have hf30_0 := hfr30 0; (try simp only [show (k93).sz = 5 from rfl, Nat.mul_one, Nat.add_zero] at hf30_0); have hx30_1 := hcc30 1 _ rfl; (try simp only [show (k93).sz = 5 from rfl, Nat.mul_one, Nat.add_zero] at hx30_1); have hf30_1 := hfr30 1; (try simp only [show (k93).sz = 5 from rfl, Nat.mul_one, Nat.add_zero] at hf30_1); have hx30_2 := hcc30 2 _ rfl; (try simp only [show (k93).sz = 5 from rfl, Nat.mul_one, Nat.add_zero] at hx30_2); have hf30_2 := hfr30 2; (try simp only [show (k93).sz = 5 from rfl, Nat.mul_one, Nat.add_zero] at hf30_2); have hx30_3 := hcc30 3 _ rfl; (try simp only [show (k93).sz = 5 from rfl, Nat.mul_one, Nat.add_zero] at hx30_3); have hf30_3 := hfr30 3; (try simp only [show (k93).sz = 5 from rfl, Nat.mul_one, Nat.add_zero] at hf30_3); have hx30_4 := hcc30 4 _ rfl; (try simp only [show (k93).sz = 5 from rfl, Nat.mul_one, Nat.add_zero] at hx30_4); have hf30_4 := hfr30 4; (try simp only [show (k93).sz = 5 from rfl, Nat.mul_one, Nat.add_zero] at hf30_4); clear hcl30 hcc30 hfr30; (try clear hM30)) | ((with_reducible refine gate_store (t := 93) (p := 27) rfl ?_); refine store_event (t := 93) (p := 27) (v := ?vo_w31) (w1 := (((((w28.setCell ⟨go9, (a1 : Int).toNat * 5, none⟩ (.int .i64 a2_0)).setCell ⟨go9, (a1 : Int).toNat * 5 + 1, none⟩ (.int .i64 a2_1)).setCell ⟨go9, (a1 : Int).toNat * 5 + 2, none⟩ (.int .i64 (y161.length : Int))).setCell ⟨go9, (a1 : Int).toNat * 5 + 3, none⟩ (.int .i64 (wrap64 ((y161.length : Int) + 1)))).setCell ⟨go9, (a1 : Int).toNat * 5 + 4, none⟩ (.int .i64 0))) ?hg ?ho ?hn ?hr ?_; (case ho => rfl); (case hg => rfl); (case hn => rfl); (case hr => exact g10); intro w31 hw; have hg : w28.grownBy w31 (some go9) := (by rw [hw]; exact HP30.2); have hp_ : Kd.R k93 93 w31 w.heap.size (fun k_ => k_ ≠ gb156) (.slice (some ⟨go9, 0, none⟩) y161.length co24) y164 := (by rw [hw, Ny164.out]; exact HP30.1); clear HP30; have n_ := laws_big.K5_ (blk_grown (g := gb155) (o := .cells #[.slice A0_0 l0_0.length c0_0] 68 (0, 0)) (g2 BK155.out) hg (Kd.R_ne HO163.out BK155.out (by decide))) (blk_grown (g := gb156) (o := .cells #[.int .i64 a2_0, .int .i64 a2_1, .int .i64 (y161.length : Int), .int .i64 (wrap64 ((y161.length : Int) + 1)), .int .i64 0] 93 (0, 0)) (g2 BK156.out) hg (Kd.R_away HO163.out (fun _ hk => hk))) (blk_grown (g := gb157) (o := .cells #[.slice none 0 0] 68 (0, 0)) (g2 BK157.out) hg (Kd.R_ne HO163.out BK157.out (by decide))) hp_ ((by rw [hw]; exact below_set (below_set (below_set (below_set (below_set (HB.out) GB9.out) GB9.out) GB9.out) GB9.out) GB9.out : Below w.heap.size w w31)); clear BK155 BK156 BK157 HO163 HB; obtain ⟨BK155, BK156, BK157, HO163, HB⟩ := n_; clear hg hw hp_) | ((with_reducible refine gate_dst (N := 33) rfl ?_); refine Kd.R_lit k93 _ 93 ?hg (N := 33) ?hd (xs := ([(⟨(-1), 0, 0, 0, a3⟩ : S93), (⟨(-1), 0, 0, 0, a4⟩ : S93)] : List (S93))) (inner := [.int .i64 (-1), .int .i64 0, .int .i64 0, .int .i64 0, .int .i64 a3, .int .i64 (-1), .int .i64 0, .int .i64 0, .int .i64 0, .int .i64 a4]) (ok := fun _ => True) (okp := fun _ => True) ?hr ?hp (fun _ hk => hk) trivial (Below.refl _ _) (Nat.le_refl _) (by simp) ?_; (case hd => rfl); (case hg => rfl); (case hr => exact g10); (case hp => exact (Reps.c5 (show Kd.M k93 _ _ _ (⟨(-1), 0, 0, 0, a3⟩ : S93) [.int .i64 (-1), .int .i64 0, .int .i64 0, .int .i64 0, .int .i64 a3] from (k93_mkM _ _ _ (⟨(-1), 0, 0, 0, a3⟩ : S93) )) (Reps.c5 (show Kd.M k93 _ _ _ (⟨(-1), 0, 0, 0, a4⟩ : S93) [.int .i64 (-1), .int .i64 0, .int .i64 0, .int .i64 0, .int .i64 a4] from (k93_mkM _ _ _ (⟨(-1), 0, 0, 0, a4⟩ : S93) )) (Reps.none _ _)))); intro v166 w32 ho33 hb hg_ hnew_; clear hg_ hnew_; (first | rw [← Ny165.out] at ho33 | (simp only [Int.reduceToNat] at ho33; rw [← Ny165.out] at ho33)); have n_ := laws_big.K6_ (Kd.R_elder' (g1 HO163.out) (Kd.R_base ho33) hb) (Kd.R_lower (Kd.R_newB (Kd.R_new' ho33 (Kd.R_lt (g1 HO163.out))) (g := gb156) (o := .cells #[.int .i64 a2_0, .int .i64 a2_1, .int .i64 (y161.length : Int), .int .i64 (wrap64 ((y161.length : Int) + 1)), .int .i64 0] 93 (0, 0)) (g2 BK156.out)) (below_size (g33 HB.out GE155.out GE156.out GE157.out))) (blk_below (g := gb155) (o := .cells #[.slice A0_0 l0_0.length c0_0] 68 (0, 0)) (g2 BK155.out) hb) (blk_below (g := gb156) (o := .cells #[.int .i64 a2_0, .int .i64 a2_1, .int .i64 (y161.length : Int), .int .i64 (wrap64 ((y161.length : Int) + 1)), .int .i64 0] 93 (0, 0)) (g2 BK156.out) hb) (blk_below (g := gb157) (o := .cells #[.slice none 0 0] 68 (0, 0)) (g2 BK157.out) hb) (below_step (g33 HB.out GE155.out GE156.out GE157.out) hb); clear HO163 BK155 BK156 BK157 HB; obtain ⟨HO163, HO167, BK155, BK156, BK157, HB⟩ := n_; clear hb ho33; obtain ⟨Ao35, co35, eo35⟩ := Kd.R_slice HO167.out; subst eo35) | ((with_reducible refine gate_builtin (b := .append) (xs := #[.tmp 28, .tmp 33]) rfl ?_); at_builtin; refine Kd.R_append_rows k93 (w0 := w) w.heap.size rfl (.tmp 28) (.tmp 33) 66 93 (.agg #[(.int .i64 0), (.int .i64 0), (.int .i64 0), (.int .i64 0), (.int .i64 0)]) 40 rfl Try.underlying66 info93 rfl (by decide) (by omega) (.slice (some ⟨go9, 0, none⟩) y161.length co24) y164 y165 _ _ _ (fun k_ => some k_ ≠ (.slice Ao35 y165.length co35 : Value).ownBlock ∧ k_ ≠ gb156) (fun _ => False) rfl rfl ?aO ?aR (fun _ _ h => h) (fun _ h => h.elim) ?aF ?aB ?aS ?aL ?_; (case aR => exact g26 HO167.out); (case aB => exact g34 HB.out GE155.out GE156.out GE157.out); (case aF => exact (fun k_ hk => ⟨Kd.fresh' (Kd.R_lt (g1 HO167.out)) k_ hk, Kd.freshB (g := gb156) (o := .cells #[.int .i64 a2_0, .int .i64 a2_1, .int .i64 (y161.length : Int), .int .i64 (wrap64 ((y161.length : Int) + 1)), .int .i64 0] 93 (0, 0)) (g2 BK156.out) k_ hk⟩)); (case aO => exact (by (with_reducible repeat (first | apply Kd.R_alloc | apply Kd.R_drewN | apply Kd.R_drew)); exact Kd.R_mono HO163.out (fun _ hk => ⟨hk.2, hk.1⟩))); (case aS => exact g35 HB.out GE155.out GE156.out GE157.out); (case aL => have := LMc10.out; omega); intro v169 w34 ho hb hg hat; rw [← Ny168.out] at ho; have n_ := laws_big.K6_ (blk_grown (g := gb155) (o := .cells #[.slice A0_0 l0_0.length c0_0] 68 (0, 0)) (g2 BK155.out) hg (Kd.R_ne HO163.out BK155.out (by decide))) (blk_grown (g := gb156) (o := .cells #[.int .i64 a2_0, .int .i64 a2_1, .int .i64 (y161.length : Int), .int .i64 (wrap64 ((y161.length : Int) + 1)), .int .i64 0] 93 (0, 0)) (g2 BK156.out) hg (Kd.R_away HO163.out (fun _ hk => hk.1))) (blk_grown (g := gb157) (o := .cells #[.slice none 0 0] 68 (0, 0)) (g2 BK157.out) hg (Kd.R_ne HO163.out BK157.out (by decide))) (Kd.R_after (ok := (fun k_ => k_ ≠ gb156)) (by (with_reducible repeat (first | apply Kd.R_alloc | apply Kd.R_drewN | apply Kd.R_drew)); exact Kd.R_mono HO167.out (fun _ hk => ⟨hk.2, hk.1.2⟩)) hg hat) hb ho; clear BK155 BK156 BK157 HO167 HB HO163; obtain ⟨BK155, BK156, BK157, HO167, HB, HO170⟩ := n_; clear ho hb hg hat; obtain ⟨Ao36, co36, eo36⟩ := Kd.R_slice HO170.out; subst eo36) | ((with_reducible refine gate_callee (f := 168) rfl ?_); refine goesL_ (some 36) rfl rfl Try.func168 (by kernel_rfl) rfl #[.slice Ao36 y168.length co36] rfl (g9) ?_; (with_reducible refine (spec_l17Levels.calls k _ _ y168 t171 _ ?side1 ?side2 A11.out).mono ?_); (case side1 => exact g26 HO170.out); (case side2 => exact (Kd.R_reads' HO170.out).2.1); rintro e w37 ⟨v172, rfl, ho0, hb⟩; refine ⟨_, rfl, ?_⟩; have n_ := laws_big.K7_ (Kd.R_elder' (g1 HO167.out) (Kd.R_base ho0) hb) (Kd.R_elder' (g1 HO170.out) (Kd.R_base ho0) hb) (Kd.R_lower (Kd.R_newB (Kd.R_new' (Kd.R_new' ho0 (Kd.R_lt (g1 HO167.out))) (Kd.R_lt (g1 HO170.out))) (g := gb156) (o := .cells #[.int .i64 a2_0, .int .i64 a2_1, .int .i64 (y161.length : Int), .int .i64 (wrap64 ((y161.length : Int) + 1)), .int .i64 0] 93 (0, 0)) (g2 BK156.out)) (below_size (g33 HB.out GE155.out GE156.out GE157.out))) (blk_below (g := gb155) (o := .cells #[.slice A0_0 l0_0.length c0_0] 68 (0, 0)) (g2 BK155.out) hb) (blk_below (g := gb156) (o := .cells #[.int .i64 a2_0, .int .i64 a2_1, .int .i64 (y161.length : Int), .int .i64 (wrap64 ((y161.length : Int) + 1)), .int .i64 0] 93 (0, 0)) (g2 BK156.out) hb) (blk_below (g := gb157) (o := .cells #[.slice none 0 0] 68 (0, 0)) (g2 BK157.out) hb) (below_step (g33 HB.out GE155.out GE156.out GE157.out) hb); clear HO167 HO170 BK155 BK156 BK157 HB; obtain ⟨HO167, HO170, HO173, BK155, BK156, BK157, HB⟩ := n_; (try clear hb); (try clear hb2); (try clear hk); (try clear hi); (try clear ho0); obtain ⟨Ao38, co38, eo38⟩ := Kd.R_slice HO173.out; subst eo38; have hcz39_0 : w37.cell? ⟨gb157, 0, none⟩ = some (.slice none 0 0) := (blk_cell BK157.out 0).trans rfl; have hfz39_0 := blk_frozen BK157.out 0))
 refine bodyPost_ret (results_cell_row rfl _ _ gb157 68 #[.slice Ao38 t171.length co38] (0, 0) _ rfl (by (with_reducible repeat (first | refine blk_drewN ?_ _ | refine blk_drew ?_ | refine blk_alloc ?_ _)); refine blk_put (cs := #[.slice none 0 0]) ?_ 0 _ rfl; (with_reducible repeat (first | refine blk_drewN ?_ _ | refine blk_drew ?_ | refine blk_alloc ?_ _)); exact BK157.out) Try.underlying68 rfl (by kernel_rfl)) rfl ?_
 exact ⟨_, g5, by (with_reducible repeat (first | apply Kd.R_alloc | apply Kd.R_drewN | apply Kd.R_drew)); exact Kd.R_mono (Kd.R_far (p := ⟨gb157, 0, none⟩) (Kd.R_types HO173.out BK157.out (by decide)) (fun _ hk => hk.2) (.slice Ao38 t171.length co38)) (fun _ hk => trivial), g33 HB.out GE155.out GE156.out GE157.out⟩
def spec_l1In.f (a0 : Int) (a1 : Int) (a2 : Int) : Option (Bool) := if a0 ≥ a1 then (some (decide (a0 ≤ a2))) else (some false)
set_option maxHeartbeats 8000000 in
set_option maxRecDepth 100000 in
theorem spec_l1In.calls (a0 : Int) (a1 : Int) (a2 : Int) (r : Bool) (w : World) (h : spec_l1In.f a0 a1 a2 = some r) :
    Calls Try.prog 54 #[.int .i64 a0, .int .i64 a1, .int .i64 a2] w fun e w' => e = .returned (.bool r) ∧ Drawn0 w w' := by
 have H : (if a0 ≥ a1 then (some (decide (a0 ≤ a2))) else (some false)) = some r := h
 clear h
 by_cases c4 : a0 ≥ a1
 case neg =>
  rw [if_neg c4] at H
  have c4b0 : decide (a1 ≤ a0) = false := decide_eq_false c4
  clear c4
  obtain rfl := Option.some.inj H
  go_enter Try.func54, Try.ntmps54
  go_wp2
  go_ret
  exact ⟨g0, g21⟩
 rw [if_pos c4] at H
 have c4b0 : decide (a1 ≤ a0) = true := decide_eq_true c4
 clear c4
 obtain rfl := Option.some.inj H
 go_enter Try.func54, Try.ntmps54
 go_wp2
 go_ret
 exact ⟨g0, g21⟩
def spec_l14Leaf.f (a0 : Int) : Option (Bool) := (spec_l1In.f a0 (-1099511627776) 1099511627776).bind fun t174 => (some t174)
set_option maxHeartbeats 8000000 in
set_option maxRecDepth 100000 in
theorem spec_l14Leaf.calls (a0 : Int) (r : Bool) (w : World) (h : spec_l14Leaf.f a0 = some r) :
    Calls Try.prog 149 #[.int .i64 a0] w fun e w' => e = .returned (.bool r) ∧ Drawn0 w w' := by
 have H : ((spec_l1In.f a0 (-1099511627776) 1099511627776).bind fun t174 => (some t174)) = some r := h
 clear h
 replace H := Option.bind_eq_some_iff.mp H
 obtain ⟨t174, A20, H⟩ := H
 replace H : (some t174) = some r := H
 have A2 := Aside0.mk A20
 clear A20
 obtain rfl := Option.some.inj H
 go_enter Try.func149, Try.ntmps149
 go_wp2_with (first | ((with_reducible refine gate_callee (f := 54) rfl ?_); refine goesL_ (some 4) rfl rfl Try.func54 (by kernel_rfl) rfl #[.int .i64 a0, .int .i64 (-1099511627776), .int .i64 1099511627776] rfl (g9) ?_; (with_reducible refine (spec_l1In.calls a0 (-1099511627776) 1099511627776 t174 _ A2.out).mono ?_); rintro e w' ⟨rfl, ⟨nd, rfl⟩⟩; refine ⟨_, rfl, ?_⟩))
 go_ret
 exact ⟨g0, g21⟩
def spec_l6Value.f (a0 : Int) : Option (Bool) := (spec_l1In.f a0 (-2147483647) 2147483647).bind fun t175 => (some t175)
set_option maxHeartbeats 8000000 in
set_option maxRecDepth 100000 in
theorem spec_l6Value.calls (a0 : Int) (r : Bool) (w : World) (h : spec_l6Value.f a0 = some r) :
    Calls Try.prog 85 #[.int .i64 a0] w fun e w' => e = .returned (.bool r) ∧ Drawn0 w w' := by
 have H : ((spec_l1In.f a0 (-2147483647) 2147483647).bind fun t175 => (some t175)) = some r := h
 clear h
 replace H := Option.bind_eq_some_iff.mp H
 obtain ⟨t175, A20, H⟩ := H
 replace H : (some t175) = some r := H
 have A2 := Aside0.mk A20
 clear A20
 obtain rfl := Option.some.inj H
 go_enter Try.func85, Try.ntmps85
 go_wp2_with (first | ((with_reducible refine gate_callee (f := 54) rfl ?_); refine goesL_ (some 4) rfl rfl Try.func54 (by kernel_rfl) rfl #[.int .i64 a0, .int .i64 (-2147483647), .int .i64 2147483647] rfl (g9) ?_; (with_reducible refine (spec_l1In.calls a0 (-2147483647) 2147483647 t175 _ A2.out).mono ?_); rintro e w' ⟨rfl, ⟨nd, rfl⟩⟩; refine ⟨_, rfl, ?_⟩))
 go_ret
 exact ⟨g0, g21⟩
end Go.Proofs.Yteoikmbdpofhmaa.XFnUses
