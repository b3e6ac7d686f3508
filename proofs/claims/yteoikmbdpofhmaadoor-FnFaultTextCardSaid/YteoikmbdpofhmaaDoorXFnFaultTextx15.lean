-- Written by this session's program wip/xprint.py (a driver of its own over the kit's print).
import Derived.Test.YteoikmbdpofhmaaDoorXFnFaultTextx0
import Derived.Test.YteoikmbdpofhmaaDoorXFnFaultTextx1
import Derived.Test.YteoikmbdpofhmaaDoorXFnFaultTextx2
import Derived.Test.YteoikmbdpofhmaaDoorXFnFaultTextx6
import Derived.Test.YteoikmbdpofhmaaDoorXFnFaultTextx7
import Derived.Test.YteoikmbdpofhmaaDoorXFnFaultTextx11
import Derived.Test.YteoikmbdpofhmaaDoorXFnFaultTextx14
namespace Go.Proofs.YteoikmbdpofhmaaDoor.XFnFaultText
open Go.RowKit Go.Proofs.YteoikmbdpofhmaaDoorW.PrintWords Go.Proofs.YteoikmbdpofhmaaDoorW.PrintLast Go.Proofs.YteoikmbdpofhmaaDoorW.PrintMore
attribute [local go_sem] max2_int min2_int max_two min_two max_three min_three max_four min_four   -- for this text's walks alone
set_option linter.unusedVariables false
set_option linter.unusedSimpArgs false

attribute [local go_sem high] eqA25
/-! ### laws_FnFaultText: function 4 -/
def laws_FnFaultText.j0 : Nat → Int → Int → ByteArray → Bool → Int → Int → Int → Int → Int → Int → Option (Bool)
  | 0, _, _, _, _, _, _, _, _, _, _ => none
  | k + 1, x3, x5, x7, x35, x177000, x177001, x177002, x185000, x185001, x185002 => if x35 = true then (some false) else (if x3 < 1 then (some true) else (if x3 > 3 then (some true) else (if x5 < 1 then (some true) else (if x5 > 3 then (some true) else (if x177000 < 1 then (some true) else (if x177000 > 14 then (some true) else (if x185000 < 1 then (some true) else (if x185000 > 14 then (some true) else ((impl_FaultText.f k x5 x185000 x185001 x185002).bind fun t187 => (if x3 = x5 then (some ((x7.toList == t187.toList) == (x177000 == x185000 && (x177001 == x185001 && (x177002 == x185002))))) else (some ((x7.toList == t187.toList) == false))))))))))))
def laws_FnFaultText.f (k : Nat) (l0 : List Int) : Option (Bool) := (laws_big.f l0).bind fun t171 => (if t171 = true then (some true) else ((spec_DrawFaultText.f k l0).bind fun bt172 => ((laws_tail.f l0).bind fun t177 => ((spec_DrawFaultText.f k t177).bind fun bt180 => ((impl_FaultText.f k bt172.1 bt172.2.1 bt172.2.2.1 bt172.2.2.2).bind fun t185 => ((spec_FaultText.f k bt172.1 bt172.2.1 bt172.2.2.1 bt172.2.2.2).bind fun t186 => (if t185.toList = t186.toList then (laws_FnFaultText.j0 k bt172.1 bt180.1 t185 ((t185.toList == ([111, 107] : List UInt8)) != (bt172.1 == 0)) bt172.2.1 bt172.2.2.1 bt172.2.2.2 bt180.2.1 bt180.2.2.1 bt180.2.2.2) else (laws_FnFaultText.j0 k bt172.1 bt180.1 t185 true bt172.2.1 bt172.2.2.1 bt172.2.2.2 bt180.2.1 bt180.2.2.1 bt180.2.2.2))))))))
theorem laws_FnFaultText.mono_l : ∀ k, (∀ y0 y1 y2 y3 y4 y5 y6 y7 y8 y9, LeO (laws_FnFaultText.j0 k y0 y1 y2 y3 y4 y5 y6 y7 y8 y9) (laws_FnFaultText.j0 (k + 1) y0 y1 y2 y3 y4 y5 y6 y7 y8 y9))
  | 0 => fun _ _ _ _ _ _ _ _ _ _ r h => by simp [laws_FnFaultText.j0] at h
  | k + 1 => by
    have ih0 := laws_FnFaultText.mono_l k
    · intro y0 y1 y2 y3 y4 y5 y6 y7 y8 y9
      unfold laws_FnFaultText.j0
      repeat' first
      | (with_reducible exact ih0 _ _ _ _ _ _ _ _ _ _)
      | (with_reducible exact impl_FaultText.mono _ _ _ _ _)
      | (with_reducible exact spec_DrawFaultText.mono _ _)
      | (with_reducible exact spec_FaultText.mono _ _ _ _ _)
      | (with_reducible exact LeO.refl _)
      | (with_reducible exact LeO.none _)
      | (with_reducible refine LeO.ite ?_ ?_)
      | (with_reducible refine LeO.bind ?_ (fun _ => ?_))
      | exact ih0 _ _ _ _ _ _ _ _ _ _
      | exact impl_FaultText.mono _ _ _ _ _
      | exact spec_DrawFaultText.mono _ _
      | exact spec_FaultText.mono _ _ _ _ _
      | exact LeO.none _
      | refine LeO.ite ?_ ?_
      | refine LeO.bind ?_ (fun _ => ?_)
theorem laws_FnFaultText.mono : ∀ a0 k, LeO (laws_FnFaultText.f k a0) (laws_FnFaultText.f (k + 1) a0) := by
  intro a0 k
  have ih0 := laws_FnFaultText.mono_l k
  unfold laws_FnFaultText.f
  repeat' first
      | (with_reducible exact ih0 _ _ _ _ _ _ _ _ _ _)
      | (with_reducible exact impl_FaultText.mono _ _ _ _ _)
      | (with_reducible exact spec_DrawFaultText.mono _ _)
      | (with_reducible exact spec_FaultText.mono _ _ _ _ _)
      | (with_reducible exact LeO.refl _)
      | (with_reducible exact LeO.none _)
      | (with_reducible refine LeO.ite ?_ ?_)
      | (with_reducible refine LeO.bind ?_ (fun _ => ?_))
      | exact ih0 _ _ _ _ _ _ _ _ _ _
      | exact impl_FaultText.mono _ _ _ _ _
      | exact spec_DrawFaultText.mono _ _
      | exact spec_FaultText.mono _ _ _ _ _
      | exact LeO.none _
      | refine LeO.ite ?_ ?_
      | refine LeO.bind ?_ (fun _ => ?_)
set_option maxHeartbeats 8000000 in
set_option maxRecDepth 100000 in
theorem laws_FnFaultText.calls (k : Nat) (A0 : Option Addr) (c0 : Nat) (l0 : List Int) (r : Bool) (w : World) (hr0 : Kd.C (Kd.int .u8) w A0 l0.length l0) (hc0 : l0.length ≤ c0) (hT : TabW w) (h : laws_FnFaultText.f k l0 = some r) :
    Calls Tryd.prog 4 #[.slice A0 l0.length c0] w fun e w' => e = .returned (.bool r) ∧ Below w.heap.size w w' := by
  have hu25 := Tryd.underlying25
  have HR0 := Aside0.mk hr0
  have HC0 := Aside0.mk hc0
  clear hr0 hc0
  have HB := Aside0.mk (Below.refl w.heap.size w)
  have HT := Aside0.mk hT
  clear hT
  have H : ((laws_big.f l0).bind fun t171 => (if t171 = true then (some true) else ((spec_DrawFaultText.f k l0).bind fun bt172 => ((laws_tail.f l0).bind fun t177 => ((spec_DrawFaultText.f k t177).bind fun bt180 => ((impl_FaultText.f k bt172.1 bt172.2.1 bt172.2.2.1 bt172.2.2.2).bind fun t185 => ((spec_FaultText.f k bt172.1 bt172.2.1 bt172.2.2.1 bt172.2.2.2).bind fun t186 => (if t185.toList = t186.toList then (laws_FnFaultText.j0 k bt172.1 bt180.1 t185 ((t185.toList == ([111, 107] : List UInt8)) != (bt172.1 == 0)) bt172.2.1 bt172.2.2.1 bt172.2.2.2 bt180.2.1 bt180.2.2.1 bt180.2.2.2) else (laws_FnFaultText.j0 k bt172.1 bt180.1 t185 true bt172.2.1 bt172.2.2.1 bt172.2.2.2 bt180.2.1 bt180.2.2.1 bt180.2.2.2))))))))) = some r := h
  clear h
  replace H := Option.bind_eq_some_iff.mp H
  obtain ⟨t171, A20, H⟩ := H
  replace H : (if t171 = true then (some true) else ((spec_DrawFaultText.f k l0).bind fun bt172 => ((laws_tail.f l0).bind fun t177 => ((spec_DrawFaultText.f k t177).bind fun bt180 => ((impl_FaultText.f k bt172.1 bt172.2.1 bt172.2.2.1 bt172.2.2.2).bind fun t185 => ((spec_FaultText.f k bt172.1 bt172.2.1 bt172.2.2.1 bt172.2.2.2).bind fun t186 => (if t185.toList = t186.toList then (laws_FnFaultText.j0 k bt172.1 bt180.1 t185 ((t185.toList == ([111, 107] : List UInt8)) != (bt172.1 == 0)) bt172.2.1 bt172.2.2.1 bt172.2.2.2 bt180.2.1 bt180.2.2.1 bt180.2.2.2) else (laws_FnFaultText.j0 k bt172.1 bt180.1 t185 true bt172.2.1 bt172.2.2.1 bt172.2.2.2 bt180.2.1 bt180.2.2.1 bt180.2.2.2)))))))) = some r := H
  have A2 := Aside0.mk A20
  clear A20
  by_cases c3 : t171 = true
  · subst c3
    have H1 : (some true) = some r := by rw [if_pos rfl] at H; exact H
    clear H
    have H := H1
    clear H1
    obtain rfl := Option.some.inj H
    go_enter Tryd.func4, Tryd.ntmps4
    go_wp2_with (first | ((with_reducible refine gate_callee (f := 8) rfl ?_); refine goesL_ (some 9) rfl rfl Tryd.func8 (by kernel_rfl) rfl #[.slice A0 l0.length c0] rfl (by (try simp only [List.map_toArray, List.map_cons, List.map_nil]); first | done | rfl | (simp only [List.length_drop, List.length_take]; rfl)) ?_; (with_reducible refine (laws_big.calls _ _ l0 true _ ?side1 ?side2 A2.out).mono ?_); (case side1 => repeat (first | exact HR0.out | (with_reducible refine Kd.C_alloc ?_ _) | (with_reducible refine Kd.C_drewN ?_ _) | (with_reducible refine Kd.C_drew ?_))); (case side2 => exact HC0.out); rintro e w' ⟨rfl, ⟨nd, rfl⟩⟩; refine ⟨_, rfl, ?_⟩))
    go_ret
    exact ⟨by first | rfl | (simp [errW_none, errW_some] <;> rfl) | (simp [*, errW_none, errW_some] <;> rfl), by repeat (first | (with_reducible first | exact HB.out | apply below_alloc | apply pw_below_drewN | apply below_drew1) | exact HB.out)⟩
  · replace c3 := Bool.eq_false_iff.mpr c3
    subst c3
    have H1 : ((spec_DrawFaultText.f k l0).bind fun bt172 => ((laws_tail.f l0).bind fun t177 => ((spec_DrawFaultText.f k t177).bind fun bt180 => ((impl_FaultText.f k bt172.1 bt172.2.1 bt172.2.2.1 bt172.2.2.2).bind fun t185 => ((spec_FaultText.f k bt172.1 bt172.2.1 bt172.2.2.1 bt172.2.2.2).bind fun t186 => (if t185.toList = t186.toList then (laws_FnFaultText.j0 k bt172.1 bt180.1 t185 ((t185.toList == ([111, 107] : List UInt8)) != (bt172.1 == 0)) bt172.2.1 bt172.2.2.1 bt172.2.2.2 bt180.2.1 bt180.2.2.1 bt180.2.2.2) else (laws_FnFaultText.j0 k bt172.1 bt180.1 t185 true bt172.2.1 bt172.2.2.1 bt172.2.2.2 bt180.2.1 bt180.2.2.1 bt180.2.2.2))))))) = some r := by rw [if_neg (show ¬ (false = true) by decide)] at H; exact H
    clear H
    have H := H1
    clear H1
    replace H := Option.bind_eq_some_iff.mp H
    obtain ⟨⟨t172, t173, t174, t175⟩, A40, H⟩ := H
    replace H : ((laws_tail.f l0).bind fun t177 => ((spec_DrawFaultText.f k t177).bind fun bt180 => ((impl_FaultText.f k t172 t173 t174 t175).bind fun t185 => ((spec_FaultText.f k t172 t173 t174 t175).bind fun t186 => (if t185.toList = t186.toList then (laws_FnFaultText.j0 k t172 bt180.1 t185 ((t185.toList == ([111, 107] : List UInt8)) != (t172 == 0)) t173 t174 t175 bt180.2.1 bt180.2.2.1 bt180.2.2.2) else (laws_FnFaultText.j0 k t172 bt180.1 t185 true t173 t174 t175 bt180.2.1 bt180.2.2.1 bt180.2.2.2)))))) = some r := H
    have A4 := Aside0.mk A40
    clear A40
    replace H := Option.bind_eq_some_iff.mp H
    obtain ⟨t177, A50, H⟩ := H
    replace H : ((spec_DrawFaultText.f k t177).bind fun bt180 => ((impl_FaultText.f k t172 t173 t174 t175).bind fun t185 => ((spec_FaultText.f k t172 t173 t174 t175).bind fun t186 => (if t185.toList = t186.toList then (laws_FnFaultText.j0 k t172 bt180.1 t185 ((t185.toList == ([111, 107] : List UInt8)) != (t172 == 0)) t173 t174 t175 bt180.2.1 bt180.2.2.1 bt180.2.2.2) else (laws_FnFaultText.j0 k t172 bt180.1 t185 true t173 t174 t175 bt180.2.1 bt180.2.2.1 bt180.2.2.2))))) = some r := H
    have A5 := Aside0.mk A50
    clear A50
    replace H := Option.bind_eq_some_iff.mp H
    obtain ⟨⟨t180, t181, t182, t183⟩, A60, H⟩ := H
    replace H : ((impl_FaultText.f k t172 t173 t174 t175).bind fun t185 => ((spec_FaultText.f k t172 t173 t174 t175).bind fun t186 => (if t185.toList = t186.toList then (laws_FnFaultText.j0 k t172 t180 t185 ((t185.toList == ([111, 107] : List UInt8)) != (t172 == 0)) t173 t174 t175 t181 t182 t183) else (laws_FnFaultText.j0 k t172 t180 t185 true t173 t174 t175 t181 t182 t183)))) = some r := H
    have A6 := Aside0.mk A60
    clear A60
    replace H := Option.bind_eq_some_iff.mp H
    obtain ⟨t185, A70, H⟩ := H
    replace H : ((spec_FaultText.f k t172 t173 t174 t175).bind fun t186 => (if t185.toList = t186.toList then (laws_FnFaultText.j0 k t172 t180 t185 ((t185.toList == ([111, 107] : List UInt8)) != (t172 == 0)) t173 t174 t175 t181 t182 t183) else (laws_FnFaultText.j0 k t172 t180 t185 true t173 t174 t175 t181 t182 t183))) = some r := H
    have A7 := Aside0.mk A70
    clear A70
    have HC8 := Aside0.mk H
    clear H
    go_enter Tryd.func4, Tryd.ntmps4
    go_upto_region 6 with (first | ((with_reducible refine gate_callee (f := 8) rfl ?_); refine goesL_ (some 9) rfl rfl Tryd.func8 (by kernel_rfl) rfl #[.slice A0 l0.length c0] rfl (by (try simp only [List.map_toArray, List.map_cons, List.map_nil]); first | done | rfl | (simp only [List.length_drop, List.length_take]; rfl)) ?_; (with_reducible refine (laws_big.calls _ _ l0 false _ ?side1 ?side2 A2.out).mono ?_); (case side1 => repeat (first | exact HR0.out | (with_reducible refine Kd.C_alloc ?_ _) | (with_reducible refine Kd.C_drewN ?_ _) | (with_reducible refine Kd.C_drew ?_))); (case side2 => exact HC0.out); rintro e w' ⟨rfl, ⟨nd, rfl⟩⟩; refine ⟨_, rfl, ?_⟩) | ((with_reducible refine gate_callee (f := 9) rfl ?_); refine goesL_ (some 12) rfl rfl Tryd.func9 (by kernel_rfl) rfl #[.slice A0 l0.length c0] rfl (by (try simp only [List.map_toArray, List.map_cons, List.map_nil]); first | done | rfl | (simp only [List.length_drop, List.length_take]; rfl)) ?_; (with_reducible refine (spec_DrawFaultText.calls k _ _ l0 t172 t173 t174 t175 _ ?side1 ?side2 A4.out).mono ?_); (case side1 => repeat (first | exact HR0.out | (with_reducible refine Kd.C_alloc ?_ _) | (with_reducible refine Kd.C_drewN ?_ _) | (with_reducible refine Kd.C_drew ?_))); (case side2 => exact HC0.out); rintro e w9 ⟨rfl, hb⟩; refine ⟨_, rfl, ?_⟩; have n0_ := Aside0.mk (below_step (by repeat (first | (with_reducible first | exact HB.out | apply below_alloc | apply pw_below_drewN | apply below_drew1) | exact HB.out)) hb); clear HB; have HB := n0_; clear n0_; (try clear hb); (try clear hb2); (try clear hk); (try clear hi)) | ((with_reducible refine gate_dst (N := 4) rfl ?_); refine box_event ?hg (N := 4) ?hd (cs := #[.int .i64 0, .int .i64 0, .int .i64 0]) (t := 25) ?hr ?_; (case hd => rfl); (case hg => rfl); (case hr => first | (go_simp; done) | (go_simp; rfl)); intro gb176 hg w10 hbox hb; have n0_ := Aside0.mk (below_step (by repeat (first | (with_reducible first | exact HB.out | apply below_alloc | apply pw_below_drewN | apply below_drew1) | exact HB.out)) hb); have n1_ := Aside0.mk (hbox); have n2_ := Aside0.mk ((by rw [hg]; exact (below_size (by repeat (first | (with_reducible first | exact HB.out | apply below_alloc | apply pw_below_drewN | apply below_drew1) | exact HB.out))) : w.heap.size ≤ gb176)); have n3_ := Aside0.mk ((by rw [hg]; exact (below_size (by repeat (first | (with_reducible first | exact HB.out | apply below_alloc | apply pw_below_drewN | apply below_drew1) | exact HB.out))) : w.heap.size ≤ gb176)); clear HB; have HB := n0_; have BK176 := n1_; have GW176 := n2_; have GE176 := n3_; clear n0_ n1_ n2_ n3_; clear hb hbox hg; have hcz11_0 : w10.cell? ⟨gb176, 0, none⟩ = some (.int .i64 0) := (blk_cell BK176.out 0).trans rfl; have hcz11_1 : w10.cell? ⟨gb176, 1, none⟩ = some (.int .i64 0) := (blk_cell BK176.out 1).trans rfl; have hcz11_2 : w10.cell? ⟨gb176, 2, none⟩ = some (.int .i64 0) := (blk_cell BK176.out 2).trans rfl; have hfz11_0 := blk_frozen BK176.out 0; have hfz11_1 := blk_frozen BK176.out 1; have hfz11_2 := blk_frozen BK176.out 2) | ((with_reducible refine gate_store (t := 25) (p := 4) rfl ?_); refine store_event (t := 25) (p := 4) (v := ?vo_w12) (w1 := (((w10.setCell ⟨gb176, 0, none⟩ (.int .i64 t173)).setCell ⟨gb176, 1, none⟩ (.int .i64 t174)).setCell ⟨gb176, 2, none⟩ (.int .i64 t175))) ?hg ?ho ?hn ?hr ?_; (case ho => rfl); (case hg => rfl); (case hn => rfl); (case hr => first | (go_simp; done) | (go_simp; rfl)); intro w12 hw; have n0_ : Aside0 (w12.heap[gb176]? = some (.cells #[.int .i64 t173, .int .i64 t174, .int .i64 t175] 25 (0, 0))) := ⟨(by rw [hw]; exact (by (with_reducible repeat (first | refine blk_drewN ?_ _ | refine blk_drew ?_ | refine blk_alloc ?_ _)); refine blk_put (cs := #[.int .i64 t173, .int .i64 t174, .int .i64 0]) ?_ 2 _ rfl; (with_reducible repeat (first | refine blk_drewN ?_ _ | refine blk_drew ?_ | refine blk_alloc ?_ _)); refine blk_put (cs := #[.int .i64 t173, .int .i64 0, .int .i64 0]) ?_ 1 _ rfl; (with_reducible repeat (first | refine blk_drewN ?_ _ | refine blk_drew ?_ | refine blk_alloc ?_ _)); refine blk_put (cs := #[.int .i64 0, .int .i64 0, .int .i64 0]) ?_ 0 _ rfl; (with_reducible repeat (first | refine blk_drewN ?_ _ | refine blk_drew ?_ | refine blk_alloc ?_ _)); exact BK176.out))⟩; have n1_ : Aside0 (Below w.heap.size w w12) := ⟨(by rw [hw]; exact (by repeat (first | (with_reducible first | exact HB.out | apply below_alloc | apply pw_below_drewN | apply below_drew1 | refine below_set ?_ GE176.out) | exact HB.out)))⟩; clear hw; clear BK176; clear HB; have BK176 := n0_; have HB := n1_; clear n0_ n1_) | ((with_reducible refine gate_callee (f := 10) rfl ?_); refine goesL_ (some 17) rfl rfl Tryd.func10 (by kernel_rfl) rfl #[.slice A0 l0.length c0] rfl (by (try simp only [List.map_toArray, List.map_cons, List.map_nil]); first | done | rfl | (simp only [List.length_drop, List.length_take]; rfl)) ?_; (with_reducible refine (laws_tail.calls (fun k_ => k_ < w.heap.size) _ _ l0 t177 _ ?side1 A5.out).mono ?_); (case side1 => exact Kd.V_mk HC0.out (Kd.F_below (Kd.C_F (Kd.heap_int .u8) HR0.out) (by repeat (first | (with_reducible first | exact HB.out | apply below_alloc | apply pw_below_drewN | apply below_drew1 | refine below_set ?_ GE176.out) | exact HB.out)))); rintro e w13 ⟨v178, rfl, ho0, hb⟩; refine ⟨_, rfl, ?_⟩; have n0_ := Aside0.mk (Kd.V_lower (Kd.V_mono (ok' := fun k_ => k_ ≠ gb176) ho0 (fun k_ hk_ => Or.elim hk_ (fun hs_ => fun e_ => Nat.not_le.2 hs_ (by rw [e_]; exact GW176.out)) (fun hn_ => (Kd.freshB (g := gb176) (o := .cells #[.int .i64 t173, .int .i64 t174, .int .i64 t175] 25 (0, 0)) (by (with_reducible repeat (first | refine blk_drewN ?_ _ | refine blk_drew ?_ | refine blk_alloc ?_ _)); exact BK176.out) k_ hn_)))) (below_size (by repeat (first | (with_reducible first | exact HB.out | apply below_alloc | apply pw_below_drewN | apply below_drew1 | refine below_set ?_ GE176.out) | exact HB.out)))); have n1_ := Aside0.mk (blk_below (g := gb176) (o := .cells #[.int .i64 t173, .int .i64 t174, .int .i64 t175] 25 (0, 0)) (by (with_reducible repeat (first | refine blk_drewN ?_ _ | refine blk_drew ?_ | refine blk_alloc ?_ _)); exact BK176.out) hb); have n2_ := Aside0.mk (below_step (by repeat (first | (with_reducible first | exact HB.out | apply below_alloc | apply pw_below_drewN | apply below_drew1 | refine below_set ?_ GE176.out) | exact HB.out)) hb); clear BK176; clear HB; have HO179 := n0_; have BK176 := n1_; have HB := n2_; clear n0_ n1_ n2_; (try clear hb); (try clear hb2); (try clear hk); (try clear hi); (try clear ho0); obtain ⟨Ao14, co14, eo14⟩ := Kd.V_slice HO179.out; subst eo14) | ((with_reducible refine gate_callee (f := 9) rfl ?_); refine goesL_ (some 18) rfl rfl Tryd.func9 (by kernel_rfl) rfl #[.slice Ao14 t177.length co14] rfl (by (try simp only [List.map_toArray, List.map_cons, List.map_nil]); first | done | rfl | (simp only [List.length_drop, List.length_take]; rfl)) ?_; (with_reducible refine (spec_DrawFaultText.calls k _ _ t177 t180 t181 t182 t183 _ ?side1 ?side2 A6.out).mono ?_); (case side1 => repeat (first | exact (Kd.V_reads' HO179.out).2.2 | (with_reducible refine Kd.C_alloc ?_ _) | (with_reducible refine Kd.C_drewN ?_ _) | (with_reducible refine Kd.C_drew ?_))); (case side2 => exact (Kd.V_reads' HO179.out).2.1); rintro e w15 ⟨rfl, hb⟩; refine ⟨_, rfl, ?_⟩; have n0_ := Aside0.mk (Kd.V_below (by (with_reducible repeat (first | apply Kd.V_alloc | apply Kd.V_drewN | apply Kd.V_drew)); exact HO179.out) hb); have n1_ := Aside0.mk (blk_below (g := gb176) (o := .cells #[.int .i64 t173, .int .i64 t174, .int .i64 t175] 25 (0, 0)) (by (with_reducible repeat (first | refine blk_drewN ?_ _ | refine blk_drew ?_ | refine blk_alloc ?_ _)); exact BK176.out) hb); have n2_ := Aside0.mk (below_step (by repeat (first | (with_reducible first | exact HB.out | apply below_alloc | apply pw_below_drewN | apply below_drew1 | refine below_set ?_ GE176.out) | exact HB.out)) hb); clear HO179; clear BK176; clear HB; have HO179 := n0_; have BK176 := n1_; have HB := n2_; clear n0_ n1_ n2_; (try clear hb); (try clear hb2); (try clear hk); (try clear hi)) | ((with_reducible refine gate_dst (N := 6) rfl ?_); refine box_event ?hg (N := 6) ?hd (cs := #[.int .i64 0, .int .i64 0, .int .i64 0]) (t := 25) ?hr ?_; (case hd => rfl); (case hg => rfl); (case hr => first | (go_simp; done) | (go_simp; rfl)); intro gb184 hg w16 hbox hb; have n0_ := Aside0.mk (Kd.V_below (Kd.V_elderB (by (with_reducible repeat (first | apply Kd.V_alloc | apply Kd.V_drewN | apply Kd.V_drew)); exact HO179.out) gb184 (Nat.le_of_eq hg.symm)) hb); have n1_ := Aside0.mk (blk_below (g := gb176) (o := .cells #[.int .i64 t173, .int .i64 t174, .int .i64 t175] 25 (0, 0)) (by (with_reducible repeat (first | refine blk_drewN ?_ _ | refine blk_drew ?_ | refine blk_alloc ?_ _)); exact BK176.out) hb); have n2_ := Aside0.mk (below_step (by repeat (first | (with_reducible first | exact HB.out | apply below_alloc | apply pw_below_drewN | apply below_drew1 | refine below_set ?_ GE176.out) | exact HB.out)) hb); have n3_ := Aside0.mk (hbox); have n4_ := Aside0.mk ((by rw [hg]; exact (below_size (by repeat (first | (with_reducible first | exact HB.out | apply below_alloc | apply pw_below_drewN | apply below_drew1 | refine below_set ?_ GE176.out) | exact HB.out))) : w.heap.size ≤ gb184)); have n5_ := Aside0.mk ((by rw [hg]; exact (below_size (by repeat (first | (with_reducible first | exact HB.out | apply below_alloc | apply pw_below_drewN | apply below_drew1 | refine below_set ?_ GE176.out) | exact HB.out))) : w.heap.size ≤ gb184)); have n6_ := Aside0.mk ((by rw [hg]; exact Nat.ne_of_lt (blk_lt (g := gb176) (o := .cells #[.int .i64 t173, .int .i64 t174, .int .i64 t175] 25 (0, 0)) (by (with_reducible repeat (first | refine blk_drewN ?_ _ | refine blk_drew ?_ | refine blk_alloc ?_ _)); exact BK176.out)) : gb176 ≠ gb184)); have n7_ := Aside0.mk ((by rw [hg]; exact Nat.ne_of_gt (blk_lt (g := gb176) (o := .cells #[.int .i64 t173, .int .i64 t174, .int .i64 t175] 25 (0, 0)) (by (with_reducible repeat (first | refine blk_drewN ?_ _ | refine blk_drew ?_ | refine blk_alloc ?_ _)); exact BK176.out)) : gb184 ≠ gb176)); clear HO179; clear BK176; clear HB; have HO179 := n0_; have BK176 := n1_; have HB := n2_; have BK184 := n3_; have GW184 := n4_; have GE184 := n5_; have NB176_184 := n6_; have NB184_176 := n7_; clear n0_ n1_ n2_ n3_ n4_ n5_ n6_ n7_; clear hb hbox hg; have hnb17 := NB184_176.out; have hnc17 := NB176_184.out; have hcz18_0 : w16.cell? ⟨gb184, 0, none⟩ = some (.int .i64 0) := (blk_cell BK184.out 0).trans rfl; have hcz18_1 : w16.cell? ⟨gb184, 1, none⟩ = some (.int .i64 0) := (blk_cell BK184.out 1).trans rfl; have hcz18_2 : w16.cell? ⟨gb184, 2, none⟩ = some (.int .i64 0) := (blk_cell BK184.out 2).trans rfl; have hfz18_0 := blk_frozen BK184.out 0; have hfz18_1 := blk_frozen BK184.out 1; have hfz18_2 := blk_frozen BK184.out 2; have hcz19_0 : w16.cell? ⟨gb176, 0, none⟩ = some (.int .i64 t173) := (blk_cell BK176.out 0).trans rfl; have hcz19_1 : w16.cell? ⟨gb176, 1, none⟩ = some (.int .i64 t174) := (blk_cell BK176.out 1).trans rfl; have hcz19_2 : w16.cell? ⟨gb176, 2, none⟩ = some (.int .i64 t175) := (blk_cell BK176.out 2).trans rfl; have hfz19_0 := blk_frozen BK176.out 0; have hfz19_1 := blk_frozen BK176.out 1; have hfz19_2 := blk_frozen BK176.out 2) | ((with_reducible refine gate_callee (f := 7) rfl ?_); refine goesL_ (some 23) rfl rfl Tryd.func7 (by kernel_rfl) rfl #[.int .i64 t172, .agg #[.int .i64 t173, .int .i64 t174, .int .i64 t175]] rfl (by (try simp only [List.map_toArray, List.map_cons, List.map_nil]); first | done | rfl | (simp only [List.length_drop, List.length_take]; rfl)) ?_; (with_reducible refine (impl_FaultText.calls k t172 t173 t174 t175 t185 _ ?side1 A7.out).mono ?_); (case side1 => exact tab_below HT.out (by repeat (first | (with_reducible first | exact HB.out | apply below_alloc | apply pw_below_drewN | apply below_drew1 | refine below_set ?_ GE176.out | refine below_set ?_ GE184.out) | exact HB.out))); rintro e w20 ⟨rfl, hb⟩; refine ⟨_, rfl, ?_⟩; have n0_ := Aside0.mk (Kd.V_below (by (with_reducible repeat (first | apply Kd.V_alloc | apply Kd.V_drewN | apply Kd.V_drew)); exact (Kd.V_mono (Kd.V_far (p := ⟨gb184, 2, none⟩) (Kd.V_far (p := ⟨gb184, 1, none⟩) (Kd.V_far (p := ⟨gb184, 0, none⟩) (Kd.V_mono HO179.out (fun k_ hk => (⟨hk, hk.2⟩ : _ ∧ k_ ≠ gb184))) (fun _ hk => hk.2) (.int .i64 t181)) (fun _ hk => hk.2) (.int .i64 t182)) (fun _ hk => hk.2) (.int .i64 t183)) (fun _ h_ => h_.1))) hb); have n1_ := Aside0.mk (blk_below (g := gb176) (o := .cells #[.int .i64 t173, .int .i64 t174, .int .i64 t175] 25 (0, 0)) (by (with_reducible repeat (first | refine blk_drewN ?_ _ | refine blk_drew ?_ | refine blk_alloc ?_ _)); refine blk_far ?_ NB176_184.out _; (with_reducible repeat (first | refine blk_drewN ?_ _ | refine blk_drew ?_ | refine blk_alloc ?_ _)); refine blk_far ?_ NB176_184.out _; (with_reducible repeat (first | refine blk_drewN ?_ _ | refine blk_drew ?_ | refine blk_alloc ?_ _)); refine blk_far ?_ NB176_184.out _; (with_reducible repeat (first | refine blk_drewN ?_ _ | refine blk_drew ?_ | refine blk_alloc ?_ _)); exact BK176.out) hb); have n2_ := Aside0.mk (blk_below (g := gb184) (o := .cells #[.int .i64 t181, .int .i64 t182, .int .i64 t183] 25 (0, 0)) (by (with_reducible repeat (first | refine blk_drewN ?_ _ | refine blk_drew ?_ | refine blk_alloc ?_ _)); refine blk_put (cs := #[.int .i64 t181, .int .i64 t182, .int .i64 0]) ?_ 2 _ rfl; (with_reducible repeat (first | refine blk_drewN ?_ _ | refine blk_drew ?_ | refine blk_alloc ?_ _)); refine blk_put (cs := #[.int .i64 t181, .int .i64 0, .int .i64 0]) ?_ 1 _ rfl; (with_reducible repeat (first | refine blk_drewN ?_ _ | refine blk_drew ?_ | refine blk_alloc ?_ _)); refine blk_put (cs := #[.int .i64 0, .int .i64 0, .int .i64 0]) ?_ 0 _ rfl; (with_reducible repeat (first | refine blk_drewN ?_ _ | refine blk_drew ?_ | refine blk_alloc ?_ _)); exact BK184.out) hb); have n3_ := Aside0.mk (below_step (by repeat (first | (with_reducible first | exact HB.out | apply below_alloc | apply pw_below_drewN | apply below_drew1 | refine below_set ?_ GE176.out | refine below_set ?_ GE184.out) | exact HB.out)) hb); clear HO179; clear BK176; clear BK184; clear HB; have HO179 := n0_; have BK176 := n1_; have BK184 := n2_; have HB := n3_; clear n0_ n1_ n2_ n3_; (try clear hb); (try clear hb2); (try clear hk); (try clear hi)))
    (try simp only [Act.put, List.setIfInBounds_toArray, List.set_cons_zero, List.set_cons_succ])
    go_cut [35] (fun v35 wc => ∃ (kq : Nat) (x35_7 : Bool), v35 = .bool x35_7 ∧ Aside0 (laws_FnFaultText.j0 kq t172 t180 t185 x35_7 t173 t174 t175 t181 t182 t183 = some r) ∧ Aside0 (kq ≤ k) ∧ Aside0 (wc.heap[gb176]? = some (.cells #[.int .i64 t173, .int .i64 t174, .int .i64 t175] 25 (0, 0))) ∧ Aside0 (wc.heap[gb184]? = some (.cells #[.int .i64 t181, .int .i64 t182, .int .i64 t183] 25 (0, 0))) ∧ Aside0 (Below w.heap.size w wc))
    case first =>
      have H := HC8.out
      clear HC8
      replace H := Option.bind_eq_some_iff.mp H
      obtain ⟨t186, A210, H⟩ := H
      replace H : (if t185.toList = t186.toList then (laws_FnFaultText.j0 k t172 t180 t185 ((t185.toList == ([111, 107] : List UInt8)) != (t172 == 0)) t173 t174 t175 t181 t182 t183) else (laws_FnFaultText.j0 k t172 t180 t185 true t173 t174 t175 t181 t182 t183)) = some r := H
      have A21 := Aside0.mk A210
      clear A210
      by_cases c22 : t185.toList = t186.toList
      · rw [if_pos c22] at H
        have c22b0 : (t185.toList == t186.toList) = true := beq_iff_eq.mpr c22
        have c22b1 : (t185.toList != t186.toList) = false := bne_eq_false_iff_eq.mpr c22
        clear c22
        (first | rw [c22b0] | (simp only [i64_w, i32_w]; rw [c22b0]) | skip)
        have H' := Aside0.mk H
        clear H
        have hnb23 := NB176_184.out
        have hnc23 := NB184_176.out
        have hcz24_0 : w20.cell? ⟨gb176, 0, none⟩ = some (.int .i64 t173) := (blk_cell BK176.out 0).trans rfl
        have hcz24_1 : w20.cell? ⟨gb176, 1, none⟩ = some (.int .i64 t174) := (blk_cell BK176.out 1).trans rfl
        have hcz24_2 : w20.cell? ⟨gb176, 2, none⟩ = some (.int .i64 t175) := (blk_cell BK176.out 2).trans rfl
        have hfz24_0 := blk_frozen BK176.out 0
        have hfz24_1 := blk_frozen BK176.out 1
        have hfz24_2 := blk_frozen BK176.out 2
        go_wp2_with (first | ((with_reducible refine gate_callee (f := 5) rfl ?_); refine goesL_ (some 27) rfl rfl Tryd.func5 (by kernel_rfl) rfl #[.int .i64 t172, .agg #[.int .i64 t173, .int .i64 t174, .int .i64 t175]] rfl (by (try simp only [List.map_toArray, List.map_cons, List.map_nil]); first | done | rfl | (simp only [List.length_drop, List.length_take]; rfl)) ?_; (with_reducible refine (spec_FaultText.calls k t172 t173 t174 t175 t186 _ A21.out).mono ?_); rintro e w25 ⟨rfl, hb⟩; refine ⟨_, rfl, ?_⟩; have n0_ := Aside0.mk (Kd.V_below (by (with_reducible repeat (first | apply Kd.V_alloc | apply Kd.V_drewN | apply Kd.V_drew)); exact HO179.out) hb); have n1_ := Aside0.mk (blk_below (g := gb176) (o := .cells #[.int .i64 t173, .int .i64 t174, .int .i64 t175] 25 (0, 0)) (by (with_reducible repeat (first | refine blk_drewN ?_ _ | refine blk_drew ?_ | refine blk_alloc ?_ _)); exact BK176.out) hb); have n2_ := Aside0.mk (blk_below (g := gb184) (o := .cells #[.int .i64 t181, .int .i64 t182, .int .i64 t183] 25 (0, 0)) (by (with_reducible repeat (first | refine blk_drewN ?_ _ | refine blk_drew ?_ | refine blk_alloc ?_ _)); exact BK184.out) hb); have n3_ := Aside0.mk (below_step (by repeat (first | (with_reducible first | exact HB.out | apply below_alloc | apply pw_below_drewN | apply below_drew1 | refine below_set ?_ GE176.out | refine below_set ?_ GE184.out) | exact HB.out)) hb); clear HO179; clear BK176; clear BK184; clear HB; have HO179 := n0_; have BK176 := n1_; have BK184 := n2_; have HB := n3_; clear n0_ n1_ n2_ n3_; (try clear hb); (try clear hb2); (try clear hk); (try clear hi)))
        go_meet
        case rel => exact ⟨_, (((t185.toList == ([111, 107] : List UInt8)) != (t172 == 0))), (by first | rfl | (simp; done) | (simp [*]; done)), H', ⟨by first | omega | exact Nat.le_refl _⟩, ⟨by (with_reducible repeat (first | refine blk_drewN ?_ _ | refine blk_drew ?_ | refine blk_alloc ?_ _)); exact BK176.out⟩, ⟨by (with_reducible repeat (first | refine blk_drewN ?_ _ | refine blk_drew ?_ | refine blk_alloc ?_ _)); exact BK184.out⟩, ⟨by repeat (first | (with_reducible first | exact HB.out | apply below_alloc | apply pw_below_drewN | apply below_drew1 | refine below_set ?_ GE176.out | refine below_set ?_ GE184.out) | exact HB.out)⟩⟩
      · rw [if_neg c22] at H
        have c22b0 : (t185.toList == t186.toList) = false := beq_eq_false_iff_ne.mpr c22
        have c22b1 : (t185.toList != t186.toList) = true := bne_iff_ne.mpr c22
        (first | rw [c22b0] | (simp only [i64_w, i32_w]; rw [c22b0]) | skip)
        have H' := Aside0.mk H
        clear H
        have hnb26 := NB176_184.out
        have hnc26 := NB184_176.out
        have hcz27_0 : w20.cell? ⟨gb176, 0, none⟩ = some (.int .i64 t173) := (blk_cell BK176.out 0).trans rfl
        have hcz27_1 : w20.cell? ⟨gb176, 1, none⟩ = some (.int .i64 t174) := (blk_cell BK176.out 1).trans rfl
        have hcz27_2 : w20.cell? ⟨gb176, 2, none⟩ = some (.int .i64 t175) := (blk_cell BK176.out 2).trans rfl
        have hfz27_0 := blk_frozen BK176.out 0
        have hfz27_1 := blk_frozen BK176.out 1
        have hfz27_2 := blk_frozen BK176.out 2
        go_wp2_with (first | ((with_reducible refine gate_callee (f := 5) rfl ?_); refine goesL_ (some 27) rfl rfl Tryd.func5 (by kernel_rfl) rfl #[.int .i64 t172, .agg #[.int .i64 t173, .int .i64 t174, .int .i64 t175]] rfl (by (try simp only [List.map_toArray, List.map_cons, List.map_nil]); first | done | rfl | (simp only [List.length_drop, List.length_take]; rfl)) ?_; (with_reducible refine (spec_FaultText.calls k t172 t173 t174 t175 t186 _ A21.out).mono ?_); rintro e w28 ⟨rfl, hb⟩; refine ⟨_, rfl, ?_⟩; have n0_ := Aside0.mk (Kd.V_below (by (with_reducible repeat (first | apply Kd.V_alloc | apply Kd.V_drewN | apply Kd.V_drew)); exact HO179.out) hb); have n1_ := Aside0.mk (blk_below (g := gb176) (o := .cells #[.int .i64 t173, .int .i64 t174, .int .i64 t175] 25 (0, 0)) (by (with_reducible repeat (first | refine blk_drewN ?_ _ | refine blk_drew ?_ | refine blk_alloc ?_ _)); exact BK176.out) hb); have n2_ := Aside0.mk (blk_below (g := gb184) (o := .cells #[.int .i64 t181, .int .i64 t182, .int .i64 t183] 25 (0, 0)) (by (with_reducible repeat (first | refine blk_drewN ?_ _ | refine blk_drew ?_ | refine blk_alloc ?_ _)); exact BK184.out) hb); have n3_ := Aside0.mk (below_step (by repeat (first | (with_reducible first | exact HB.out | apply below_alloc | apply pw_below_drewN | apply below_drew1 | refine below_set ?_ GE176.out | refine below_set ?_ GE184.out) | exact HB.out)) hb); clear HO179; clear BK176; clear BK184; clear HB; have HO179 := n0_; have BK176 := n1_; have BK184 := n2_; have HB := n3_; clear n0_ n1_ n2_ n3_; (try clear hb); (try clear hb2); (try clear hk); (try clear hi)))
        go_meet
        case rel => exact ⟨_, (true), (by first | rfl | (simp; done) | (simp [*]; done)), H', ⟨by first | omega | exact Nat.le_refl _⟩, ⟨by (with_reducible repeat (first | refine blk_drewN ?_ _ | refine blk_drew ?_ | refine blk_alloc ?_ _)); exact BK176.out⟩, ⟨by (with_reducible repeat (first | refine blk_drewN ?_ _ | refine blk_drew ?_ | refine blk_alloc ?_ _)); exact BK184.out⟩, ⟨by repeat (first | (with_reducible first | exact HB.out | apply below_alloc | apply pw_below_drewN | apply below_drew1 | refine below_set ?_ GE176.out | refine below_set ?_ GE184.out) | exact HB.out)⟩⟩
    case rest =>
      clear HC8
      try clear c1
      try clear c2
      try clear p2
      try clear c3
      try clear c4
      try clear c5
      try clear c7
      try clear c8
      try clear c9
      try clear c10
      try clear c17
      try clear c22
      try clear c22b0
      try clear c22b1
      try clear c23
      try clear c26
      try clear hcz11_0
      try clear hcz11_1
      try clear hcz11_2
      try clear hcz18_0
      try clear hcz18_1
      try clear hcz18_2
      try clear hcz19_0
      try clear hcz19_1
      try clear hcz19_2
      try clear hcz24_0
      try clear hcz24_1
      try clear hcz24_2
      try clear hcz27_0
      try clear hcz27_1
      try clear hcz27_2
      try clear hfz11_0
      try clear hfz11_1
      try clear hfz11_2
      try clear hfz18_0
      try clear hfz18_1
      try clear hfz18_2
      try clear hfz19_0
      try clear hfz19_1
      try clear hfz19_2
      try clear hfz24_0
      try clear hfz24_1
      try clear hfz24_2
      try clear hfz27_0
      try clear hfz27_1
      try clear hfz27_2
      obtain ⟨kq, x35_7, rfl, HA, HJ7, BK176, BK184, HB⟩ := hcut
      cases kq with
      | zero => exact absurd HA.out (by simp [laws_FnFaultText.j0])
      | succ kj7 =>
        have H := HA.out
        clear HA
        simp only [laws_FnFaultText.j0] at H
        by_cases c29 : x35_7 = true
        · subst c29
          have H1 : (some false) = some r := by rw [if_pos rfl] at H; exact H
          clear H
          have H := H1
          clear H1
          obtain rfl := Option.some.inj H
          go_wp2
          go_ret
          exact ⟨by first | rfl | (simp [errW_none, errW_some] <;> rfl) | (simp [*, errW_none, errW_some] <;> rfl), by repeat (first | (with_reducible first | exact HB.out | apply below_alloc | apply pw_below_drewN | apply below_drew1 | refine below_set ?_ GE176.out | refine below_set ?_ GE184.out) | exact HB.out)⟩
        · replace c29 := Bool.eq_false_iff.mpr c29
          subst c29
          have H1 : (if t172 < 1 then (some true) else (if t172 > 3 then (some true) else (if t180 < 1 then (some true) else (if t180 > 3 then (some true) else (if t173 < 1 then (some true) else (if t173 > 14 then (some true) else (if t181 < 1 then (some true) else (if t181 > 14 then (some true) else ((impl_FaultText.f kj7 t180 t181 t182 t183).bind fun t187 => (if t172 = t180 then (some ((t185.toList == t187.toList) == (t173 == t181 && (t174 == t182 && (t175 == t183))))) else (some ((t185.toList == t187.toList) == false)))))))))))) = some r := by rw [if_neg (show ¬ (false = true) by decide)] at H; exact H
          clear H
          have H := H1
          clear H1
          by_cases c30 : t172 < 1
          · rw [if_pos c30] at H
            have c30b0 : decide (t172 < 1) = true := decide_eq_true c30
            clear c30
            obtain rfl := Option.some.inj H
            go_wp2
            go_ret
            exact ⟨by first | rfl | (simp [errW_none, errW_some] <;> rfl) | (simp [*, errW_none, errW_some] <;> rfl), by repeat (first | (with_reducible first | exact HB.out | apply below_alloc | apply pw_below_drewN | apply below_drew1 | refine below_set ?_ GE176.out | refine below_set ?_ GE184.out) | exact HB.out)⟩
          · rw [if_neg c30] at H
            have c30b0 : decide (t172 < 1) = false := decide_eq_false c30
            clear c30
            by_cases c31 : t172 > 3
            · rw [if_pos c31] at H
              have c31b0 : decide (3 < t172) = true := decide_eq_true c31
              clear c31
              obtain rfl := Option.some.inj H
              go_wp2
              go_ret
              exact ⟨by first | rfl | (simp [errW_none, errW_some] <;> rfl) | (simp [*, errW_none, errW_some] <;> rfl), by repeat (first | (with_reducible first | exact HB.out | apply below_alloc | apply pw_below_drewN | apply below_drew1 | refine below_set ?_ GE176.out | refine below_set ?_ GE184.out) | exact HB.out)⟩
            · rw [if_neg c31] at H
              have c31b0 : decide (3 < t172) = false := decide_eq_false c31
              clear c31
              by_cases c32 : t180 < 1
              · rw [if_pos c32] at H
                have c32b0 : decide (t180 < 1) = true := decide_eq_true c32
                clear c32
                obtain rfl := Option.some.inj H
                go_wp2
                go_ret
                exact ⟨by first | rfl | (simp [errW_none, errW_some] <;> rfl) | (simp [*, errW_none, errW_some] <;> rfl), by repeat (first | (with_reducible first | exact HB.out | apply below_alloc | apply pw_below_drewN | apply below_drew1 | refine below_set ?_ GE176.out | refine below_set ?_ GE184.out) | exact HB.out)⟩
              · rw [if_neg c32] at H
                have c32b0 : decide (t180 < 1) = false := decide_eq_false c32
                clear c32
                by_cases c33 : t180 > 3
                · rw [if_pos c33] at H
                  have c33b0 : decide (3 < t180) = true := decide_eq_true c33
                  clear c33
                  obtain rfl := Option.some.inj H
                  go_wp2
                  go_ret
                  exact ⟨by first | rfl | (simp [errW_none, errW_some] <;> rfl) | (simp [*, errW_none, errW_some] <;> rfl), by repeat (first | (with_reducible first | exact HB.out | apply below_alloc | apply pw_below_drewN | apply below_drew1 | refine below_set ?_ GE176.out | refine below_set ?_ GE184.out) | exact HB.out)⟩
                · rw [if_neg c33] at H
                  have c33b0 : decide (3 < t180) = false := decide_eq_false c33
                  clear c33
                  by_cases c34 : t173 < 1
                  · rw [if_pos c34] at H
                    have c34b0 : decide (t173 < 1) = true := decide_eq_true c34
                    clear c34
                    obtain rfl := Option.some.inj H
                    have hnb35 := NB176_184.out
                    have hnc35 := NB184_176.out
                    have hcz36_0 : wc.cell? ⟨gb176, 0, none⟩ = some (.int .i64 t173) := (blk_cell BK176.out 0).trans rfl
                    have hcz36_1 : wc.cell? ⟨gb176, 1, none⟩ = some (.int .i64 t174) := (blk_cell BK176.out 1).trans rfl
                    have hcz36_2 : wc.cell? ⟨gb176, 2, none⟩ = some (.int .i64 t175) := (blk_cell BK176.out 2).trans rfl
                    have hfz36_0 := blk_frozen BK176.out 0
                    have hfz36_1 := blk_frozen BK176.out 1
                    have hfz36_2 := blk_frozen BK176.out 2
                    go_wp2
                    go_ret
                    exact ⟨by first | rfl | (simp [errW_none, errW_some] <;> rfl) | (simp [*, errW_none, errW_some] <;> rfl), by repeat (first | (with_reducible first | exact HB.out | apply below_alloc | apply pw_below_drewN | apply below_drew1 | refine below_set ?_ GE176.out | refine below_set ?_ GE184.out) | exact HB.out)⟩
                  · rw [if_neg c34] at H
                    have c34b0 : decide (t173 < 1) = false := decide_eq_false c34
                    clear c34
                    by_cases c37 : t173 > 14
                    · rw [if_pos c37] at H
                      have c37b0 : decide (14 < t173) = true := decide_eq_true c37
                      clear c37
                      obtain rfl := Option.some.inj H
                      have hnb38 := NB176_184.out
                      have hnc38 := NB184_176.out
                      have hcz39_0 : wc.cell? ⟨gb176, 0, none⟩ = some (.int .i64 t173) := (blk_cell BK176.out 0).trans rfl
                      have hcz39_1 : wc.cell? ⟨gb176, 1, none⟩ = some (.int .i64 t174) := (blk_cell BK176.out 1).trans rfl
                      have hcz39_2 : wc.cell? ⟨gb176, 2, none⟩ = some (.int .i64 t175) := (blk_cell BK176.out 2).trans rfl
                      have hfz39_0 := blk_frozen BK176.out 0
                      have hfz39_1 := blk_frozen BK176.out 1
                      have hfz39_2 := blk_frozen BK176.out 2
                      go_wp2
                      go_ret
                      exact ⟨by first | rfl | (simp [errW_none, errW_some] <;> rfl) | (simp [*, errW_none, errW_some] <;> rfl), by repeat (first | (with_reducible first | exact HB.out | apply below_alloc | apply pw_below_drewN | apply below_drew1 | refine below_set ?_ GE176.out | refine below_set ?_ GE184.out) | exact HB.out)⟩
                    · rw [if_neg c37] at H
                      have c37b0 : decide (14 < t173) = false := decide_eq_false c37
                      clear c37
                      by_cases c40 : t181 < 1
                      · rw [if_pos c40] at H
                        have c40b0 : decide (t181 < 1) = true := decide_eq_true c40
                        clear c40
                        obtain rfl := Option.some.inj H
                        have hnb41 := NB176_184.out
                        have hnc41 := NB184_176.out
                        have hcz42_0 : wc.cell? ⟨gb176, 0, none⟩ = some (.int .i64 t173) := (blk_cell BK176.out 0).trans rfl
                        have hcz42_1 : wc.cell? ⟨gb176, 1, none⟩ = some (.int .i64 t174) := (blk_cell BK176.out 1).trans rfl
                        have hcz42_2 : wc.cell? ⟨gb176, 2, none⟩ = some (.int .i64 t175) := (blk_cell BK176.out 2).trans rfl
                        have hfz42_0 := blk_frozen BK176.out 0
                        have hfz42_1 := blk_frozen BK176.out 1
                        have hfz42_2 := blk_frozen BK176.out 2
                        have hcz43_0 : wc.cell? ⟨gb184, 0, none⟩ = some (.int .i64 t181) := (blk_cell BK184.out 0).trans rfl
                        have hcz43_1 : wc.cell? ⟨gb184, 1, none⟩ = some (.int .i64 t182) := (blk_cell BK184.out 1).trans rfl
                        have hcz43_2 : wc.cell? ⟨gb184, 2, none⟩ = some (.int .i64 t183) := (blk_cell BK184.out 2).trans rfl
                        have hfz43_0 := blk_frozen BK184.out 0
                        have hfz43_1 := blk_frozen BK184.out 1
                        have hfz43_2 := blk_frozen BK184.out 2
                        go_wp2
                        go_ret
                        exact ⟨by first | rfl | (simp [errW_none, errW_some] <;> rfl) | (simp [*, errW_none, errW_some] <;> rfl), by repeat (first | (with_reducible first | exact HB.out | apply below_alloc | apply pw_below_drewN | apply below_drew1 | refine below_set ?_ GE176.out | refine below_set ?_ GE184.out) | exact HB.out)⟩
                      · rw [if_neg c40] at H
                        have c40b0 : decide (t181 < 1) = false := decide_eq_false c40
                        clear c40
                        by_cases c44 : t181 > 14
                        · rw [if_pos c44] at H
                          have c44b0 : decide (14 < t181) = true := decide_eq_true c44
                          clear c44
                          obtain rfl := Option.some.inj H
                          have hnb45 := NB176_184.out
                          have hnc45 := NB184_176.out
                          have hcz46_0 : wc.cell? ⟨gb176, 0, none⟩ = some (.int .i64 t173) := (blk_cell BK176.out 0).trans rfl
                          have hcz46_1 : wc.cell? ⟨gb176, 1, none⟩ = some (.int .i64 t174) := (blk_cell BK176.out 1).trans rfl
                          have hcz46_2 : wc.cell? ⟨gb176, 2, none⟩ = some (.int .i64 t175) := (blk_cell BK176.out 2).trans rfl
                          have hfz46_0 := blk_frozen BK176.out 0
                          have hfz46_1 := blk_frozen BK176.out 1
                          have hfz46_2 := blk_frozen BK176.out 2
                          have hcz47_0 : wc.cell? ⟨gb184, 0, none⟩ = some (.int .i64 t181) := (blk_cell BK184.out 0).trans rfl
                          have hcz47_1 : wc.cell? ⟨gb184, 1, none⟩ = some (.int .i64 t182) := (blk_cell BK184.out 1).trans rfl
                          have hcz47_2 : wc.cell? ⟨gb184, 2, none⟩ = some (.int .i64 t183) := (blk_cell BK184.out 2).trans rfl
                          have hfz47_0 := blk_frozen BK184.out 0
                          have hfz47_1 := blk_frozen BK184.out 1
                          have hfz47_2 := blk_frozen BK184.out 2
                          go_wp2
                          go_ret
                          exact ⟨by first | rfl | (simp [errW_none, errW_some] <;> rfl) | (simp [*, errW_none, errW_some] <;> rfl), by repeat (first | (with_reducible first | exact HB.out | apply below_alloc | apply pw_below_drewN | apply below_drew1 | refine below_set ?_ GE176.out | refine below_set ?_ GE184.out) | exact HB.out)⟩
                        · rw [if_neg c44] at H
                          have c44b0 : decide (14 < t181) = false := decide_eq_false c44
                          clear c44
                          replace H := Option.bind_eq_some_iff.mp H
                          obtain ⟨t187, A480, H⟩ := H
                          replace H : (if t172 = t180 then (some ((t185.toList == t187.toList) == (t173 == t181 && (t174 == t182 && (t175 == t183))))) else (some ((t185.toList == t187.toList) == false))) = some r := H
                          have A48 := Aside0.mk A480
                          clear A480
                          by_cases c49 : t172 = t180
                          · rw [if_pos c49] at H
                            have c49b0 : (t172 == t180) = true := beq_iff_eq.mpr c49
                            have c49b1 : (t172 != t180) = false := bne_eq_false_iff_eq.mpr c49
                            clear c49
                            obtain rfl := Option.some.inj H
                            have hnb50 := NB176_184.out
                            have hnc50 := NB184_176.out
                            have hcz51_0 : wc.cell? ⟨gb176, 0, none⟩ = some (.int .i64 t173) := (blk_cell BK176.out 0).trans rfl
                            have hcz51_1 : wc.cell? ⟨gb176, 1, none⟩ = some (.int .i64 t174) := (blk_cell BK176.out 1).trans rfl
                            have hcz51_2 : wc.cell? ⟨gb176, 2, none⟩ = some (.int .i64 t175) := (blk_cell BK176.out 2).trans rfl
                            have hfz51_0 := blk_frozen BK176.out 0
                            have hfz51_1 := blk_frozen BK176.out 1
                            have hfz51_2 := blk_frozen BK176.out 2
                            have hcz52_0 : wc.cell? ⟨gb184, 0, none⟩ = some (.int .i64 t181) := (blk_cell BK184.out 0).trans rfl
                            have hcz52_1 : wc.cell? ⟨gb184, 1, none⟩ = some (.int .i64 t182) := (blk_cell BK184.out 1).trans rfl
                            have hcz52_2 : wc.cell? ⟨gb184, 2, none⟩ = some (.int .i64 t183) := (blk_cell BK184.out 2).trans rfl
                            have hfz52_0 := blk_frozen BK184.out 0
                            have hfz52_1 := blk_frozen BK184.out 1
                            have hfz52_2 := blk_frozen BK184.out 2
                            go_wp2_with (first | ((with_reducible refine gate_callee (f := 7) rfl ?_); refine goesL_ (some 73) rfl rfl Tryd.func7 (by kernel_rfl) rfl #[.int .i64 t180, .agg #[.int .i64 t181, .int .i64 t182, .int .i64 t183]] rfl (by (try simp only [List.map_toArray, List.map_cons, List.map_nil]); first | done | rfl | (simp only [List.length_drop, List.length_take]; rfl)) ?_; (with_reducible refine (impl_FaultText.calls kj7 t180 t181 t182 t183 t187 _ ?side1 A48.out).mono ?_); (case side1 => exact tab_below HT.out (by repeat (first | (with_reducible first | exact HB.out | apply below_alloc | apply pw_below_drewN | apply below_drew1 | refine below_set ?_ GE176.out | refine below_set ?_ GE184.out) | exact HB.out))); rintro e w53 ⟨rfl, hb⟩; refine ⟨_, rfl, ?_⟩; have n0_ := Aside0.mk (blk_below (g := gb176) (o := .cells #[.int .i64 t173, .int .i64 t174, .int .i64 t175] 25 (0, 0)) (by (with_reducible repeat (first | refine blk_drewN ?_ _ | refine blk_drew ?_ | refine blk_alloc ?_ _)); exact BK176.out) hb); have n1_ := Aside0.mk (blk_below (g := gb184) (o := .cells #[.int .i64 t181, .int .i64 t182, .int .i64 t183] 25 (0, 0)) (by (with_reducible repeat (first | refine blk_drewN ?_ _ | refine blk_drew ?_ | refine blk_alloc ?_ _)); exact BK184.out) hb); have n2_ := Aside0.mk (below_step (by repeat (first | (with_reducible first | exact HB.out | apply below_alloc | apply pw_below_drewN | apply below_drew1 | refine below_set ?_ GE176.out | refine below_set ?_ GE184.out) | exact HB.out)) hb); clear BK176; clear BK184; clear HB; have BK176 := n0_; have BK184 := n1_; have HB := n2_; clear n0_ n1_ n2_; (try clear hb); (try clear hb2); (try clear hk); (try clear hi); have hcz54_0 : w53.cell? ⟨gb176, 0, none⟩ = some (.int .i64 t173) := (blk_cell BK176.out 0).trans rfl; have hcz54_1 : w53.cell? ⟨gb176, 1, none⟩ = some (.int .i64 t174) := (blk_cell BK176.out 1).trans rfl; have hcz54_2 : w53.cell? ⟨gb176, 2, none⟩ = some (.int .i64 t175) := (blk_cell BK176.out 2).trans rfl; have hfz54_0 := blk_frozen BK176.out 0; have hfz54_1 := blk_frozen BK176.out 1; have hfz54_2 := blk_frozen BK176.out 2; have hcz55_0 : w53.cell? ⟨gb184, 0, none⟩ = some (.int .i64 t181) := (blk_cell BK184.out 0).trans rfl; have hcz55_1 : w53.cell? ⟨gb184, 1, none⟩ = some (.int .i64 t182) := (blk_cell BK184.out 1).trans rfl; have hcz55_2 : w53.cell? ⟨gb184, 2, none⟩ = some (.int .i64 t183) := (blk_cell BK184.out 2).trans rfl; have hfz55_0 := blk_frozen BK184.out 0; have hfz55_1 := blk_frozen BK184.out 1; have hfz55_2 := blk_frozen BK184.out 2))
                            go_ret
                            exact ⟨by first | rfl | (simp [errW_none, errW_some] <;> rfl) | (simp [*, errW_none, errW_some] <;> rfl), by repeat (first | (with_reducible first | exact HB.out | apply below_alloc | apply pw_below_drewN | apply below_drew1 | refine below_set ?_ GE176.out | refine below_set ?_ GE184.out) | exact HB.out)⟩
                          · rw [if_neg c49] at H
                            have c49b0 : (t172 == t180) = false := beq_eq_false_iff_ne.mpr c49
                            have c49b1 : (t172 != t180) = true := bne_iff_ne.mpr c49
                            obtain rfl := Option.some.inj H
                            have hnb56 := NB176_184.out
                            have hnc56 := NB184_176.out
                            have hcz57_0 : wc.cell? ⟨gb176, 0, none⟩ = some (.int .i64 t173) := (blk_cell BK176.out 0).trans rfl
                            have hcz57_1 : wc.cell? ⟨gb176, 1, none⟩ = some (.int .i64 t174) := (blk_cell BK176.out 1).trans rfl
                            have hcz57_2 : wc.cell? ⟨gb176, 2, none⟩ = some (.int .i64 t175) := (blk_cell BK176.out 2).trans rfl
                            have hfz57_0 := blk_frozen BK176.out 0
                            have hfz57_1 := blk_frozen BK176.out 1
                            have hfz57_2 := blk_frozen BK176.out 2
                            have hcz58_0 : wc.cell? ⟨gb184, 0, none⟩ = some (.int .i64 t181) := (blk_cell BK184.out 0).trans rfl
                            have hcz58_1 : wc.cell? ⟨gb184, 1, none⟩ = some (.int .i64 t182) := (blk_cell BK184.out 1).trans rfl
                            have hcz58_2 : wc.cell? ⟨gb184, 2, none⟩ = some (.int .i64 t183) := (blk_cell BK184.out 2).trans rfl
                            have hfz58_0 := blk_frozen BK184.out 0
                            have hfz58_1 := blk_frozen BK184.out 1
                            have hfz58_2 := blk_frozen BK184.out 2
                            go_wp2_with (first | ((with_reducible refine gate_callee (f := 7) rfl ?_); refine goesL_ (some 73) rfl rfl Tryd.func7 (by kernel_rfl) rfl #[.int .i64 t180, .agg #[.int .i64 t181, .int .i64 t182, .int .i64 t183]] rfl (by (try simp only [List.map_toArray, List.map_cons, List.map_nil]); first | done | rfl | (simp only [List.length_drop, List.length_take]; rfl)) ?_; (with_reducible refine (impl_FaultText.calls kj7 t180 t181 t182 t183 t187 _ ?side1 A48.out).mono ?_); (case side1 => exact tab_below HT.out (by repeat (first | (with_reducible first | exact HB.out | apply below_alloc | apply pw_below_drewN | apply below_drew1 | refine below_set ?_ GE176.out | refine below_set ?_ GE184.out) | exact HB.out))); rintro e w59 ⟨rfl, hb⟩; refine ⟨_, rfl, ?_⟩; have n0_ := Aside0.mk (blk_below (g := gb176) (o := .cells #[.int .i64 t173, .int .i64 t174, .int .i64 t175] 25 (0, 0)) (by (with_reducible repeat (first | refine blk_drewN ?_ _ | refine blk_drew ?_ | refine blk_alloc ?_ _)); exact BK176.out) hb); have n1_ := Aside0.mk (blk_below (g := gb184) (o := .cells #[.int .i64 t181, .int .i64 t182, .int .i64 t183] 25 (0, 0)) (by (with_reducible repeat (first | refine blk_drewN ?_ _ | refine blk_drew ?_ | refine blk_alloc ?_ _)); exact BK184.out) hb); have n2_ := Aside0.mk (below_step (by repeat (first | (with_reducible first | exact HB.out | apply below_alloc | apply pw_below_drewN | apply below_drew1 | refine below_set ?_ GE176.out | refine below_set ?_ GE184.out) | exact HB.out)) hb); clear BK176; clear BK184; clear HB; have BK176 := n0_; have BK184 := n1_; have HB := n2_; clear n0_ n1_ n2_; (try clear hb); (try clear hb2); (try clear hk); (try clear hi)))
                            go_ret
                            exact ⟨by first | rfl | (simp [errW_none, errW_some] <;> rfl) | (simp [*, errW_none, errW_some] <;> rfl), by repeat (first | (with_reducible first | exact HB.out | apply below_alloc | apply pw_below_drewN | apply below_drew1 | refine below_set ?_ GE176.out | refine below_set ?_ GE184.out) | exact HB.out)⟩

/-- THE ONE PURE STATEMENT of laws_FnFaultText: yours. -/
def laws_FnFaultText.Pure : Prop := ∀ (l0 : List Int), l0.length ≤ maxLen → l0.length * 1 ≤ 140737488351232 → (∀ x ∈ l0, (Lit.int .u8 x).wf = true) → ∃ k, laws_FnFaultText.f k l0 = some true
theorem laws_FnFaultText.walk (P : laws_FnFaultText.Pure) (a0 : Option Addr) (len0 cap0 : Nat) (z0 : List Int) (w : World) (w0 : (a0 = none ∧ len0 = 0 ∧ cap0 = 0 ∧ z0 = []) ∨ ∃ x, a0 = some x ∧ len0 ≤ cap0 ∧ cap0 ≤ maxLen ∧ z0.length = cap0 ∧ (∀ i, i < z0.length → w.cell? (x.add i) = some (.int .u8 (z0.getD i 0))) ∧ ∀ n ∈ z0, (Lit.int .u8 n).wf = true) (y0 : len0 * 1 ≤ 140737488351232) (hT : TabW w) :
    Calls Tryd.prog 4 #[.slice a0 len0 cap0] w fun e w' => e = .returned (.bool true) ∧ Below w.heap.size w w' := by
  obtain ⟨l0, rfl, hr0, hm0, hw0, hc0⟩ := ReadsInt.ofRowC w0
  obtain ⟨k, h⟩ := P l0 hm0 y0 hw0
  refine (laws_FnFaultText.calls k _ _ l0 true w (Kd.C_of_reads (d := (0 : Int)) (h1 := fun _ => rfl) hr0) hc0 hT h).mono ?_
  rintro e w' ⟨rfl, hd⟩
  exact ⟨rfl, hd⟩

end Go.Proofs.YteoikmbdpofhmaaDoor.XFnFaultText
