-- Written by this session's program wip/xprint.py (a driver of its own over the kit's print).
import Derived.Test.YtcgmdpnhlkbpbaaDoorXFnExactReadNodex0
import Derived.Test.YtcgmdpnhlkbpbaaDoorXFnExactReadNodex13
namespace Go.Proofs.YtcgmdpnhlkbpbaaDoor.XFnExactReadNode
open Go.RowKit Go.Proofs.YtcgmdpnhlkbpbaaDoorW.PrintWords Go.Proofs.YtcgmdpnhlkbpbaaDoorW.PrintLast Go.Proofs.YtcgmdpnhlkbpbaaDoorW.PrintMore
attribute [local go_sem] max2_int min2_int max_two min_two max_three min_three max_four min_four   -- for this text's walks alone
set_option linter.unusedVariables false
set_option linter.unusedSimpArgs false

/-! ### impl_IntText: function 44 -/
theorem atoi_good (a0 : ByteArray) (v : Int) (w : World) (hs : a0.size ≤ 281474976710656) (h : Lib.atoiAll a0.data.toList = .ok v) :
    Calls Tryd.prog 87 #[.string a0] w fun e w' => e = .returned (.tuple #[.int .i64 v, .nilIface]) ∧ Below w.heap.size w w' := by
  refine (Tryd.strconv_Atoi_ok a0 (Nat.le_trans hs (by decide)) v h w).mono ?_
  rintro e w' ⟨rfl, rfl | ⟨t, rfl⟩⟩
  · exact ⟨rfl, Below.refl _ _⟩
  · exact ⟨rfl, Lib.below_freeze (below_alloc (below_drew (Below.refl _ w)) _) (Nat.le_refl _) _⟩
theorem atoi_bad (a0 : ByteArray) (w : World) (hT : TabW w) (hs : a0.size ≤ 281474976710656) (h : ∀ v, Lib.atoiAll a0.data.toList ≠ .ok v) :
    Calls Tryd.prog 87 #[.string a0] w fun e w' => ∃ (v : Int) (N : Nat), e = .returned (.tuple #[.int .i64 v, .iface 156 (.pointer (some ⟨N, 0, none⟩))]) ∧ Below w.heap.size w w' := by
  cases hc : Lib.atoiAll a0.data.toList with
  | ok v => exact absurd hc (h v)
  | range =>
    obtain ⟨te, pe, he⟩ := tabW_rng hT
    refine (Tryd.strconv_Atoi_range a0 hs hc (.iface te pe) w he (Or.inr ⟨te, pe, rfl⟩)).mono ?_
    rintro e w' ⟨N, rfl, _, _, hb⟩
    exact ⟨_, N, rfl, hb⟩
  | _ =>
    obtain ⟨te, pe, he⟩ := tabW_syn hT
    refine (Tryd.strconv_Atoi_syntax a0 hs hc (.iface te pe) w he (Or.inr ⟨te, pe, rfl⟩)).mono ?_
    rintro e w' ⟨N, rfl, _, _, hb⟩
    exact ⟨_, N, rfl, hb⟩
def impl_IntText.f (a0 : ByteArray) : Option (Int × Bool) :=
  if a0.size ≤ 281474976710656 then
    (match Lib.atoiAll a0.data.toList with
     | .ok v => (impl_Digits.f v).bind fun t => if t.toList = a0.toList then some (v, true) else some (0, false)
     | _ => some (0, false))
  else none
set_option maxHeartbeats 8000000 in
set_option maxRecDepth 100000 in
theorem impl_IntText.calls (a0 : ByteArray) (r1 : Int) (r2 : Bool) (w : World) (hT : TabW w) (h : impl_IntText.f a0 = some (r1, r2)) :
    Calls Tryd.prog 44 #[.string a0] w fun e w' => e = .returned (.tuple #[.int .i64 r1, .bool r2]) ∧ Below w.heap.size w w' := by
  have HB := Aside0.mk (Below.refl w.heap.size w)
  have HT := Aside0.mk hT
  clear hT
  unfold impl_IntText.f at h
  by_cases hs : a0.size ≤ 281474976710656
  · rw [if_pos hs] at h
    by_cases hg : ∃ v, Lib.atoiAll a0.data.toList = .ok v
    · obtain ⟨v, hv⟩ := hg
      rw [hv] at h
      replace h : ((impl_Digits.f v).bind fun t => if t.toList = a0.toList then some (v, true) else some (0, false)) = some (r1, r2) := h
      replace h := Option.bind_eq_some_iff.mp h
      obtain ⟨t, A20, h⟩ := h
      have A2 := Aside0.mk A20
      clear A20
      by_cases c1 : t.toList = a0.toList
      · rw [if_pos c1] at h
        simp only [Option.some.injEq, Prod.mk.injEq] at h
        obtain ⟨rfl, rfl⟩ := h
        have c1b0 : (t.toList == a0.toList) = true := beq_iff_eq.mpr c1
        have c1b1 : (t.toList != a0.toList) = false := bne_eq_false_iff_eq.mpr c1
        go_enter Tryd.func44, Tryd.ntmps44
        go_wp2_with (first | (go_at_call 87; (with_reducible refine (atoi_good a0 v _ hs hv).mono ?_); rintro e w3 ⟨rfl, hb⟩; (have n0_ := Aside0.mk (below_step (by repeat (first | (with_reducible first | exact HB.out | apply below_alloc | apply pw_below_drewN | apply below_drew1) | exact HB.out)) hb)); clear HB; have HB := n0_; clear n0_; (try clear hb)) | (go_at_call 56; (with_reducible refine (impl_Digits.calls v t _ ?side1 A2.out).mono ?_); (case side1 => exact tab_below HT.out (by repeat (first | (with_reducible first | exact HB.out | apply below_alloc | apply pw_below_drewN | apply below_drew1) | exact HB.out))); rintro e w4 ⟨rfl, hb⟩; (have n0_ := Aside0.mk (below_step (by repeat (first | (with_reducible first | exact HB.out | apply below_alloc | apply pw_below_drewN | apply below_drew1) | exact HB.out)) hb)); clear HB; have HB := n0_; clear n0_; (try clear hb)))
        go_ret2
        exact ⟨by first | rfl | (simp [errW_none, errW_some] <;> rfl) | (simp [*, errW_none, errW_some] <;> rfl), by repeat (first | (with_reducible first | exact HB.out | apply below_alloc | apply pw_below_drewN | apply below_drew1) | exact HB.out)⟩
      · rw [if_neg c1] at h
        simp only [Option.some.injEq, Prod.mk.injEq] at h
        obtain ⟨rfl, rfl⟩ := h
        have c1b0 : (t.toList == a0.toList) = false := beq_eq_false_iff_ne.mpr c1
        have c1b1 : (t.toList != a0.toList) = true := bne_iff_ne.mpr c1
        go_enter Tryd.func44, Tryd.ntmps44
        go_wp2_with (first | (go_at_call 87; (with_reducible refine (atoi_good a0 v _ hs hv).mono ?_); rintro e w3 ⟨rfl, hb⟩; (have n0_ := Aside0.mk (below_step (by repeat (first | (with_reducible first | exact HB.out | apply below_alloc | apply pw_below_drewN | apply below_drew1) | exact HB.out)) hb)); clear HB; have HB := n0_; clear n0_; (try clear hb)) | (go_at_call 56; (with_reducible refine (impl_Digits.calls v t _ ?side1 A2.out).mono ?_); (case side1 => exact tab_below HT.out (by repeat (first | (with_reducible first | exact HB.out | apply below_alloc | apply pw_below_drewN | apply below_drew1) | exact HB.out))); rintro e w4 ⟨rfl, hb⟩; (have n0_ := Aside0.mk (below_step (by repeat (first | (with_reducible first | exact HB.out | apply below_alloc | apply pw_below_drewN | apply below_drew1) | exact HB.out)) hb)); clear HB; have HB := n0_; clear n0_; (try clear hb)))
        go_ret2
        exact ⟨by first | rfl | (simp [errW_none, errW_some] <;> rfl) | (simp [*, errW_none, errW_some] <;> rfl), by repeat (first | (with_reducible first | exact HB.out | apply below_alloc | apply pw_below_drewN | apply below_drew1) | exact HB.out)⟩
    · have hb0 : ∀ v, Lib.atoiAll a0.data.toList ≠ .ok v := fun v hv => hg ⟨v, hv⟩
      replace h : some ((0 : Int), false) = some (r1, r2) := by
        cases hc : Lib.atoiAll a0.data.toList with
        | ok v => exact absurd hc (hb0 v)
        | range => rw [hc] at h; exact h
        | _ => rw [hc] at h; exact h
      simp only [Option.some.injEq, Prod.mk.injEq] at h
      obtain ⟨rfl, rfl⟩ := h
      go_enter Tryd.func44, Tryd.ntmps44
      go_wp2_with (first | (go_at_call 87; (with_reducible refine (atoi_bad a0 _ ?side1 hs hb0).mono ?_); (case side1 => exact tab_below HT.out (by repeat (first | (with_reducible first | exact HB.out | apply below_alloc | apply pw_below_drewN | apply below_drew1) | exact HB.out))); rintro e w3 ⟨v, N, rfl, hb⟩; (have n0_ := Aside0.mk (below_step (by repeat (first | (with_reducible first | exact HB.out | apply below_alloc | apply pw_below_drewN | apply below_drew1) | exact HB.out)) hb)); clear HB; have HB := n0_; clear n0_; (try clear hb)))
      go_ret2
      exact ⟨by first | rfl | (simp [errW_none, errW_some] <;> rfl) | (simp [*, errW_none, errW_some] <;> rfl), by repeat (first | (with_reducible first | exact HB.out | apply below_alloc | apply pw_below_drewN | apply below_drew1) | exact HB.out)⟩
  · rw [if_neg hs] at h
    cases h

end Go.Proofs.YtcgmdpnhlkbpbaaDoor.XFnExactReadNode
