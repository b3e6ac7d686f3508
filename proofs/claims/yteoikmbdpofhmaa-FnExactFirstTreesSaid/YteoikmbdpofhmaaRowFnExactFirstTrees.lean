/- The row of the law FnExactFirstTrees: for every input that can be read the call returns true and leaves its arguments as they were; out of the pure statement and the walk. -/
import Derived.Test.YteoikmbdpofhmaaRows
import Derived.Test.YteoikmbdpofhmaaPureFnExactFirstTrees
import Derived.WalkKit
import Derived.ProofKit
import Derived.OpenShut
import Derived.ShutString
import Derived.ChangeOld
import Derived.Below
import Derived.SizedLaws
import Derived.Carry
namespace Go.Proofs.Yteoikmbdpofhmaa.fnExactFirstTrees
open Go.ChangeShapes Go.WideShapes Go.ChangeAt
open Go.RowKit Go.Proofs.YteoikmbdpofhmaaW.PrintWords Go.Proofs.YteoikmbdpofhmaaW.PrintLast Go.Proofs.Yteoikmbdpofhmaa.XFnExactFirstTrees Go.Proofs.Yteoikmbdpofhmaa.Opens
open Go.ChangeMaps (open_string shut_string)
set_option linter.unusedVariables false
theorem own : ownKnob Try.prog.godebug = none := by kernel_rfl
theorem laidOut : laidOutB Try.prog = true := by kernel_rfl
theorem op0 : Opens Try.prog 42 k42 (GS42) := (opens_imp (opens_iso (fun x : S42 => (x.f0, x.f1, x.f2, x.f3)) (fun p => ⟨p.1, p.2.1, p.2.2.1, p.2.2.2⟩) (fun _ => rfl) (opens_struct Try.underlying42 (opensF_cons (opens_slice Try.underlying24 (opens_string Try.underlying9) (by kernel_rfl)) (by kernel_rfl) (opensF_cons (opens_slice Try.underlying26 (opens_int Try.underlying3) (by kernel_rfl)) (by kernel_rfl) (opensF_cons (opens_int Try.underlying3) (by kernel_rfl) (opensF_one (opens_slice Try.underlying40 (opens_imp (opens_iso (fun x : S117 => x.f0) (fun p => ⟨p⟩) (fun _ => rfl) (opens_struct Try.underlying117 (opensF_one (opens_slice Try.underlying115 (opens_imp (opens_iso (fun x : S144 => (x.f0, x.f1, x.f2, x.f3, x.f4)) (fun p => ⟨p.1, p.2.1, p.2.2.1, p.2.2.2.1, p.2.2.2.2⟩) (fun _ => rfl) (opens_struct Try.underlying144 (opensF_cons (opens_int Try.underlying3) (by kernel_rfl) (opensF_cons (opens_int Try.underlying3) (by kernel_rfl) (opensF_cons (opens_int Try.underlying3) (by kernel_rfl) (opensF_cons (opens_int Try.underlying3) (by kernel_rfl) (opensF_one (opens_int Try.underlying3) (by kernel_rfl)))))) (by kernel_rfl))) (fun _ h => (h : GS144 _))) (by kernel_rfl)) (by kernel_rfl)) (by kernel_rfl))) (fun _ h => (h : GS117 _))) (by kernel_rfl)) (by kernel_rfl))))) (by kernel_rfl))) (fun _ h => (h : GS42 _)))
set_option maxRecDepth 100000 in
theorem contract (H : Type) (enc : TypeId × Value → H) (W : World) (base : Nat) (args : Array Value) (ds gs : List (DataW H)) (before : List MemPlace)
    (hval0 : ∀ (j : Nat) t v, Try.f5.params[j]? = some t → args[j]? = some v → Value.okWide Try.prog W .any base t v)
    (hW : DataW.Whole enc Try.prog Try.f5.params.toList Rows.fnExactFirstTreesSpec.vars false W args.toList ds gs before) :
    Calls Try.prog 5 args W fun e W' => ∃ v, e = .returned v ∧ Rows.fnExactFirstTreesSpec.post enc Try.prog Try.f5 false true false false W args v W' := by
  have hval : ∀ (j : Nat) t v, Try.f5.params[j]? = some t → args[j]? = some v → Value.okWide Try.prog W .any base t v := hval0
  have hW' := hW
  obtain ⟨p, q, hA0, hV, rfl, hfz, hnd⟩ := hW
  have hA : DataW.TrodAll enc Try.prog W 0 (fun _ => true) true Try.f5.params.toList args.toList ds p := hA0
  rw [Try.params5] at hA hval
  obtain ⟨v0, vs0, d0, ds0, p0, q0, hargs, rfl, rfl, h0, r0⟩ := trodAll_cons hA
  obtain ⟨v1, vs1, d1, ds1, p1, q1, rfl, rfl, rfl, h1, r1⟩ := trodAll_cons r0
  obtain ⟨rfl, rfl, rfl⟩ := trodAll_nil r1
  obtain rfl : args = #[v0, v1] := by cases args; simp_all
  obtain ⟨rfl, rfl⟩ := trodVars_none hV
  obtain ⟨cs0, rfl, _⟩ := okWide_struct Try.underlying42 (hval 0 42 v0 rfl rfl)
  have k0 := h0
  have lt0 : ∀ x ∈ p0, x.block < W.heap.size := by obtain ⟨m, hm⟩ := k0; exact DataW.trod_lt m _ _ _ hm
  obtain ⟨x0, hx0, g0⟩ : ∃ a, k42.K W a cs0.toList ∧ GS42 a := by obtain ⟨fuel, hf⟩ := h0; exact op0 hf
  obtain ⟨A0_0, c0_0, A0_1, c0_1, A0_3, c0_3, e0, hl0_0, hc0_0, hl0_1, hc0_1, hl0_3, hc0_3⟩ := k42_open hx0
  obtain rfl : cs0 = #[.slice A0_0 x0.f0.length c0_0, .slice A0_1 x0.f1.length c0_1, .int .i64 x0.f2, .slice A0_3 x0.f3.length c0_3] := Array.toList_inj.mp e0
  obtain ⟨a1, rfl, rfl, rfl, w1⟩ := open_int Try.underlying3 (hval 1 3 v1 rfl rfl) h1
  clear hA0 hval0
  obtain ⟨k, h⟩ := Pure.FnExactFirstTrees x0.f0 x0.f1 x0.f2 x0.f3 a1 g0 w1
  refine (laws_FnExactFirstTrees.calls k A0_0 c0_0 x0.f0 A0_1 c0_1 x0.f1 x0.f2 A0_3 c0_3 x0.f3 a1 true W hc0_0 hl0_0 hc0_1 hl0_1 hc0_3 hl0_3 h).mono ?_
  rintro e W' ⟨he, hd⟩
  subst he
  have bel : Below W.heap.size W W' := hd
  exact ⟨_, rfl, _, _, _, [], _, [], hW', trodAll_mk1 (shut_bool Try.underlying4 _), (trodAll_cons_mk (Below.trod laidOut (by kernel_rfl) (of_decide_eq_true (by kernel_rfl)) k0 bel lt0) (trodAll_cons_mk (shut_int Try.underlying3 w1) trodAll_mk0)), rfl, bel.frame _, fun h => by cases h⟩
set_option maxRecDepth 100000 in
theorem lifted (os : Os) (started : os.Started) (H : Type) (enc : TypeId × Value → H) :
    ReturnsInHanded {} Try.checked os 5 .any (Rows.fnExactFirstTreesSpec.pre6 enc Try.prog Try.f5 Rows.fnExactFirstTreesRow.domain false) (Rows.fnExactFirstTreesSpec.post enc Try.prog Try.f5 false true false false) := by
  refine returnsInHanded_of_change_sized (C := Try.checked) own started (by kernel_rfl) Try.func5
    (ChangeSpec.witness6 (enc := enc) (C := Try.checked) false ⟨#[], #[.agg #[.slice none 0 0, .slice none 0 0, .int .i64 0, .slice none 0 0], .int .i64 0], []⟩ 8 (by kernel_rfl) (by kernel_rfl) (by kernel_rfl) (by kernel_rfl)) ?_
  intro W base args ds gs before hval hW _ _ _
  exact contract H enc W base args ds gs before hval hW
theorem over : Rows.fnExactFirstTreesRow.holds Try.pinned (OpenSpec.ofChange Rows.fnExactFirstTreesSpec) :=
  OpenClaim.holds_of_wide 5 Try.f5 rfl rfl rfl rfl rfl rfl rfl ⟨rfl, rfl, rfl, rfl, rfl⟩ rfl rfl rfl rfl rfl (by kernel_rfl) Try.func5 (by kernel_rfl)
    (of_decide_eq_true (by kernel_rfl)) (by unfold Func.isWrapper; first | (rw [if_pos (by decide +kernel)]; kernel_rfl) | (rw [if_neg (by decide +kernel)]; exact ⟨rfl, rfl⟩))
    (fun os started H enc _ => lifted os started H enc)
theorem proved : Rows.FnExactFirstTreesSaid := over
#print axioms proved
end Go.Proofs.Yteoikmbdpofhmaa.fnExactFirstTrees
namespace Go.Proofs.Yteoikmbdpofhmaa
/-- The row, under a short name, for the claim. -/
theorem fnExactFirstTrees_holds : Rows.FnExactFirstTreesSaid := fnExactFirstTrees.proved
end Go.Proofs.Yteoikmbdpofhmaa
