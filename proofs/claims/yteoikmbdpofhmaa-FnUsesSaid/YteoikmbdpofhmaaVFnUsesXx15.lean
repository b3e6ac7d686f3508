import Derived.Test.YteoikmbdpofhmaaVFnUsesXx0
import Derived.Test.YteoikmbdpofhmaaVFnUsesXx2
import Derived.Test.YteoikmbdpofhmaaVFnUsesXx9
import Derived.Test.YteoikmbdpofhmaaVFnUsesXx11
import Derived.Test.YteoikmbdpofhmaaVFnUsesXx12
import Derived.Test.YteoikmbdpofhmaaVFnUsesXx13
import Derived.Test.YteoikmbdpofhmaaVFnUsesXx14
namespace Go.Proofs.Yteoikmbdpofhmaa.XFnUses
open Go.RowKit Go.Proofs.YteoikmbdpofhmaaW.PrintWords Go.Proofs.YteoikmbdpofhmaaW.PrintLast Go.Proofs.YteoikmbdpofhmaaW.PrintMore
attribute [local go_sem] max2_int min2_int max_two min_two max_three min_three max_four min_four
set_option linter.unusedVariables false
set_option linter.unusedSimpArgs false
def laws_FnUses.b0_ : Array Bool := #[false, false, false, false, false, false, false, false, false, false, false, false, false, false, false]
def laws_FnUses.b1_ : Array Bool := #[true, false, false, false, false, false, false, false, false, false, false, false, false, false, false]
def laws_FnUses.b2_ : Array Bool := #[true, true, false, false, false, false, false, false, false, false, false, false, false, false, false]
def laws_FnUses.b3_ : Array Bool := #[true, true, true, false, false, false, false, false, false, false, false, false, false, false, false]
def laws_FnUses.b4_ : Array Bool := #[true, true, true, true, false, false, false, false, false, false, false, false, false, false, false]
def laws_FnUses.b5_ : Array Bool := #[true, true, true, true, true, false, false, false, false, false, false, false, false, false, false]
def laws_FnUses.b6_ : Array Bool := #[true, true, true, true, true, true, false, false, false, false, false, false, false, false, false]
def laws_FnUses.b7_ : Array Bool := #[true, true, true, true, true, true, true, true, true, true, true, false, false, false, false]
def laws_FnUses.b8_ : Array Bool := #[true, true, true, true, true, true, true, true, true, true, true, true, false, false, false]
def laws_FnUses.b9_ : Array Bool := #[true, true, true, true, true, true, true, true, true, true, true, true, true, false, false]
def laws_FnUses.b10_ : Array Bool := #[true, true, true, true, true, true, true, true, true, true, true, true, true, true, false]
def laws_FnUses.b11_ : Array Bool := #[true, true, true, true, true, true, true, true, true, true, true, true, true, true, true]
def laws_FnUses.b12_ : Array Bool := #[false, false, false, false, false, false, false, false, false]
def laws_FnUses.b13_ : Array Bool := #[true, false, false, false, false, false, false, false, false]
def laws_FnUses.b14_ : Array Bool := #[true, false, true, false, false, false, false, false, false]
def laws_FnUses.b15_ : Array Bool := #[true, false, true, true, false, false, false, false, false]
def laws_FnUses.b16_ : Array Bool := #[true, false, true, true, true, false, false, false, false]
def laws_FnUses.b17_ : Array Bool := #[true, true, true, true, true, false, false, false, false]
def laws_FnUses.b18_ : Array Bool := #[true, true, true, true, true, true, false, false, false]
def laws_FnUses.b19_ : Array Bool := #[true, true, true, true, true, true, true, false, false]
def laws_FnUses.b20_ : Array Bool := #[true, true, true, true, true, true, true, true, false]
def laws_FnUses.b21_ : Array Bool := #[true, true, true, true, true, true, true, true, true]
def laws_FnUses.b22_ : Array Bool := #[false, false, false, false, false, false, false, false, false, false, false, false, false, false, false, false, false, false, false, false, false, false, false, false, false, false, false, false, false, false, false, false, false, false, false, false, false, false, false, false, false, false, false, false, false, false]
def laws_FnUses.b23_ : Array Bool := #[true, false, false, false, false, false, false, false, false, false, false, false, false, false, false, false, false, false, false, false, false, false, false, false, false, false, false, false, false, false, false, false, false, false, false, false, false, false, false, false, false, false, false, false, false, false]
def laws_FnUses.b24_ : Array Bool := #[true, true, false, false, false, false, false, false, false, false, false, false, false, false, false, false, false, false, false, false, false, false, false, false, false, false, false, false, false, false, false, false, false, false, false, false, false, false, false, false, false, false, false, false, false, false]
def laws_FnUses.b25_ : Array Bool := #[true, true, true, false, false, false, false, false, false, false, false, false, false, false, false, false, false, false, false, false, false, false, false, false, false, false, false, false, false, false, false, false, false, false, false, false, false, false, false, false, false, false, false, false, false, false]
def laws_FnUses.b26_ : Array Bool := #[true, true, true, true, true, true, true, true, true, true, true, true, true, true, true, false, false, false, false, false, false, false, false, false, false, false, false, false, false, false, false, false, false, false, false, false, false, false, false, false, false, false, false, false, false, false]
def laws_FnUses.b27_ : Array Bool := #[true, true, true, true, true, true, true, true, true, true, true, true, true, true, true, true, false, false, false, false, false, false, false, false, false, false, false, false, false, false, false, false, false, false, false, false, false, false, false, false, false, false, false, false, false, false]
def laws_FnUses.b28_ : Array Bool := #[true, true, true, true, true, true, true, true, true, true, true, true, true, true, true, true, true, false, false, false, false, false, false, false, false, false, false, false, false, false, false, false, false, false, false, false, false, false, false, false, false, false, false, false, false, false]
def laws_FnUses.b29_ : Array Bool := #[true, true, true, true, true, true, true, true, true, true, true, true, true, true, true, true, true, true, false, false, false, false, false, false, false, false, false, false, false, false, false, false, false, false, false, false, false, false, false, false, false, false, false, false, false, false]
def laws_FnUses.b30_ : Array Bool := #[true, true, true, true, true, true, true, true, true, true, true, true, true, true, true, true, true, true, true, true, true, true, true, true, true, true, true, true, true, true, false, false, false, false, false, false, false, false, false, false, false, false, false, false, false, false]
def laws_FnUses.b31_ : Array Bool := #[true, true, true, true, true, true, true, true, true, true, true, true, true, true, true, true, true, true, true, true, true, true, true, true, true, true, true, true, true, true, true, false, false, false, false, false, false, false, false, false, false, false, false, false, false, false]
def laws_FnUses.b32_ : Array Bool := #[true, true, true, true, true, true, true, true, true, true, true, true, true, true, true, true, true, true, true, true, true, true, true, true, true, true, true, true, true, true, true, true, false, false, false, false, false, false, false, false, false, false, false, false, false, false]
def laws_FnUses.b33_ : Array Bool := #[true, true, true, true, true, true, true, true, true, true, true, true, true, true, true, true, true, true, true, true, true, true, true, true, true, true, true, true, true, true, true, true, true, false, false, false, false, false, false, false, false, false, false, false, false, false]
def laws_FnUses.b34_ : Array Bool := #[true, true, true, true, true, true, true, true, true, true, true, true, true, true, true, true, true, true, true, true, true, true, true, true, true, true, true, true, true, true, true, true, true, true, false, false, false, false, false, false, false, false, false, false, false, false]
def laws_FnUses.b35_ : Array Bool := #[true, true, true, true, true, true, true, true, true, true, true, true, true, true, true, true, true, true, true, true, true, true, true, true, true, true, true, true, true, true, true, true, true, true, true, false, false, false, false, false, false, false, false, false, false, false]
def laws_FnUses.b36_ : Array Bool := #[true, true, true, true, true, true, true, true, true, true, true, true, true, true, true, true, true, true, true, true, true, true, true, true, true, true, true, true, true, true, true, true, true, true, true, true, false, false, false, false, false, false, false, false, false, false]
def laws_FnUses.b37_ : Array Bool := #[true, true, true, true, true, true, true, true, true, true, true, true, true, true, true, true, true, true, true, true, true, true, true, true, true, true, true, true, true, true, true, true, true, true, true, true, true, false, false, false, false, false, false, false, false, false]
def laws_FnUses.b38_ : Array Bool := #[true, true, true, true, true, true, true, true, true, true, true, true, true, true, true, true, true, true, true, true, true, true, true, true, true, true, true, true, true, true, true, true, true, true, true, true, true, true, false, false, false, false, false, false, false, false]
def laws_FnUses.b39_ : Array Bool := #[true, true, true, true, true, true, true, true, true, true, true, true, true, true, true, true, true, true, true, true, true, true, true, true, true, true, true, true, true, true, true, true, true, true, true, true, true, true, true, false, false, false, false, false, false, false]
def laws_FnUses.b40_ : Array Bool := #[true, true, true, true, true, true, true, true, true, true, true, true, true, true, true, true, true, true, true, true, true, true, true, true, true, true, true, true, true, true, true, true, true, true, true, true, true, true, true, true, false, false, false, false, false, false]
def laws_FnUses.b41_ : Array Bool := #[true, true, true, true, true, true, true, true, true, true, true, true, true, true, true, true, true, true, true, true, true, true, true, true, true, true, true, true, true, true, true, true, true, true, true, true, true, true, true, true, true, false, false, false, false, false]
def laws_FnUses.b42_ : Array Bool := #[true, true, true, true, true, true, true, true, true, true, true, true, true, true, true, true, true, true, true, true, true, true, true, true, true, true, true, true, true, true, true, true, true, true, true, true, true, true, true, true, true, true, false, false, false, false]
def laws_FnUses.b43_ : Array Bool := #[true, true, true, true, true, true, true, true, true, true, true, true, true, true, true, true, true, true, true, true, true, true, true, true, true, true, true, true, true, true, true, true, true, true, true, true, true, true, true, true, true, true, true, false, false, false]
def laws_FnUses.b44_ : Array Bool := #[true, true, true, true, true, true, true, true, true, true, true, true, true, true, true, true, true, true, true, true, true, true, true, true, true, true, true, true, true, true, true, true, true, true, true, true, true, true, true, true, true, true, true, true, false, false]
def laws_FnUses.b45_ : Array Bool := #[true, true, true, true, true, true, true, true, true, true, true, true, true, true, true, true, true, true, true, true, true, true, true, true, true, true, true, true, true, true, true, true, true, true, true, true, true, true, true, true, true, true, true, true, true, false]
def laws_FnUses.b46_ : Array Bool := #[true, true, true, true, true, true, true, true, true, true, true, true, true, true, true, true, true, true, true, true, true, true, true, true, true, true, true, true, true, true, true, true, true, true, true, true, true, true, true, true, true, true, true, true, true, true]
def laws_FnUses.b47_ : Array Bool := #[true, true, true, false, true, false, false, false, false, false, false, false, false, false, false, false, false, false, false, false, false, false, false, false, false, false, false, false, false, false, false, false, false, false, false, false, false, false, false, false, false, false, false, false, false, false]
def laws_FnUses.b48_ : Array Bool := #[true, true, true, false, true, true, false, false, false, false, false, false, false, false, false, false, false, false, false, false, false, false, false, false, false, false, false, false, false, false, false, false, false, false, false, false, false, false, false, false, false, false, false, false, false, false]
def laws_FnUses.b49_ : Array Bool := #[true, true, true, false, true, true, true, false, false, false, false, false, false, false, false, false, false, false, false, false, false, false, false, false, false, false, false, false, false, false, false, false, false, false, false, false, false, false, false, false, false, false, false, false, false, false]
def laws_FnUses.b50_ : Array Bool := #[true, true, true, false, true, true, true, true, false, false, false, false, false, false, false, false, false, false, false, false, false, false, false, false, false, false, false, false, false, false, false, false, false, false, false, false, false, false, false, false, false, false, false, false, false, false]
def laws_FnUses.b51_ : Array Bool := #[true, true, true, false, true, true, true, true, false, false, false, true, false, false, false, false, false, false, false, false, false, false, false, false, false, false, false, false, false, false, false, false, false, false, false, false, false, false, false, false, false, false, false, false, false, false]
def laws_FnUses.b52_ : Array Bool := #[true, true, true, false, true, true, true, true, false, false, false, true, true, false, false, false, false, false, false, false, false, false, false, false, false, false, false, false, false, false, false, false, false, false, false, false, false, false, false, false, false, false, false, false, false, false]
def laws_FnUses.b53_ : Array Bool := #[true, true, true, false, true, true, true, true, false, false, false, true, true, true, false, false, false, false, false, false, false, false, false, false, false, false, false, false, false, false, false, false, false, false, false, false, false, false, false, false, false, false, false, false, false, false]
def laws_FnUses.b54_ : Array Bool := #[true, true, true, true, true, true, true, true, false, false, false, true, true, true, false, false, false, false, false, false, false, false, false, false, false, false, false, false, false, false, false, false, false, false, false, false, false, false, false, false, false, false, false, false, false, false]
def laws_FnUses.b55_ : Array Bool := #[true, true, true, true, true, true, true, true, true, false, false, true, true, true, false, false, false, false, false, false, false, false, false, false, false, false, false, false, false, false, false, false, false, false, false, false, false, false, false, false, false, false, false, false, false, false]
def laws_FnUses.b56_ : Array Bool := #[true, true, true, true, true, true, true, true, true, false, true, true, true, true, false, false, false, false, false, false, false, false, false, false, false, false, false, false, false, false, false, false, false, false, false, false, false, false, false, false, false, false, false, false, false, false]
def laws_FnUses.b57_ : Array Bool := #[true, true, true, true, true, true, true, true, true, false, true, true, true, true, true, false, false, false, false, false, false, false, false, false, false, false, false, false, false, false, false, false, false, false, false, false, false, false, false, false, false, false, false, false, false, false]
def laws_FnUses.b58_ : Array Bool := #[true, true, true, true, true, true, true, true, true, true, true, true, true, true, true, true, true, true, false, true, false, false, false, false, false, false, false, false, false, false, false, false, false, false, false, false, false, false, false, false, false, false, false, false, false, false]
def laws_FnUses.b59_ : Array Bool := #[true, true, true, true, true, true, true, true, true, true, true, true, true, true, true, true, true, true, false, true, true, false, false, false, false, false, false, false, false, false, false, false, false, false, false, false, false, false, false, false, false, false, false, false, false, false]
def laws_FnUses.b60_ : Array Bool := #[true, true, true, true, true, true, true, true, true, true, true, true, true, true, true, true, true, true, false, true, true, true, false, false, false, false, false, false, false, false, false, false, false, false, false, false, false, false, false, false, false, false, false, false, false, false]
def laws_FnUses.b61_ : Array Bool := #[true, true, true, true, true, true, true, true, true, true, true, true, true, true, true, true, true, true, false, true, true, true, true, false, false, false, false, false, false, false, false, false, false, false, false, false, false, false, false, false, false, false, false, false, false, false]
def laws_FnUses.b62_ : Array Bool := #[true, true, true, true, true, true, true, true, true, true, true, true, true, true, true, true, true, true, false, true, true, true, true, false, false, false, true, false, false, false, false, false, false, false, false, false, false, false, false, false, false, false, false, false, false, false]
def laws_FnUses.b63_ : Array Bool := #[true, true, true, true, true, true, true, true, true, true, true, true, true, true, true, true, true, true, false, true, true, true, true, false, false, false, true, true, false, false, false, false, false, false, false, false, false, false, false, false, false, false, false, false, false, false]
def laws_FnUses.b64_ : Array Bool := #[true, true, true, true, true, true, true, true, true, true, true, true, true, true, true, true, true, true, false, true, true, true, true, false, false, false, true, true, true, false, false, false, false, false, false, false, false, false, false, false, false, false, false, false, false, false]
def laws_FnUses.b65_ : Array Bool := #[true, true, true, true, true, true, true, true, true, true, true, true, true, true, true, true, true, true, true, true, true, true, true, false, false, false, true, true, true, false, false, false, false, false, false, false, false, false, false, false, false, false, false, false, false, false]
def laws_FnUses.b66_ : Array Bool := #[true, true, true, true, true, true, true, true, true, true, true, true, true, true, true, true, true, true, true, true, true, true, true, true, false, false, true, true, true, false, false, false, false, false, false, false, false, false, false, false, false, false, false, false, false, false]
def laws_FnUses.b67_ : Array Bool := #[true, true, true, true, true, true, true, true, true, true, true, true, true, true, true, true, true, true, true, true, true, true, true, true, false, true, true, true, true, false, false, false, false, false, false, false, false, false, false, false, false, false, false, false, false, false]
def laws_FnUses.b68_ : Array Bool := #[true, true, true, true, true, true, true, true, true, true, true, true, true, true, true, true, true, true, true, true, true, true, true, true, false, true, true, true, true, true, false, false, false, false, false, false, false, false, false, false, false, false, false, false, false, false]
theorem laws_FnUses.z0 {p : Prop} (h : p := by (with_reducible repeat (first | apply Kd.R_alloc | apply Kd.R_drewN | apply Kd.R_drew)); exact (Kd.R_mono (Kd.R_far (p := ⟨gb529, 3, none⟩) (Kd.R_far (p := ⟨gb529, 2, none⟩) (Kd.R_far (p := ⟨gb529, 1, none⟩) (Kd.R_far (p := ⟨gb529, 0, none⟩) (Kd.R_types HO521.out BK529.out (by decide)) (fun _ hk => hk.2) (.slice Ao14 t519.length co14)) (fun _ hk => hk.2) (.slice Ao16 t522.length co16)) (fun _ hk => hk.2) (.int .i64 t525)) (fun _ hk => hk.2) (.slice Ao17 t526.length co17)) (fun _ h_ => h_.1))) : p := h
theorem laws_FnUses.z1 {p : Prop} (h : p := by (with_reducible repeat (first | apply Kd.R_alloc | apply Kd.R_drewN | apply Kd.R_drew)); exact (Kd.R_mono (Kd.R_far (p := ⟨gb529, 3, none⟩) (Kd.R_far (p := ⟨gb529, 2, none⟩) (Kd.R_far (p := ⟨gb529, 1, none⟩) (Kd.R_far (p := ⟨gb529, 0, none⟩) (Kd.R_types HO524.out BK529.out (by decide)) (fun _ hk => hk.2) (.slice Ao14 t519.length co14)) (fun _ hk => hk.2) (.slice Ao16 t522.length co16)) (fun _ hk => hk.2) (.int .i64 t525)) (fun _ hk => hk.2) (.slice Ao17 t526.length co17)) (fun _ h_ => h_.1))) : p := h
theorem laws_FnUses.z2 {p : Prop} (h : p := by (with_reducible repeat (first | apply Kd.S_alloc | apply Kd.S_drewN | apply Kd.S_drew)); exact (Kd.S_mono (Kd.S_far (p := ⟨gb529, 3, none⟩) (Kd.S_far (p := ⟨gb529, 2, none⟩) (Kd.S_far (p := ⟨gb529, 1, none⟩) (Kd.S_far (p := ⟨gb529, 0, none⟩) (Kd.S_types HO528.out BK529.out (by decide)) (fun _ hk => hk.2) (.slice Ao14 t519.length co14)) (fun _ hk => hk.2) (.slice Ao16 t522.length co16)) (fun _ hk => hk.2) (.int .i64 t525)) (fun _ hk => hk.2) (.slice Ao17 t526.length co17)) (fun _ h_ => h_.1))) : p := h
theorem laws_FnUses.K4_ {p0 p1 p2 p3 : Prop} (h0 : p0) (h1 : p1) (h2 : p2) (h3 : p3) : Aside0 p0 ∧ Aside0 p1 ∧ Aside0 p2 ∧ Aside0 p3 := ⟨⟨h0⟩, ⟨h1⟩, ⟨h2⟩, ⟨h3⟩⟩
theorem laws_FnUses.K6_ {p0 p1 p2 p3 p4 p5 : Prop} (h0 : p0) (h1 : p1) (h2 : p2) (h3 : p3) (h4 : p4) (h5 : p5) : Aside0 p0 ∧ Aside0 p1 ∧ Aside0 p2 ∧ Aside0 p3 ∧ Aside0 p4 ∧ Aside0 p5 := ⟨⟨h0⟩, ⟨h1⟩, ⟨h2⟩, ⟨h3⟩, ⟨h4⟩, ⟨h5⟩⟩
theorem laws_FnUses.K7_ {p0 p1 p2 p3 p4 p5 p6 : Prop} (h0 : p0) (h1 : p1) (h2 : p2) (h3 : p3) (h4 : p4) (h5 : p5) (h6 : p6) : Aside0 p0 ∧ Aside0 p1 ∧ Aside0 p2 ∧ Aside0 p3 ∧ Aside0 p4 ∧ Aside0 p5 ∧ Aside0 p6 := ⟨⟨h0⟩, ⟨h1⟩, ⟨h2⟩, ⟨h3⟩, ⟨h4⟩, ⟨h5⟩, ⟨h6⟩⟩
def laws_FnUses.l0 : Nat → List Int → Int → Int → List ByteArray → List Int → Int → List (S68) → Option (Bool)
  | 0, _, _, _, _, _, _, _ => none
  | k + 1, x4, x5, x6, x530000, x530001, x530002, x530003 => if x6 < (x4.length : Int) then (if 0 ≤ x6 then ((impl_UsesOf.f k x530000 x530001 x530002 x530003 (rd x4 x6)).bind fun t542 => (if x6 > 0 then (if 0 ≤ (wrap64 (x6 - 1)) then (if (wrap64 (x6 - 1)) < (x4.length : Int) then ((impl_UsesOf.f k x530000 x530001 x530002 x530003 (rd x4 (wrap64 (x6 - 1)))).bind fun t544 => ((impl_UsesOf.f k x530000 x530001 x530002 x530003 (rd x4 x6)).bind fun t546 => (if t544 < t546 then (none) else ((impl_UsesOf.f k x530000 x530001 x530002 x530003 (rd x4 (wrap64 (x6 - 1)))).bind fun t548 => ((impl_UsesOf.f k x530000 x530001 x530002 x530003 (rd x4 x6)).bind fun t550 => (if t548 = t550 then (if (rd x4 (wrap64 (x6 - 1))) > (rd x4 x6) then (none) else (laws_FnUses.l0 k x4 (wrap64 (x5 + t542)) (wrap64 (x6 + 1)) x530000 x530001 x530002 x530003)) else (laws_FnUses.l0 k x4 (wrap64 (x5 + t542)) (wrap64 (x6 + 1)) x530000 x530001 x530002 x530003))))))) else (none)) else (none)) else (laws_FnUses.l0 k x4 (wrap64 (x5 + t542)) (wrap64 (x6 + 1)) x530000 x530001 x530002 x530003))) else (none)) else ((spec_ModelOk.f k x530000 x530001 x530002 x530003).bind fun t539 => (if t539 = true then ((impl_NodesIn.f k x530000 x530001 x530002 x530003).bind fun t540 => (some ((wrap64 (2 * x5)) == (wrap64 (t540 - (x530003.length : Int)))))) else (some true)))
def laws_FnUses.f (k : Nat) (l0 : List Int) : Option (Bool) := (laws_big.f l0).bind fun t518 => (if t518 = true then (some true) else ((spec_DrawRanked.f k l0).bind fun bt519 => ((impl_Ranked.f k bt519.1 bt519.2.1 bt519.2.2.1 bt519.2.2.2).bind fun t530 => ((spec_Ranked.f k bt519.1 bt519.2.1 bt519.2.2.1 bt519.2.2.2).bind fun t533 => ((laws_sameInts.f k t530 t533).bind fun t536 => (if t536 = true then ((impl_NodesIn.f k bt519.1 bt519.2.1 bt519.2.2.1 bt519.2.2.2).bind fun t537 => ((spec_NodesIn.f k bt519.1 bt519.2.1 bt519.2.2.1 bt519.2.2.2).bind fun t538 => (if t537 = t538 then (laws_FnUses.l0 k t530 0 0 bt519.1 bt519.2.1 bt519.2.2.1 bt519.2.2.2) else (none)))) else (none)))))))
def laws_FnUses.T5 : Bool × List (List Nat × List Nat) := (true, [([], []), ([], []), ([1], [1]), ([0, 2, 2], [0, 2]), ([3], [3]), ([4, 3], [4]), ([5], [5]), ([6, 5, 5], [5, 6]), ([5], [5]), ([8, 7, 5], [5, 8]), ([7, 9, 5], [5, 7, 9]), ([5, 10], [5, 10])])
def laws_FnUses.B5 : List Nat := [0, 0, 2, 7, 15, 31, 63, 127, 63, 511, 1023, 2047]
theorem laws_FnUses.tab5 : rtab .any (opsOf Try.f7 5) = laws_FnUses.T5 := by kernel_rfl
theorem laws_FnUses.bits5 : waitsOk laws_FnUses.T5.2 laws_FnUses.B5 = true := by kernel_rfl
def laws_FnUses.T11 : Bool × List (List Nat × List Nat) := (true, [([], []), ([], []), ([], []), ([], []), ([2, 3], [2, 3]), ([4], [4]), ([1, 5], [1, 5]), ([0, 6], [0, 6]), ([7, 6, 0, 1, 2, 3, 4, 5, 6, 7], [0, 7])])
def laws_FnUses.B11 : List Nat := [0, 0, 0, 0, 12, 28, 62, 127, 255]
theorem laws_FnUses.tab11 : rtab .any (opsOf Try.f7 11) = laws_FnUses.T11 := by kernel_rfl
theorem laws_FnUses.bits11 : waitsOk laws_FnUses.T11.2 laws_FnUses.B11 = true := by kernel_rfl
def laws_FnUses.T12 : Bool × List (List Nat × List Nat) := (true, [([], []), ([0], [0]), ([1], [1]), ([2], [2]), ([2], [2]), ([2], [2]), ([5, 2], [2, 5]), ([4, 6, 2], [2, 4, 6]), ([7, 2], [2, 7]), ([3, 8, 2, 2], [2, 3, 8]), ([2], [2]), ([2], [2]), ([2], [2]), ([11, 12, 2], [2, 11, 12]), ([13, 2], [2, 13]), ([10, 14, 9, 2], [2, 10, 14]), ([9, 15, 2], [2, 9, 15]), ([16, 15, 2], [2, 16]), ([17], [17]), ([17], [17]), ([17], [17]), ([20, 17], [17, 20]), ([19, 21, 17], [17, 19, 21]), ([22, 17], [17, 22]), ([18, 23, 17, 17], [17, 18, 23]), ([17], [17]), ([17], [17]), ([17], [17]), ([26, 27, 17], [17, 26, 27]), ([28, 17], [17, 28]), ([25, 29, 24, 17], [17, 25, 29]), ([24, 30, 17], [17, 24, 30]), ([31, 30, 17], [17, 31]), ([32], [32]), ([32], [32]), ([34, 32], [32, 34]), ([33, 35, 32], [32, 33, 35]), ([36, 32], [32, 36]), ([32], [32]), ([32], [32]), ([38, 39, 32], [32, 38, 39]), ([40, 32], [32, 40]), ([37, 41, 32], [32, 37, 41]), ([32, 42, 17], [17, 32, 42]), ([17, 43, 2], [2, 17, 43]), ([2, 44], [2, 44])])
def laws_FnUses.B12 : List Nat := [0, 1, 3, 7, 7, 7, 39, 119, 247, 511, 7, 7, 7, 6151, 14343, 32767, 65535, 131071, 262143, 262143, 262143, 1310719, 3932159, 8126463, 16777215, 262143, 262143, 262143, 201588735, 470024191, 1073741823, 2147483647, 4294967295, 8589934591, 8589934591, 25769803775, 68719476735, 137438953471, 8589934591, 8589934591, 833223655423, 1932735283199, 4398046511103, 8796093022207, 17592186044415, 35184372088831]
theorem laws_FnUses.tab12 : rtab .any (opsOf Try.f7 12) = laws_FnUses.T12 := by kernel_rfl
theorem laws_FnUses.bits12 : waitsOk laws_FnUses.T12.2 laws_FnUses.B12 = true := by kernel_rfl
def laws_FnUses.T14 : Bool × List (List Nat × List Nat) := (true, [([], []), ([0], [0]), ([1], [1]), ([2, 1], [2]), ([3], [3]), ([4, 3], [3, 4]), ([3], [3]), ([6, 3, 3], [3, 6]), ([3], [3]), ([8, 3], [3, 8]), ([9, 3], [3, 9]), ([7, 10, 3], [3, 7, 10]), ([5, 11, 3], [3, 5, 11]), ([3, 12], [3, 12]), ([13, 7, 0, 1, 2, 3, 4, 5, 6, 7, 8, 9, 10, 11, 12, 13], [13])])
def laws_FnUses.B14 : List Nat := [0, 1, 3, 7, 15, 31, 15, 79, 15, 271, 783, 1999, 4095, 8191, 16383]
theorem laws_FnUses.tab14 : rtab .any (opsOf Try.f7 14) = laws_FnUses.T14 := by kernel_rfl
theorem laws_FnUses.bits14 : waitsOk laws_FnUses.T14.2 laws_FnUses.B14 = true := by kernel_rfl
set_option maxHeartbeats 8000000 in
set_option maxRecDepth 100000 in
theorem laws_FnUses.calls (k : Nat) (A0 : Option Addr) (c0 : Nat) (l0 : List Int) (r : Bool) (w : World) (hr0 : Kd.C (Kd.int .u8) w A0 l0.length l0) (hc0 : l0.length ≤ c0) (h : laws_FnUses.f k l0 = some r) :
    Calls Try.prog 7 #[.slice A0 l0.length c0] w fun e w' => e = .returned (.bool r) ∧ Below w.heap.size w w' := by
 have hu46 := Try.underlying46
 have HR0 := Aside0.mk hr0
 have HC0 := Aside0.mk hc0
 clear hr0 hc0
 have HB := Aside0.mk (Below.refl w.heap.size w)
 have H : ((laws_big.f l0).bind fun t518 => (if t518 = true then (some true) else ((spec_DrawRanked.f k l0).bind fun bt519 => ((impl_Ranked.f k bt519.1 bt519.2.1 bt519.2.2.1 bt519.2.2.2).bind fun t530 => ((spec_Ranked.f k bt519.1 bt519.2.1 bt519.2.2.1 bt519.2.2.2).bind fun t533 => ((laws_sameInts.f k t530 t533).bind fun t536 => (if t536 = true then ((impl_NodesIn.f k bt519.1 bt519.2.1 bt519.2.2.1 bt519.2.2.2).bind fun t537 => ((spec_NodesIn.f k bt519.1 bt519.2.1 bt519.2.2.1 bt519.2.2.2).bind fun t538 => (if t537 = t538 then (laws_FnUses.l0 k t530 0 0 bt519.1 bt519.2.1 bt519.2.2.1 bt519.2.2.2) else (none)))) else (none)))))))) = some r := h
 clear h
 replace H := Option.bind_eq_some_iff.mp H
 obtain ⟨t518, A20, H⟩ := H
 replace H : (if t518 = true then (some true) else ((spec_DrawRanked.f k l0).bind fun bt519 => ((impl_Ranked.f k bt519.1 bt519.2.1 bt519.2.2.1 bt519.2.2.2).bind fun t530 => ((spec_Ranked.f k bt519.1 bt519.2.1 bt519.2.2.1 bt519.2.2.2).bind fun t533 => ((laws_sameInts.f k t530 t533).bind fun t536 => (if t536 = true then ((impl_NodesIn.f k bt519.1 bt519.2.1 bt519.2.2.1 bt519.2.2.2).bind fun t537 => ((spec_NodesIn.f k bt519.1 bt519.2.1 bt519.2.2.1 bt519.2.2.2).bind fun t538 => (if t537 = t538 then (laws_FnUses.l0 k t530 0 0 bt519.1 bt519.2.1 bt519.2.2.1 bt519.2.2.2) else (none)))) else (none))))))) = some r := H
 have A2 := Aside0.mk A20
 clear A20
 by_cases c3 : t518 = true
 case pos =>
  subst c3
  have H1 : (some true) = some r := by rw [if_pos rfl] at H; exact H
  clear H
  have H := H1
  clear H1
  obtain rfl := Option.some.inj H
  go_enter Try.func7, Try.ntmps7
  go_wp2_with (first | ((with_reducible refine gate_callee (f := 10) rfl ?_); refine goesL_ (some 8) rfl rfl Try.func10 (by kernel_rfl) rfl #[.slice A0 l0.length c0] rfl (g9) ?_; (with_reducible refine (laws_big.calls _ _ l0 true _ ?side1 ?side2 A2.out).mono ?_); (case side1 => exact g24 HR0.out); (case side2 => exact HC0.out); rintro e w' ⟨rfl, ⟨nd, rfl⟩⟩; refine ⟨_, rfl, ?_⟩))
  go_ret
  exact ⟨g5, g4 HB.out⟩
 replace c3 := Bool.eq_false_iff.mpr c3
 subst c3
 have H1 : ((spec_DrawRanked.f k l0).bind fun bt519 => ((impl_Ranked.f k bt519.1 bt519.2.1 bt519.2.2.1 bt519.2.2.2).bind fun t530 => ((spec_Ranked.f k bt519.1 bt519.2.1 bt519.2.2.1 bt519.2.2.2).bind fun t533 => ((laws_sameInts.f k t530 t533).bind fun t536 => (if t536 = true then ((impl_NodesIn.f k bt519.1 bt519.2.1 bt519.2.2.1 bt519.2.2.2).bind fun t537 => ((spec_NodesIn.f k bt519.1 bt519.2.1 bt519.2.2.1 bt519.2.2.2).bind fun t538 => (if t537 = t538 then (laws_FnUses.l0 k t530 0 0 bt519.1 bt519.2.1 bt519.2.2.1 bt519.2.2.2) else (none)))) else (none)))))) = some r := by rw [if_neg (show ¬ (false = true) by decide)] at H; exact H
 clear H
 have H := H1
 clear H1
 replace H := Option.bind_eq_some_iff.mp H
 obtain ⟨⟨t519, t522, t525, t526⟩, A40, H⟩ := H
 replace H : ((impl_Ranked.f k t519 t522 t525 t526).bind fun t530 => ((spec_Ranked.f k t519 t522 t525 t526).bind fun t533 => ((laws_sameInts.f k t530 t533).bind fun t536 => (if t536 = true then ((impl_NodesIn.f k t519 t522 t525 t526).bind fun t537 => ((spec_NodesIn.f k t519 t522 t525 t526).bind fun t538 => (if t537 = t538 then (laws_FnUses.l0 k t530 0 0 t519 t522 t525 t526) else (none)))) else (none))))) = some r := H
 have A4 := Aside0.mk A40
 clear A40
 replace H := Option.bind_eq_some_iff.mp H
 obtain ⟨t530, A50, H⟩ := H
 replace H : ((spec_Ranked.f k t519 t522 t525 t526).bind fun t533 => ((laws_sameInts.f k t530 t533).bind fun t536 => (if t536 = true then ((impl_NodesIn.f k t519 t522 t525 t526).bind fun t537 => ((spec_NodesIn.f k t519 t522 t525 t526).bind fun t538 => (if t537 = t538 then (laws_FnUses.l0 k t530 0 0 t519 t522 t525 t526) else (none)))) else (none)))) = some r := H
 have A5 := Aside0.mk A50
 clear A50
 replace H := Option.bind_eq_some_iff.mp H
 obtain ⟨t533, A60, H⟩ := H
 replace H : ((laws_sameInts.f k t530 t533).bind fun t536 => (if t536 = true then ((impl_NodesIn.f k t519 t522 t525 t526).bind fun t537 => ((spec_NodesIn.f k t519 t522 t525 t526).bind fun t538 => (if t537 = t538 then (laws_FnUses.l0 k t530 0 0 t519 t522 t525 t526) else (none)))) else (none))) = some r := H
 have A6 := Aside0.mk A60
 clear A60
 replace H := Option.bind_eq_some_iff.mp H
 obtain ⟨t536, A70, H⟩ := H
 replace H : (if t536 = true then ((impl_NodesIn.f k t519 t522 t525 t526).bind fun t537 => ((spec_NodesIn.f k t519 t522 t525 t526).bind fun t538 => (if t537 = t538 then (laws_FnUses.l0 k t530 0 0 t519 t522 t525 t526) else (none)))) else (none)) = some r := H
 have A7 := Aside0.mk A70
 clear A70
 by_cases c8 : t536 = true
 case neg =>
  replace c8 := Bool.eq_false_iff.mpr c8
  subst c8
  have H1 : (none) = some r := by rw [if_neg (show ¬ (false = true) by decide)] at H; exact H
  clear H
  have H := H1
  clear H1
  exact absurd H (by simp)
 subst c8
 have H1 : ((impl_NodesIn.f k t519 t522 t525 t526).bind fun t537 => ((spec_NodesIn.f k t519 t522 t525 t526).bind fun t538 => (if t537 = t538 then (laws_FnUses.l0 k t530 0 0 t519 t522 t525 t526) else (none)))) = some r := by rw [if_pos rfl] at H; exact H
 clear H
 have H := H1
 clear H1
 replace H := Option.bind_eq_some_iff.mp H
 obtain ⟨t537, A90, H⟩ := H
 replace H : ((spec_NodesIn.f k t519 t522 t525 t526).bind fun t538 => (if t537 = t538 then (laws_FnUses.l0 k t530 0 0 t519 t522 t525 t526) else (none))) = some r := H
 have A9 := Aside0.mk A90
 clear A90
 replace H := Option.bind_eq_some_iff.mp H
 obtain ⟨t538, A100, H⟩ := H
 replace H : (if t537 = t538 then (laws_FnUses.l0 k t530 0 0 t519 t522 t525 t526) else (none)) = some r := H
 have A10 := Aside0.mk A100
 clear A100
 by_cases c11 : t537 = t538
 case neg =>
  rw [if_neg c11] at H
  exact absurd H (by simp)
 rw [if_pos c11] at H
 have c11b0 : (t537 == t538) = true := beq_iff_eq.mpr c11
 have c11b1 : (t537 != t538) = false := bne_eq_false_iff_eq.mpr c11
 clear c11
 have H' := Aside0.mk H
 clear H
 go_enter Try.func7, Try.ntmps7
 try go_wp2_with (first | ((with_reducible refine gate_callee (f := 10) rfl ?_); refine goesL_ (some 8) rfl rfl Try.func10 (by kernel_rfl) rfl #[.slice A0 l0.length c0] rfl (g9) ?_; (with_reducible refine (laws_big.calls _ _ l0 false _ ?side1 ?side2 A2.out).mono ?_); (case side1 => exact g24 HR0.out); (case side2 => exact HC0.out); rintro e w' ⟨rfl, ⟨nd, rfl⟩⟩; refine ⟨_, rfl, ?_⟩) | ((with_reducible refine gate_callee (f := 33) rfl ?_); refine goesL_ (some 10) rfl rfl Try.func33 (by kernel_rfl) rfl #[.slice A0 l0.length c0] rfl (g9) ?_; (with_reducible refine (spec_DrawRanked.calls k _ _ l0 t519 t522 t525 t526 _ ?side1 ?side2 A4.out).mono ?_); (case side1 => exact g24 HR0.out); (case side2 => exact HC0.out); rintro e w12 ⟨v520, v523, v527, rfl, ho0, ho1, ho2, hb⟩; refine ⟨_, rfl, ?_⟩; have n_ := laws_FnUses.K4_ (Kd.R_lower ho0 (below_size (g4 HB.out))) (Kd.R_lower ho1 (below_size (g4 HB.out))) (Kd.S_lower ho2 (below_size (g4 HB.out))) (below_step (g4 HB.out) hb); clear HB; obtain ⟨HO521, HO524, HO528, HB⟩ := n_; (try clear hb); (try clear hb2); (try clear hk); (try clear hi); (try clear ho0); (try clear ho1); (try clear ho2)) | ((with_reducible refine gate_dst (N := 3) rfl ?_); (try (refine gate_guard (by rfl) ?_; dsimp only)); refine box_event ?hg (N := 3) ?hd (cs := #[.slice none 0 0, .slice none 0 0, .int .i64 0, .slice none 0 0]) (t := 46) ?hr ?_; (case hd => rfl); (case hg => rfl); (case hr => exact g10); intro gb529 hg w13 hbox hb; have n_ := laws_FnUses.K7_ (Kd.R_below (g1 HO521.out) hb) (Kd.R_below (g1 HO524.out) hb) (Kd.S_below (g25 HO528.out) hb) (below_step (g4 HB.out) hb) hbox ((g11 HB.out : w.heap.size ≤ gb529)) ((g11 HB.out : w.heap.size ≤ gb529)); clear HO521 HO524 HO528 HB; obtain ⟨HO521, HO524, HO528, HB, BK529, GW529, GE529⟩ := n_; clear hb hbox hg; obtain ⟨Ao14, co14, eo14⟩ := Kd.R_slice HO521.out; subst eo14; have hcz15_0 : w13.cell? ⟨gb529, 0, none⟩ = some (.slice none 0 0) := (blk_cell BK529.out 0).trans rfl; have hcz15_1 : w13.cell? ⟨gb529, 1, none⟩ = some (.slice none 0 0) := (blk_cell BK529.out 1).trans rfl; have hcz15_2 : w13.cell? ⟨gb529, 2, none⟩ = some (.int .i64 0) := (blk_cell BK529.out 2).trans rfl; have hcz15_3 : w13.cell? ⟨gb529, 3, none⟩ = some (.slice none 0 0) := (blk_cell BK529.out 3).trans rfl; have hfz15_0 := blk_frozen BK529.out 0; have hfz15_1 := blk_frozen BK529.out 1; have hfz15_2 := blk_frozen BK529.out 2; have hfz15_3 := blk_frozen BK529.out 3; obtain ⟨Ao16, co16, eo16⟩ := Kd.R_slice HO524.out; subst eo16; obtain ⟨Ao17, co17, eo17⟩ := Kd.S_slice HO528.out; subst eo17) | ((with_reducible refine gate_callee (f := 29) rfl ?_); refine goesL_ (some 12) rfl rfl Try.func29 (by kernel_rfl) rfl #[.agg #[.slice Ao14 t519.length co14, .slice Ao16 t522.length co16, .int .i64 t525, .slice Ao17 t526.length co17]] rfl (g9) ?_; (with_reducible refine (impl_Ranked.calls k _ _ t519 _ _ t522 t525 _ _ t526 t530 _ ?side1 ?side2 ?side3 ?side4 ?side5 ?side6 A5.out).mono ?_); (case side1 => refine (Kd.R_reads' (e := 9) (base := w.heap.size) (ok := fun k_ => True) (n := t519.length) (c := co14) ?_).2.2; exact laws_FnUses.z0); (case side2 => exact (Kd.R_reads' HO521.out).2.1); (case side3 => refine (Kd.R_reads' (e := 3) (base := w.heap.size) (ok := fun k_ => True) (n := t522.length) (c := co16) ?_).2.2; exact laws_FnUses.z1); (case side4 => exact (Kd.R_reads' HO524.out).2.1); (case side5 => refine (Kd.S_reads' (e := 68) (base := w.heap.size) (ok := fun k_ => True) (n := t526.length) (c := co17) ?_).2.2; exact laws_FnUses.z2); (case side6 => exact (Kd.S_reads' HO528.out).2.1); rintro e w18 ⟨v531, rfl, ho0, hb⟩; refine ⟨_, rfl, ?_⟩; have n_ := laws_FnUses.K6_ (Kd.R_below laws_FnUses.z0 hb) (Kd.R_elder' laws_FnUses.z1 (Kd.R_base ho0) hb) (Kd.S_below laws_FnUses.z2 hb) (Kd.R_lower (Kd.R_new' ho0 (Kd.R_lt laws_FnUses.z1)) (below_size (g12 HB.out GE529.out))) (blk_below (g := gb529) (o := .cells #[.slice Ao14 t519.length co14, .slice Ao16 t522.length co16, .int .i64 t525, .slice Ao17 t526.length co17] 46 (0, 0)) (by (with_reducible repeat (first | refine blk_drewN ?_ _ | refine blk_drew ?_ | refine blk_alloc ?_ _)); refine blk_put (cs := #[.slice Ao14 t519.length co14, .slice Ao16 t522.length co16, .int .i64 t525, .slice none 0 0]) ?_ 3 _ rfl; (with_reducible repeat (first | refine blk_drewN ?_ _ | refine blk_drew ?_ | refine blk_alloc ?_ _)); refine blk_put (cs := #[.slice Ao14 t519.length co14, .slice Ao16 t522.length co16, .int .i64 0, .slice none 0 0]) ?_ 2 _ rfl; (with_reducible repeat (first | refine blk_drewN ?_ _ | refine blk_drew ?_ | refine blk_alloc ?_ _)); refine blk_put (cs := #[.slice Ao14 t519.length co14, .slice none 0 0, .int .i64 0, .slice none 0 0]) ?_ 1 _ rfl; (with_reducible repeat (first | refine blk_drewN ?_ _ | refine blk_drew ?_ | refine blk_alloc ?_ _)); refine blk_put (cs := #[.slice none 0 0, .slice none 0 0, .int .i64 0, .slice none 0 0]) ?_ 0 _ rfl; (with_reducible repeat (first | refine blk_drewN ?_ _ | refine blk_drew ?_ | refine blk_alloc ?_ _)); exact BK529.out) hb) (below_step (g12 HB.out GE529.out) hb); clear HO521 HO524 HO528 BK529 HB; obtain ⟨HO521, HO524, HO528, HO532, BK529, HB⟩ := n_; (try clear hb); (try clear hb2); (try clear hk); (try clear hi); (try clear ho0)))
 have n_ := laws_FnUses.K6_ (Kd.R_drew HO521.out) (Kd.R_drew HO524.out) (Kd.S_drew HO528.out) (Kd.R_drew HO532.out) (blk_drew BK529.out) (below_drew1 HB.out)
 clear HO521 HO524 HO528 HO532 BK529 HB
 obtain ⟨HO521, HO524, HO528, HO532, BK529, HB⟩ := n_
 refine start_ (n := 12) (S := fun w' => w'.cell? ⟨gb529, 0, none⟩ = some (.slice Ao14 t519.length co14) ∧ w'.cell? ⟨gb529, 1, none⟩ = some (.slice Ao16 t522.length co16) ∧ w'.cell? ⟨gb529, 2, none⟩ = some (.int .i64 t525) ∧ w'.cell? ⟨gb529, 3, none⟩ = some (.slice Ao17 t526.length co17)) (ds := []) #[false, false, false, false, false, false, false, false, false, false, false, false] (by kernel_rfl) rfl rfl ⟨(blk_cell BK529.out 0).trans rfl, (blk_cell BK529.out 1).trans rfl, (blk_cell BK529.out 2).trans rfl, (blk_cell BK529.out 3).trans rfl⟩ (fun hHeld => ?_); refine with_tabW laws_FnUses.tab5 laws_FnUses.bits5 (fun HT_ HW_ => ?_)
 generalize w18.drew = w19 at HO521 HO524 HO528 HO532 BK529 HB hHeld ⊢
 refine pure_ (i := 0) (N := some 13) (v := ?_) (a' := ?_) #[true, false, false, false, false, false, false, false, false, false, false, false] rfl rfl (any_of HT_.out (by kernel_rfl)) (fun _ _ _ h => h) (Or.inl ⟨by rfl, ?_⟩) ?_ ?_
 rotate_left
 ·intro w'
  go_simp
  with_reducible rfl
 rotate_left
 ·exact ga0
 refine take_ (i := 1) (N := some 14) (v := ?_) (a' := ?_) #[true, true, false, false, false, false, false, false, false, false, false, false] rfl rfl (take_ofW HT_.out HW_.out (by kernel_rfl)) (fun _ _ _ h => h) (Or.inl ⟨by rfl, ?_⟩) hHeld ?_ ?_
 rotate_left
 ·rintro w' ⟨s0, s1, s2, s3⟩
  go_simp
  with_reducible rfl
 rotate_left
 ·exact ga0
 refine one_ (i := 2) (N := some 15) #[true, true, true, false, false, false, false, false, false, false, false, false] rfl rfl (one_of HT_.out (by kernel_rfl)) (by decide) (fun K hK => ?_)
 refine goes_ Try.func28 (by kernel_rfl) rfl #[.agg #[.slice Ao14 t519.length co14, .slice Ao16 t522.length co16, .int .i64 t525, .slice Ao17 t526.length co17]] (by rfl) rfl rfl (g9) ?_
 with_reducible refine (spec_Ranked.calls k _ _ t519 _ _ t522 t525 _ _ t526 t533 _ ?side1 ?side2 ?side3 ?side4 ?side5 ?side6 A6.out).mono ?_
 (case side1 => exact g26 HO521.out)
 (case side2 => exact (Kd.R_reads' HO521.out).2.1)
 (case side3 => exact g26 HO524.out)
 (case side4 => exact (Kd.R_reads' HO524.out).2.1)
 (case side5 => exact g27 HO528.out)
 (case side6 => exact (Kd.S_reads' HO528.out).2.1)
 rintro e w20 ⟨v534, rfl, ho0, hb⟩
 refine ⟨_, rfl, ?_⟩
 have n_ := laws_FnUses.K7_ (Kd.R_below (g1 HO521.out) hb) (Kd.R_elder' (g1 HO524.out) (Kd.R_base ho0) hb) (Kd.S_below (g25 HO528.out) hb) (Kd.R_elder' (g1 HO532.out) (Kd.R_base ho0) hb) (Kd.R_lower (Kd.R_new' (Kd.R_new' ho0 (Kd.R_lt (g1 HO524.out))) (Kd.R_lt (g1 HO532.out))) (below_size (g12 HB.out GE529.out))) (blk_below (g := gb529) (o := .cells #[.slice Ao14 t519.length co14, .slice Ao16 t522.length co16, .int .i64 t525, .slice Ao17 t526.length co17] 46 (0, 0)) (g2 BK529.out) hb) (below_step (g12 HB.out GE529.out) hb)
 clear HO521 HO524 HO528 HO532 BK529 HB
 obtain ⟨HO521, HO524, HO528, HO532, HO535, BK529, HB⟩ := n_
 (try clear hb)
 (try clear hb2)
 (try clear hk)
 (try clear hi)
 (try clear ho0)
 obtain ⟨Ao21, co21, eo21⟩ := Kd.R_slice HO532.out
 (first | subst eo21 | (injection eo21 with f1_ f2_ f3_; have f4_ := f1_.symm; have f5_ := f3_.symm; clear f1_ f2_ f3_; subst f4_; subst f5_))
 obtain ⟨Ao22, co22, eo22⟩ := Kd.R_slice HO535.out
 (first | subst eo22 | (injection eo22 with f1_ f2_ f3_; have f4_ := f1_.symm; have f5_ := f3_.symm; clear f1_ f2_ f3_; subst f4_; subst f5_))
 refine hK.out _ _ ⟨(blk_cell BK529.out 0).trans rfl, (blk_cell BK529.out 1).trans rfl, (blk_cell BK529.out 2).trans rfl, (blk_cell BK529.out 3).trans rfl⟩ (fun hHeld => ?_)
 clear hK K
 refine norm_ (a' := ?_) ?_ ?_
 rotate_left
 ·show Act.put _ (some 15) _ = _
  simp only [Act.put, List.setIfInBounds_toArray, List.set_cons_zero, List.set_cons_succ, i64_w, i32_w]
  rfl
 refine one_ (i := 3) (N := some 16) #[true, true, true, true, false, false, false, false, false, false, false, false] rfl rfl (one_of HT_.out (by kernel_rfl)) (by decide) (fun K hK => ?_)
 refine goes_ Try.func15 (by kernel_rfl) rfl #[.slice Ao21 t530.length co21, .slice Ao22 t533.length co22] (by rfl) rfl rfl (g9) ?_
 with_reducible refine (laws_sameInts.calls k _ _ t530 _ _ t533 true _ ?side1 ?side2 ?side3 ?side4 A7.out).mono ?_
 (case side1 => exact g26 HO532.out)
 (case side2 => exact (Kd.R_reads' HO532.out).2.1)
 (case side3 => exact g26 HO535.out)
 (case side4 => exact (Kd.R_reads' HO535.out).2.1)
 rintro e w' ⟨rfl, ⟨nd, rfl⟩⟩
 refine ⟨_, rfl, ?_⟩
 refine hK.out _ _ ⟨(blk_cell BK529.out 0).trans rfl, (blk_cell BK529.out 1).trans rfl, (blk_cell BK529.out 2).trans rfl, (blk_cell BK529.out 3).trans rfl⟩ (fun hHeld => ?_)
 clear hK K
 refine norm_ (a' := ?_) ?_ ?_
 rotate_left
 ·show Act.put _ (some 16) _ = _
  simp only [Act.put, List.setIfInBounds_toArray, List.set_cons_zero, List.set_cons_succ, i64_w, i32_w]
  rfl
 refine pure_ (i := 4) (N := some 17) (v := ?_) (a' := ?_) #[true, true, true, true, true, false, false, false, false, false, false, false] rfl rfl (any_of HT_.out (by kernel_rfl)) (fun _ _ _ h => h) (Or.inl ⟨by rfl, ?_⟩) ?_ ?_
 rotate_left
 ·intro w'
  go_simp
  with_reducible rfl
 rotate_left
 ·exact ga0
 refine pure_ (i := 5) (N := some 18) (v := ?_) (a' := ?_) #[true, true, true, true, true, true, false, false, false, false, false, false] rfl rfl (any_of HT_.out (by kernel_rfl)) (fun _ _ _ h => h) (Or.inl ⟨by rfl, ?_⟩) ?_ ?_
 rotate_left
 ·intro w'
  go_simp
  with_reducible rfl
 rotate_left
 ·exact ga0
 refine take_ (i := 6) (N := some 19) (v := ?_) (a' := ?_) #[true, true, true, true, true, true, true, false, false, false, false, false] rfl rfl (take_ofW HT_.out HW_.out (by kernel_rfl)) (fun _ _ _ h => h) (Or.inl ⟨by rfl, ?_⟩) hHeld ?_ ?_
 rotate_left
 ·rintro w' ⟨s0, s1, s2, s3⟩
  go_simp
  with_reducible rfl
 rotate_left
 ·exact ga0
 refine take_ (i := 8) (N := some 21) (v := ?_) (a' := ?_) #[true, true, true, true, true, true, true, false, true, false, false, false] rfl rfl (take_ofW HT_.out HW_.out (by kernel_rfl)) (fun _ _ _ h => h) (Or.inl ⟨by rfl, ?_⟩) hHeld ?_ ?_
 rotate_left
 ·rintro w' ⟨s0, s1, s2, s3⟩
  go_simp
  with_reducible rfl
 rotate_left
 ·exact ga0
 refine one_ (i := 7) (N := some 20) #[true, true, true, true, true, true, true, true, true, false, false, false] rfl rfl (one_of HT_.out (by kernel_rfl)) (by decide) (fun K hK => ?_)
 refine goes_ Try.func34 (by kernel_rfl) rfl #[.agg #[.slice Ao14 t519.length co14, .slice Ao16 t522.length co16, .int .i64 t525, .slice Ao17 t526.length co17]] (by rfl) rfl rfl (g9) ?_
 with_reducible refine (impl_NodesIn.calls k _ _ t519 _ _ t522 t525 _ _ t526 t537 _ ?side1 ?side2 ?side3 ?side4 ?side5 ?side6 A9.out).mono ?_
 (case side1 => exact g26 HO521.out)
 (case side2 => exact (Kd.R_reads' HO521.out).2.1)
 (case side3 => exact g26 HO524.out)
 (case side4 => exact (Kd.R_reads' HO524.out).2.1)
 (case side5 => exact g27 HO528.out)
 (case side6 => exact (Kd.S_reads' HO528.out).2.1)
 rintro e w23 ⟨rfl, hb⟩
 refine ⟨_, rfl, ?_⟩
 have n_ := laws_FnUses.K7_ (Kd.R_below (g1 HO521.out) hb) (Kd.R_below (g1 HO524.out) hb) (Kd.S_below (g25 HO528.out) hb) (Kd.R_below (g1 HO532.out) hb) (Kd.R_below (g1 HO535.out) hb) (blk_below (g := gb529) (o := .cells #[.slice Ao14 t519.length co14, .slice Ao16 t522.length co16, .int .i64 t525, .slice Ao17 t526.length co17] 46 (0, 0)) (g2 BK529.out) hb) (below_step (g12 HB.out GE529.out) hb)
 clear HO521 HO524 HO528 HO532 HO535 BK529 HB
 obtain ⟨HO521, HO524, HO528, HO532, HO535, BK529, HB⟩ := n_
 (try clear hb)
 (try clear hb2)
 (try clear hk)
 (try clear hi)
 refine hK.out _ _ ⟨(blk_cell BK529.out 0).trans rfl, (blk_cell BK529.out 1).trans rfl, (blk_cell BK529.out 2).trans rfl, (blk_cell BK529.out 3).trans rfl⟩ (fun hHeld => ?_)
 clear hK K
 refine norm_ (a' := ?_) ?_ ?_
 rotate_left
 ·show Act.put _ (some 20) _ = _
  simp only [Act.put, List.setIfInBounds_toArray, List.set_cons_zero, List.set_cons_succ, i64_w, i32_w]
  rfl
 refine one_ (i := 9) (N := some 22) #[true, true, true, true, true, true, true, true, true, true, false, false] rfl rfl (one_of HT_.out (by kernel_rfl)) (by decide) (fun K hK => ?_)
 refine goes_ Try.func35 (by kernel_rfl) rfl #[.agg #[.slice Ao14 t519.length co14, .slice Ao16 t522.length co16, .int .i64 t525, .slice Ao17 t526.length co17]] (by rfl) rfl rfl (g9) ?_
 with_reducible refine (spec_NodesIn.calls k _ _ t519 _ _ t522 t525 _ _ t526 t538 _ ?side1 ?side2 ?side3 ?side4 ?side5 ?side6 A10.out).mono ?_
 (case side1 => exact g26 HO521.out)
 (case side2 => exact (Kd.R_reads' HO521.out).2.1)
 (case side3 => exact g26 HO524.out)
 (case side4 => exact (Kd.R_reads' HO524.out).2.1)
 (case side5 => exact g27 HO528.out)
 (case side6 => exact (Kd.S_reads' HO528.out).2.1)
 rintro e w24 ⟨rfl, hb⟩
 refine ⟨_, rfl, ?_⟩
 have n_ := laws_FnUses.K7_ (Kd.R_below (g1 HO521.out) hb) (Kd.R_below (g1 HO524.out) hb) (Kd.S_below (g25 HO528.out) hb) (Kd.R_below (g1 HO532.out) hb) (Kd.R_below (g1 HO535.out) hb) (blk_below (g := gb529) (o := .cells #[.slice Ao14 t519.length co14, .slice Ao16 t522.length co16, .int .i64 t525, .slice Ao17 t526.length co17] 46 (0, 0)) (g2 BK529.out) hb) (below_step (g12 HB.out GE529.out) hb)
 clear HO521 HO524 HO528 HO532 HO535 BK529 HB
 obtain ⟨HO521, HO524, HO528, HO532, HO535, BK529, HB⟩ := n_
 (try clear hb)
 (try clear hb2)
 (try clear hk)
 (try clear hi)
 refine hK.out _ _ ⟨(blk_cell BK529.out 0).trans rfl, (blk_cell BK529.out 1).trans rfl, (blk_cell BK529.out 2).trans rfl, (blk_cell BK529.out 3).trans rfl⟩ (fun hHeld => ?_)
 clear hK K
 refine norm_ (a' := ?_) ?_ ?_
 rotate_left
 ·show Act.put _ (some 22) _ = _
  simp only [Act.put, List.setIfInBounds_toArray, List.set_cons_zero, List.set_cons_succ, i64_w, i32_w]
  rfl
 refine pure_ (i := 10) (N := some 23) (v := ?_) (a' := ?_) #[true, true, true, true, true, true, true, true, true, true, true, false] rfl rfl (any_of HT_.out (by kernel_rfl)) (fun _ _ _ h => h) (Or.inl ⟨by rfl, ?_⟩) ?_ ?_
 rotate_left
 ·intro w'
  go_simp
  with_reducible rfl
 rotate_left
 ·exact ga0
 refine pure_ (i := 11) (N := some 24) (v := ?_) (a' := ?_) #[true, true, true, true, true, true, true, true, true, true, true, true] rfl rfl (any_of HT_.out (by kernel_rfl)) (fun _ _ _ h => h) (Or.inl ⟨by rfl, ?_⟩) ?_ ?_
 rotate_left
 ·intro w'
  go_simp
  with_reducible rfl
 rotate_left
 ·exact ga0
 refine done_ (done_of HT_.out (by kernel_rfl)) ?_
 try go_wp2
 go_loopg [5, 6] k (fun kq v5 v6 w' => ∃ (x5_1 : Int) (x6_1 : Int), v5 = .int .i64 x5_1 ∧ v6 = .int .i64 x6_1 ∧ Aside0 (laws_FnUses.l0 kq t530 x5_1 x6_1 t519 t522 t525 t526 = some r) ∧ Aside0 (kq ≤ k) ∧ Aside0 (Kd.R (Kd.int .i64) 3 w' w.heap.size (fun k_ => some k_ ≠ ((.slice Ao16 t522.length co16) : Value).ownBlock) (.slice Ao21 t530.length co21) t530) ∧ Aside0 (Kd.R Kd.string 9 w' w.heap.size (fun _ => True) (.slice Ao14 t519.length co14) t519) ∧ Aside0 (Kd.R (Kd.int .i64) 3 w' w.heap.size (fun k_ => some k_ ≠ ((.slice Ao21 t530.length co21) : Value).ownBlock) (.slice Ao16 t522.length co16) t522) ∧ Aside0 (Kd.S k68 68 w' w.heap.size (fun _ => True) (.slice Ao17 t526.length co17) t526) ∧ Aside0 (w'.heap[gb529]? = some (.cells #[(.slice Ao14 t519.length co14), (.slice Ao16 t522.length co16), .int .i64 t525, (.slice Ao17 t526.length co17)] 46 (0, 0))) ∧ Aside0 (Below w.heap.size w w'))
 case atStart => exact ⟨(0), (0), (g0), (g0), H', ⟨Nat.le_refl _⟩, ⟨by (with_reducible repeat (first | apply Kd.R_alloc | apply Kd.R_drewN | apply Kd.R_drew)); exact Kd.R_mono HO532.out (fun _ hk => hk.1.2)⟩, ⟨g1 HO521.out⟩, ⟨by (with_reducible repeat (first | apply Kd.R_alloc | apply Kd.R_drewN | apply Kd.R_drew)); exact Kd.R_mono HO524.out (fun _ hk => hk.1.2)⟩, ⟨g25 HO528.out⟩, ⟨g2 BK529.out⟩, ⟨g12 HB.out GE529.out⟩⟩
 case round =>
  clear H'
  try clear c1
  try clear c2
  try clear p2
  try clear c3
  try clear c7
  try clear c8
  try clear c10
  try clear c11
  try clear c11b0
  try clear c11b1
  try clear c15
  try clear hcz15_0
  try clear hcz15_1
  try clear hcz15_2
  try clear hcz15_3
  try clear hfz15_0
  try clear hfz15_1
  try clear hfz15_2
  try clear hfz15_3
  obtain ⟨x5_1, x6_1, rfl, rfl, HA, HK1, HO_4, HO_530000, HO_530001, HO_530003, BK529, HB⟩ := hrel
  cases gk with
  | zero => exact absurd HA.out (by simp [laws_FnUses.l0])
  | succ k1 =>
   have H := HA.out
   clear HA
   simp only [laws_FnUses.l0] at H
   by_cases c25 : x6_1 < (t530.length : Int)
   case neg =>
    rw [if_neg c25] at H
    have c25b0 : decide (x6_1 < (t530.length : Int)) = false := decide_eq_false c25
    clear c25
    replace H := Option.bind_eq_some_iff.mp H
    obtain ⟨t539, A560, H⟩ := H
    replace H : (if t539 = true then ((impl_NodesIn.f k1 t519 t522 t525 t526).bind fun t540 => (some ((wrap64 (2 * x5_1)) == (wrap64 (t540 - (t526.length : Int)))))) else (some true)) = some r := H
    have A56 := Aside0.mk A560
    clear A560
    by_cases c57 : t539 = true
    case neg =>
     replace c57 := Bool.eq_false_iff.mpr c57
     subst c57
     have H1 : (some true) = some r := by rw [if_neg (show ¬ (false = true) by decide)] at H; exact H
     clear H
     have H := H1
     clear H1
     obtain rfl := Option.some.inj H
     try go_wp2
     have n_ := laws_FnUses.K6_ (Kd.R_drew HO_4.out) (Kd.R_drew HO_530000.out) (Kd.R_drew HO_530001.out) (Kd.S_drew HO_530003.out) (blk_drew BK529.out) (below_drew1 HB.out)
     clear HO_4 HO_530000 HO_530001 HO_530003 BK529 HB
     obtain ⟨HO_4, HO_530000, HO_530001, HO_530003, BK529, HB⟩ := n_
     refine start_ (n := 15) (S := fun w' => w'.cell? ⟨gb529, 0, none⟩ = some (.slice Ao14 t519.length co14) ∧ w'.cell? ⟨gb529, 1, none⟩ = some (.slice Ao16 t522.length co16) ∧ w'.cell? ⟨gb529, 2, none⟩ = some (.int .i64 t525) ∧ w'.cell? ⟨gb529, 3, none⟩ = some (.slice Ao17 t526.length co17)) (ds := []) laws_FnUses.b0_ (by kernel_rfl) rfl rfl ⟨(blk_cell BK529.out 0).trans rfl, (blk_cell BK529.out 1).trans rfl, (blk_cell BK529.out 2).trans rfl, (blk_cell BK529.out 3).trans rfl⟩ (fun hHeld => ?_); refine with_tabW laws_FnUses.tab14 laws_FnUses.bits14 (fun HT_ HW_ => ?_)
     generalize wr.drew = w62 at HO_4 HO_530000 HO_530001 HO_530003 BK529 HB hHeld ⊢
     refine take_ (i := 0) (N := some 85) (v := ?_) (a' := ?_) laws_FnUses.b1_ rfl rfl (take_ofW HT_.out HW_.out (by kernel_rfl)) (fun _ _ _ h => h) (Or.inl ⟨by rfl, ?_⟩) hHeld ?_ ?_
     rotate_left
     ·rintro w' ⟨s0, s1, s2, s3⟩
      go_simp
      with_reducible rfl
     rotate_left
     ·exact ga0
     refine one_ (i := 1) (N := some 86) laws_FnUses.b2_ rfl rfl (one_of HT_.out (by kernel_rfl)) (by decide) (fun K hK => ?_)
     refine goes_ Try.func37 (by kernel_rfl) rfl #[.agg #[.slice Ao14 t519.length co14, .slice Ao16 t522.length co16, .int .i64 t525, .slice Ao17 t526.length co17]] (by rfl) rfl rfl (g9) ?_
     with_reducible refine (spec_ModelOk.calls k1 _ _ t519 _ _ t522 t525 _ _ t526 false _ ?side1 ?side2 ?side3 ?side4 ?side5 ?side6 A56.out).mono ?_
     (case side1 => exact g26 HO_530000.out)
     (case side2 => exact (Kd.R_reads' HO_530000.out).2.1)
     (case side3 => exact g26 HO_530001.out)
     (case side4 => exact (Kd.R_reads' HO_530001.out).2.1)
     (case side5 => exact g27 HO_530003.out)
     (case side6 => exact (Kd.S_reads' HO_530003.out).2.1)
     rintro e w63 ⟨rfl, hb⟩
     refine ⟨_, rfl, ?_⟩
     have n_ := laws_FnUses.K6_ (Kd.R_below (g1 HO_4.out) hb) (Kd.R_below (g1 HO_530000.out) hb) (Kd.R_below (g1 HO_530001.out) hb) (Kd.S_below (g25 HO_530003.out) hb) (blk_below (g := gb529) (o := .cells #[.slice Ao14 t519.length co14, .slice Ao16 t522.length co16, .int .i64 t525, .slice Ao17 t526.length co17] 46 (0, 0)) (g2 BK529.out) hb) (below_step (g12 HB.out GE529.out) hb)
     clear HO_4 HO_530000 HO_530001 HO_530003 BK529 HB
     obtain ⟨HO_4, HO_530000, HO_530001, HO_530003, BK529, HB⟩ := n_
     (try clear hb)
     (try clear hb2)
     (try clear hk)
     (try clear hi)
     refine hK.out _ _ ⟨(blk_cell BK529.out 0).trans rfl, (blk_cell BK529.out 1).trans rfl, (blk_cell BK529.out 2).trans rfl, (blk_cell BK529.out 3).trans rfl⟩ (fun hHeld => ?_)
     clear hK K
     refine norm_ (a' := ?_) ?_ ?_
     rotate_left
     ·show Act.put _ (some 86) _ = _
      simp only [Act.put, List.setIfInBounds_toArray, List.set_cons_zero, List.set_cons_succ, i64_w, i32_w]
      rfl
     refine pure_ (i := 2) (N := some 87) (v := ?_) (a' := ?_) laws_FnUses.b3_ rfl rfl (any_of HT_.out (by kernel_rfl)) (fun _ _ _ h => h) (Or.inl ⟨by rfl, ?_⟩) ?_ ?_
     rotate_left
     ·intro w'
      go_simp
      with_reducible rfl
     rotate_left
     ·exact ga0
     refine pure_ (i := 3) (N := some 88) (v := ?_) (a' := ?_) laws_FnUses.b4_ rfl rfl (any_of HT_.out (by kernel_rfl)) (fun _ _ _ h => h) (Or.inl ⟨by rfl, ?_⟩) ?_ ?_
     rotate_left
     ·intro w'
      go_simp
      with_reducible rfl
     rotate_left
     ·exact ga0
     refine pure_ (i := 4) (N := some 89) (v := undef) (a' := ?_) laws_FnUses.b5_ rfl rfl (any_of HT_.out (by kernel_rfl)) (fun _ _ _ h => h) (Or.inr ⟨by rfl, rfl⟩) ?_ ?_
     rotate_left
     ·exact ga0
     refine pure_ (i := 5) (N := some 90) (v := undef) (a' := ?_) laws_FnUses.b6_ rfl rfl (any_of HT_.out (by kernel_rfl)) (fun _ _ _ h => h) (Or.inr ⟨by rfl, rfl⟩) ?_ ?_
     rotate_left
     ·exact ga0
     refine pure_ (i := 6) (N := some 91) (v := undef) (a' := ?_) #[true, true, true, true, true, true, true, false, false, false, false, false, false, false, false] rfl rfl (any_of HT_.out (by kernel_rfl)) (fun _ _ _ h => h) (Or.inr ⟨by rfl, rfl⟩) ?_ ?_
     rotate_left
     ·exact ga0
     refine pure_ (i := 7) (N := some 92) (v := undef) (a' := ?_) #[true, true, true, true, true, true, true, true, false, false, false, false, false, false, false] rfl rfl (any_of HT_.out (by kernel_rfl)) (fun _ _ _ h => h) (Or.inr ⟨by rfl, rfl⟩) ?_ ?_
     rotate_left
     ·exact ga0
     refine pure_ (i := 8) (N := some 93) (v := undef) (a' := ?_) #[true, true, true, true, true, true, true, true, true, false, false, false, false, false, false] rfl rfl (any_of HT_.out (by kernel_rfl)) (fun _ _ _ h => h) (Or.inr ⟨by rfl, rfl⟩) ?_ ?_
     rotate_left
     ·exact ga0
     refine pure_ (i := 9) (N := some 94) (v := undef) (a' := ?_) #[true, true, true, true, true, true, true, true, true, true, false, false, false, false, false] rfl rfl (any_of HT_.out (by kernel_rfl)) (fun _ _ _ h => h) (Or.inr ⟨by rfl, rfl⟩) ?_ ?_
     rotate_left
     ·exact ga0
     refine pure_ (i := 10) (N := some 95) (v := undef) (a' := ?_) laws_FnUses.b7_ rfl rfl (any_of HT_.out (by kernel_rfl)) (fun _ _ _ h => h) (Or.inr ⟨by rfl, rfl⟩) ?_ ?_
     rotate_left
     ·exact ga0
     refine pure_ (i := 11) (N := some 96) (v := undef) (a' := ?_) laws_FnUses.b8_ rfl rfl (any_of HT_.out (by kernel_rfl)) (fun _ _ _ h => h) (Or.inr ⟨by rfl, rfl⟩) ?_ ?_
     rotate_left
     ·exact ga0
     refine pure_ (i := 12) (N := some 97) (v := undef) (a' := ?_) laws_FnUses.b9_ rfl rfl (any_of HT_.out (by kernel_rfl)) (fun _ _ _ h => h) (Or.inr ⟨by rfl, rfl⟩) ?_ ?_
     rotate_left
     ·exact ga0
     refine pure_ (i := 13) (N := some 98) (v := ?_) (a' := ?_) laws_FnUses.b10_ rfl rfl (any_of HT_.out (by kernel_rfl)) (fun _ _ _ h => h) (Or.inl ⟨by rfl, ?_⟩) ?_ ?_
     rotate_left
     ·intro w'
      go_simp
      with_reducible rfl
     rotate_left
     ·exact ga0
     refine pure_ (i := 14) (N := some 2) (v := ?_) (a' := ?_) laws_FnUses.b11_ rfl rfl (any_of HT_.out (by kernel_rfl)) (fun _ _ _ h => h) (Or.inl ⟨by rfl, ?_⟩) ?_ ?_
     rotate_left
     ·intro w'
      go_simp
      with_reducible rfl
     rotate_left
     ·exact ga0
     refine done_ (done_of HT_.out (by kernel_rfl)) ?_
     try go_wp2
     go_ret
     exact ⟨g5, g12 HB.out GE529.out⟩
    subst c57
    have H1 : ((impl_NodesIn.f k1 t519 t522 t525 t526).bind fun t540 => (some ((wrap64 (2 * x5_1)) == (wrap64 (t540 - (t526.length : Int)))))) = some r := by rw [if_pos rfl] at H; exact H
    clear H
    have H := H1
    clear H1
    replace H := Option.bind_eq_some_iff.mp H
    obtain ⟨t540, A580, H⟩ := H
    replace H : (some ((wrap64 (2 * x5_1)) == (wrap64 (t540 - (t526.length : Int))))) = some r := H
    have A58 := Aside0.mk A580
    clear A580
    obtain rfl := Option.some.inj H
    try go_wp2
    have n_ := laws_FnUses.K6_ (Kd.R_drew HO_4.out) (Kd.R_drew HO_530000.out) (Kd.R_drew HO_530001.out) (Kd.S_drew HO_530003.out) (blk_drew BK529.out) (below_drew1 HB.out)
    clear HO_4 HO_530000 HO_530001 HO_530003 BK529 HB
    obtain ⟨HO_4, HO_530000, HO_530001, HO_530003, BK529, HB⟩ := n_
    refine start_ (n := 15) (S := fun w' => w'.cell? ⟨gb529, 0, none⟩ = some (.slice Ao14 t519.length co14) ∧ w'.cell? ⟨gb529, 1, none⟩ = some (.slice Ao16 t522.length co16) ∧ w'.cell? ⟨gb529, 2, none⟩ = some (.int .i64 t525) ∧ w'.cell? ⟨gb529, 3, none⟩ = some (.slice Ao17 t526.length co17)) (ds := []) laws_FnUses.b0_ (by kernel_rfl) rfl rfl ⟨(blk_cell BK529.out 0).trans rfl, (blk_cell BK529.out 1).trans rfl, (blk_cell BK529.out 2).trans rfl, (blk_cell BK529.out 3).trans rfl⟩ (fun hHeld => ?_); refine with_tabW laws_FnUses.tab14 laws_FnUses.bits14 (fun HT_ HW_ => ?_)
    generalize wr.drew = w59 at HO_4 HO_530000 HO_530001 HO_530003 BK529 HB hHeld ⊢
    refine take_ (i := 0) (N := some 85) (v := ?_) (a' := ?_) laws_FnUses.b1_ rfl rfl (take_ofW HT_.out HW_.out (by kernel_rfl)) (fun _ _ _ h => h) (Or.inl ⟨by rfl, ?_⟩) hHeld ?_ ?_
    rotate_left
    ·rintro w' ⟨s0, s1, s2, s3⟩
     go_simp
     with_reducible rfl
    rotate_left
    ·exact ga0
    refine one_ (i := 1) (N := some 86) laws_FnUses.b2_ rfl rfl (one_of HT_.out (by kernel_rfl)) (by decide) (fun K hK => ?_)
    refine goes_ Try.func37 (by kernel_rfl) rfl #[.agg #[.slice Ao14 t519.length co14, .slice Ao16 t522.length co16, .int .i64 t525, .slice Ao17 t526.length co17]] (by rfl) rfl rfl (g9) ?_
    with_reducible refine (spec_ModelOk.calls k1 _ _ t519 _ _ t522 t525 _ _ t526 true _ ?side1 ?side2 ?side3 ?side4 ?side5 ?side6 A56.out).mono ?_
    (case side1 => exact g26 HO_530000.out)
    (case side2 => exact (Kd.R_reads' HO_530000.out).2.1)
    (case side3 => exact g26 HO_530001.out)
    (case side4 => exact (Kd.R_reads' HO_530001.out).2.1)
    (case side5 => exact g27 HO_530003.out)
    (case side6 => exact (Kd.S_reads' HO_530003.out).2.1)
    rintro e w60 ⟨rfl, hb⟩
    refine ⟨_, rfl, ?_⟩
    have n_ := laws_FnUses.K6_ (Kd.R_below (g1 HO_4.out) hb) (Kd.R_below (g1 HO_530000.out) hb) (Kd.R_below (g1 HO_530001.out) hb) (Kd.S_below (g25 HO_530003.out) hb) (blk_below (g := gb529) (o := .cells #[.slice Ao14 t519.length co14, .slice Ao16 t522.length co16, .int .i64 t525, .slice Ao17 t526.length co17] 46 (0, 0)) (g2 BK529.out) hb) (below_step (g12 HB.out GE529.out) hb)
    clear HO_4 HO_530000 HO_530001 HO_530003 BK529 HB
    obtain ⟨HO_4, HO_530000, HO_530001, HO_530003, BK529, HB⟩ := n_
    (try clear hb)
    (try clear hb2)
    (try clear hk)
    (try clear hi)
    refine hK.out _ _ ⟨(blk_cell BK529.out 0).trans rfl, (blk_cell BK529.out 1).trans rfl, (blk_cell BK529.out 2).trans rfl, (blk_cell BK529.out 3).trans rfl⟩ (fun hHeld => ?_)
    clear hK K
    refine norm_ (a' := ?_) ?_ ?_
    rotate_left
    ·show Act.put _ (some 86) _ = _
     simp only [Act.put, List.setIfInBounds_toArray, List.set_cons_zero, List.set_cons_succ, i64_w, i32_w]
     rfl
    refine pure_ (i := 2) (N := some 87) (v := ?_) (a' := ?_) laws_FnUses.b3_ rfl rfl (any_of HT_.out (by kernel_rfl)) (fun _ _ _ h => h) (Or.inl ⟨by rfl, ?_⟩) ?_ ?_
    rotate_left
    ·intro w'
     go_simp
     with_reducible rfl
    rotate_left
    ·exact ga0
    refine pure_ (i := 3) (N := some 88) (v := ?_) (a' := ?_) laws_FnUses.b4_ rfl rfl (any_of HT_.out (by kernel_rfl)) (fun _ _ _ h => h) (Or.inl ⟨by rfl, ?_⟩) ?_ ?_
    rotate_left
    ·intro w'
     go_simp
     with_reducible rfl
    rotate_left
    ·exact ga0
    refine pure_ (i := 4) (N := some 89) (v := ?_) (a' := ?_) laws_FnUses.b5_ rfl rfl (any_of HT_.out (by kernel_rfl)) (fun _ _ _ h => h) (Or.inl ⟨by rfl, ?_⟩) ?_ ?_
    rotate_left
    ·intro w'
     go_simp
     with_reducible rfl
    rotate_left
    ·exact ga0
    refine pure_ (i := 5) (N := some 90) (v := ?_) (a' := ?_) laws_FnUses.b6_ rfl rfl (any_of HT_.out (by kernel_rfl)) (fun _ _ _ h => h) (Or.inl ⟨by rfl, ?_⟩) ?_ ?_
    rotate_left
    ·intro w'
     go_simp
     with_reducible rfl
    rotate_left
    ·exact ga0
    refine pure_ (i := 8) (N := some 93) (v := ?_) (a' := ?_) #[true, true, true, true, true, true, false, false, true, false, false, false, false, false, false] rfl rfl (any_of HT_.out (by kernel_rfl)) (fun _ _ _ h => h) (Or.inl ⟨by rfl, ?_⟩) ?_ ?_
    rotate_left
    ·intro w'
     go_simp
     with_reducible rfl
    rotate_left
    ·exact ga0
    refine take_ (i := 6) (N := some 91) (v := ?_) (a' := ?_) #[true, true, true, true, true, true, true, false, true, false, false, false, false, false, false] rfl rfl (take_ofW HT_.out HW_.out (by kernel_rfl)) (fun _ _ _ h => h) (Or.inl ⟨by rfl, ?_⟩) hHeld ?_ ?_
    rotate_left
    ·rintro w' ⟨s0, s1, s2, s3⟩
     go_simp
     with_reducible rfl
    rotate_left
    ·exact ga0
    refine take_ (i := 9) (N := some 94) (v := ?_) (a' := ?_) #[true, true, true, true, true, true, true, false, true, true, false, false, false, false, false] rfl rfl (take_ofW HT_.out HW_.out (by kernel_rfl)) (fun _ _ _ h => h) (Or.inl ⟨by rfl, ?_⟩) hHeld ?_ ?_
    rotate_left
    ·rintro w' ⟨s0, s1, s2, s3⟩
     go_simp
     with_reducible rfl
    rotate_left
    ·exact ga0
    refine pure_ (i := 10) (N := some 95) (v := ?_) (a' := ?_) #[true, true, true, true, true, true, true, false, true, true, true, false, false, false, false] rfl rfl (any_of HT_.out (by kernel_rfl)) (fun _ _ _ h => h) (Or.inl ⟨by rfl, ?_⟩) ?_ ?_
    rotate_left
    ·intro w'
     go_simp
     with_reducible rfl
    rotate_left
    ·exact ga0
    refine one_ (i := 7) (N := some 92) laws_FnUses.b7_ rfl rfl (one_of HT_.out (by kernel_rfl)) (by decide) (fun K hK => ?_)
    refine goes_ Try.func34 (by kernel_rfl) rfl #[.agg #[.slice Ao14 t519.length co14, .slice Ao16 t522.length co16, .int .i64 t525, .slice Ao17 t526.length co17]] (by rfl) rfl rfl (g9) ?_
    with_reducible refine (impl_NodesIn.calls k1 _ _ t519 _ _ t522 t525 _ _ t526 t540 _ ?side1 ?side2 ?side3 ?side4 ?side5 ?side6 A58.out).mono ?_
    (case side1 => exact g26 HO_530000.out)
    (case side2 => exact (Kd.R_reads' HO_530000.out).2.1)
    (case side3 => exact g26 HO_530001.out)
    (case side4 => exact (Kd.R_reads' HO_530001.out).2.1)
    (case side5 => exact g27 HO_530003.out)
    (case side6 => exact (Kd.S_reads' HO_530003.out).2.1)
    rintro e w61 ⟨rfl, hb⟩
    refine ⟨_, rfl, ?_⟩
    have n_ := laws_FnUses.K6_ (Kd.R_below (g1 HO_4.out) hb) (Kd.R_below (g1 HO_530000.out) hb) (Kd.R_below (g1 HO_530001.out) hb) (Kd.S_below (g25 HO_530003.out) hb) (blk_below (g := gb529) (o := .cells #[.slice Ao14 t519.length co14, .slice Ao16 t522.length co16, .int .i64 t525, .slice Ao17 t526.length co17] 46 (0, 0)) (g2 BK529.out) hb) (below_step (g12 HB.out GE529.out) hb)
    clear HO_4 HO_530000 HO_530001 HO_530003 BK529 HB
    obtain ⟨HO_4, HO_530000, HO_530001, HO_530003, BK529, HB⟩ := n_
    (try clear hb)
    (try clear hb2)
    (try clear hk)
    (try clear hi)
    refine hK.out _ _ ⟨(blk_cell BK529.out 0).trans rfl, (blk_cell BK529.out 1).trans rfl, (blk_cell BK529.out 2).trans rfl, (blk_cell BK529.out 3).trans rfl⟩ (fun hHeld => ?_)
    clear hK K
    refine norm_ (a' := ?_) ?_ ?_
    rotate_left
    ·show Act.put _ (some 92) _ = _
     simp only [Act.put, List.setIfInBounds_toArray, List.set_cons_zero, List.set_cons_succ, i64_w, i32_w]
     rfl
    refine pure_ (i := 11) (N := some 96) (v := ?_) (a' := ?_) laws_FnUses.b8_ rfl rfl (any_of HT_.out (by kernel_rfl)) (fun _ _ _ h => h) (Or.inl ⟨by rfl, ?_⟩) ?_ ?_
    rotate_left
    ·intro w'
     go_simp
     with_reducible rfl
    rotate_left
    ·exact ga0
    refine pure_ (i := 12) (N := some 97) (v := ?_) (a' := ?_) laws_FnUses.b9_ rfl rfl (any_of HT_.out (by kernel_rfl)) (fun _ _ _ h => h) (Or.inl ⟨by rfl, ?_⟩) ?_ ?_
    rotate_left
    ·intro w'
     go_simp
     with_reducible rfl
    rotate_left
    ·exact ga0
    refine pure_ (i := 13) (N := some 98) (v := ?_) (a' := ?_) laws_FnUses.b10_ rfl rfl (any_of HT_.out (by kernel_rfl)) (fun _ _ _ h => h) (Or.inl ⟨by rfl, ?_⟩) ?_ ?_
    rotate_left
    ·intro w'
     go_simp
     with_reducible rfl
    rotate_left
    ·exact ga0
    refine pure_ (i := 14) (N := some 2) (v := ?_) (a' := ?_) laws_FnUses.b11_ rfl rfl (any_of HT_.out (by kernel_rfl)) (fun _ _ _ h => h) (Or.inl ⟨by rfl, ?_⟩) ?_ ?_
    rotate_left
    ·intro w'
     go_simp
     with_reducible rfl
    rotate_left
    ·exact ga0
    refine done_ (done_of HT_.out (by kernel_rfl)) ?_
    try go_wp2
    go_ret
    exact ⟨g5, g12 HB.out GE529.out⟩
   rw [if_pos c25] at H
   have c25b0 : decide (x6_1 < (t530.length : Int)) = true := decide_eq_true c25
   clear c25
   by_cases c26 : 0 ≤ x6_1
   case neg =>
    rw [if_neg c26] at H
    exact absurd H (by simp)
   rw [if_pos c26] at H
   have c26b0 : decide (0 ≤ x6_1) = true := decide_eq_true c26
   clear c26
   replace H := Option.bind_eq_some_iff.mp H
   obtain ⟨t542, A270, H⟩ := H
   replace H : (if x6_1 > 0 then (if 0 ≤ (wrap64 (x6_1 - 1)) then (if (wrap64 (x6_1 - 1)) < (t530.length : Int) then ((impl_UsesOf.f k1 t519 t522 t525 t526 (rd t530 (wrap64 (x6_1 - 1)))).bind fun t544 => ((impl_UsesOf.f k1 t519 t522 t525 t526 (rd t530 x6_1)).bind fun t546 => (if t544 < t546 then (none) else ((impl_UsesOf.f k1 t519 t522 t525 t526 (rd t530 (wrap64 (x6_1 - 1)))).bind fun t548 => ((impl_UsesOf.f k1 t519 t522 t525 t526 (rd t530 x6_1)).bind fun t550 => (if t548 = t550 then (if (rd t530 (wrap64 (x6_1 - 1))) > (rd t530 x6_1) then (none) else (laws_FnUses.l0 k1 t530 (wrap64 (x5_1 + t542)) (wrap64 (x6_1 + 1)) t519 t522 t525 t526)) else (laws_FnUses.l0 k1 t530 (wrap64 (x5_1 + t542)) (wrap64 (x6_1 + 1)) t519 t522 t525 t526))))))) else (none)) else (none)) else (laws_FnUses.l0 k1 t530 (wrap64 (x5_1 + t542)) (wrap64 (x6_1 + 1)) t519 t522 t525 t526)) = some r := H
   have A27 := Aside0.mk A270
   clear A270
   by_cases c28 : x6_1 > 0
   case neg =>
    rw [if_neg c28] at H
    have c28b0 : decide (0 < x6_1) = false := decide_eq_false c28
    clear c28
    have H' := Aside0.mk H
    clear H
    try go_wp2
    have n_ := laws_FnUses.K6_ (Kd.R_drew HO_4.out) (Kd.R_drew HO_530000.out) (Kd.R_drew HO_530001.out) (Kd.S_drew HO_530003.out) (blk_drew BK529.out) (below_drew1 HB.out)
    clear HO_4 HO_530000 HO_530001 HO_530003 BK529 HB
    obtain ⟨HO_4, HO_530000, HO_530001, HO_530003, BK529, HB⟩ := n_
    have p541 : 0 ≤ (x6_1 : Int) := of_decide_eq_true (g6)
    have q541 : x6_1 < (t530.length : Int) := of_decide_eq_true (g6)
    obtain ⟨ad541, e541, hx541_0⟩ := Kd.at_int (Kd.R_reads' HO_4.out).2.2 x6_1 p541 q541
    cases e541
    replace p541 := eq_true p541
    replace q541 := eq_true q541
    refine start_ (n := 9) (S := fun w' => w'.cell? ⟨gb529, 0, none⟩ = some (.slice Ao14 t519.length co14) ∧ w'.cell? ⟨gb529, 1, none⟩ = some (.slice Ao16 t522.length co16) ∧ w'.cell? ⟨gb529, 2, none⟩ = some (.int .i64 t525) ∧ w'.cell? ⟨gb529, 3, none⟩ = some (.slice Ao17 t526.length co17) ∧ w'.cell? (ad541.add (x6_1).toNat) = some (.int .i64 (rd t530 x6_1))) (ds := []) laws_FnUses.b12_ (by kernel_rfl) rfl rfl ⟨(blk_cell BK529.out 0).trans rfl, (blk_cell BK529.out 1).trans rfl, (blk_cell BK529.out 2).trans rfl, (blk_cell BK529.out 3).trans rfl, hx541_0⟩ (fun hHeld => ?_); refine with_tabW laws_FnUses.tab11 laws_FnUses.bits11 (fun HT_ HW_ => ?_)
    generalize wr.drew = w53 at HO_4 HO_530000 HO_530001 HO_530003 BK529 HB hx541_0 hHeld ⊢
    refine pure_ (i := 0) (N := some 31) (v := ?_) (a' := ?_) laws_FnUses.b13_ rfl rfl (any_of HT_.out (by kernel_rfl)) (fun _ _ _ h => h) (Or.inl ⟨by rfl, ?_⟩) ?_ ?_
    rotate_left
    ·intro w'
     go_simp
     with_reducible rfl
    rotate_left
    ·exact ga0
    refine pure_ (i := 2) (N := some 33) (v := ?_) (a' := ?_) laws_FnUses.b14_ rfl rfl (any_of HT_.out (by kernel_rfl)) (fun _ _ _ h => h) (Or.inl ⟨by rfl, ?_⟩) ?_ ?_
    rotate_left
    ·intro w'
     go_simp
     with_reducible rfl
    rotate_left
    ·exact ga0
    refine pure_ (i := 3) (N := some 34) (v := ?_) (a' := ?_) laws_FnUses.b15_ rfl rfl (any_of HT_.out (by kernel_rfl)) (fun _ _ _ h => h) (Or.inl ⟨by rfl, ?_⟩) ?_ ?_
    rotate_left
    ·intro w'
     go_simp
     with_reducible rfl
    rotate_left
    ·exact ga0
    refine pure_ (i := 4) (N := some 35) (v := ?_) (a' := ?_) laws_FnUses.b16_ rfl rfl (any_of HT_.out (by kernel_rfl)) (fun _ _ _ h => h) (Or.inl ⟨by rfl, ?_⟩) ?_ ?_
    rotate_left
    ·intro w'
     go_simp
     with_reducible rfl
    rotate_left
    ·exact ga0
    refine take_ (i := 1) (N := some 32) (v := ?_) (a' := ?_) laws_FnUses.b17_ rfl rfl (take_ofW HT_.out HW_.out (by kernel_rfl)) (fun _ _ _ h => h) (Or.inl ⟨by rfl, ?_⟩) hHeld ?_ ?_
    rotate_left
    ·rintro w' ⟨s0, s1, s2, s3, s4⟩
     go_simp
     with_reducible rfl
    rotate_left
    ·exact ga0
    refine take_ (i := 5) (N := some 36) (v := ?_) (a' := ?_) laws_FnUses.b18_ rfl rfl (take_ofW HT_.out HW_.out (by kernel_rfl)) (fun _ _ _ h => h) (Or.inl ⟨by rfl, ?_⟩) hHeld ?_ ?_
    rotate_left
    ·rintro w' ⟨s0, s1, s2, s3, s4⟩
     go_simp
     with_reducible rfl
    rotate_left
    ·exact ga0
    refine one_ (i := 6) (N := some 37) laws_FnUses.b19_ rfl rfl (one_of HT_.out (by kernel_rfl)) (by decide) (fun K hK => ?_)
    refine goes_ Try.func36 (by kernel_rfl) rfl #[.agg #[.slice Ao14 t519.length co14, .slice Ao16 t522.length co16, .int .i64 t525, .slice Ao17 t526.length co17], .int .i64 (rd t530 x6_1)] (by rfl) rfl rfl (g9) ?_
    with_reducible refine (impl_UsesOf.calls k1 _ _ t519 _ _ t522 t525 _ _ t526 (rd t530 x6_1) t542 _ ?side1 ?side2 ?side3 ?side4 ?side5 ?side6 A27.out).mono ?_
    (case side1 => exact g26 HO_530000.out)
    (case side2 => exact (Kd.R_reads' HO_530000.out).2.1)
    (case side3 => exact g26 HO_530001.out)
    (case side4 => exact (Kd.R_reads' HO_530001.out).2.1)
    (case side5 => exact g27 HO_530003.out)
    (case side6 => exact (Kd.S_reads' HO_530003.out).2.1)
    rintro e w54 ⟨rfl, hb⟩
    have HS4_ := (hb.cell (World.block_lt_of_cell? _ _ (hHeld.2.2.2.2))).trans (hHeld.2.2.2.2)
    refine ⟨_, rfl, ?_⟩
    have n_ := laws_FnUses.K6_ (Kd.R_below (g1 HO_4.out) hb) (Kd.R_below (g1 HO_530000.out) hb) (Kd.R_below (g1 HO_530001.out) hb) (Kd.S_below (g25 HO_530003.out) hb) (blk_below (g := gb529) (o := .cells #[.slice Ao14 t519.length co14, .slice Ao16 t522.length co16, .int .i64 t525, .slice Ao17 t526.length co17] 46 (0, 0)) (g2 BK529.out) hb) (below_step (g12 HB.out GE529.out) hb)
    clear HO_4 HO_530000 HO_530001 HO_530003 BK529 HB
    obtain ⟨HO_4, HO_530000, HO_530001, HO_530003, BK529, HB⟩ := n_
    (try clear hb)
    (try clear hb2)
    (try clear hk)
    (try clear hi)
    refine hK.out _ _ ⟨(blk_cell BK529.out 0).trans rfl, (blk_cell BK529.out 1).trans rfl, (blk_cell BK529.out 2).trans rfl, (blk_cell BK529.out 3).trans rfl, HS4_⟩ (fun hHeld => ?_)
    clear hK K
    refine norm_ (a' := ?_) ?_ ?_
    rotate_left
    ·show Act.put _ (some 37) _ = _
     simp only [Act.put, List.setIfInBounds_toArray, List.set_cons_zero, List.set_cons_succ, i64_w, i32_w]
     rfl
    refine pure_ (i := 7) (N := some 38) (v := ?_) (a' := ?_) laws_FnUses.b20_ rfl rfl (any_of HT_.out (by kernel_rfl)) (fun _ _ _ h => h) (Or.inl ⟨by rfl, ?_⟩) ?_ ?_
    rotate_left
    ·intro w'
     go_simp
     with_reducible rfl
    rotate_left
    ·exact ga0
    refine pure_ (i := 8) (N := some 5) (v := ?_) (a' := ?_) laws_FnUses.b21_ rfl rfl (any_of HT_.out (by kernel_rfl)) (fun _ _ _ h => h) (Or.inl ⟨by rfl, ?_⟩) ?_ ?_
    rotate_left
    ·intro w'
     go_simp
     with_reducible rfl
    rotate_left
    ·exact ga0
    refine done_ (done_of HT_.out (by kernel_rfl)) ?_
    try go_wp2
    have n_ := laws_FnUses.K6_ (Kd.R_drew HO_4.out) (Kd.R_drew HO_530000.out) (Kd.R_drew HO_530001.out) (Kd.S_drew HO_530003.out) (blk_drew BK529.out) (below_drew1 HB.out)
    clear HO_4 HO_530000 HO_530001 HO_530003 BK529 HB
    obtain ⟨HO_4, HO_530000, HO_530001, HO_530003, BK529, HB⟩ := n_
    refine start_ (n := 46) (S := fun w' => True) (ds := []) laws_FnUses.b22_ (by kernel_rfl) rfl rfl trivial (fun hHeld => ?_); refine with_tabW laws_FnUses.tab12 laws_FnUses.bits12 (fun HT_ HW_ => ?_)
    generalize w54.drew = w55 at HO_4 HO_530000 HO_530001 HO_530003 BK529 HB hHeld ⊢
    refine pure_ (i := 0) (N := some 39) (v := ?_) (a' := ?_) laws_FnUses.b23_ rfl rfl (any_of HT_.out (by kernel_rfl)) (fun _ _ _ h => h) (Or.inl ⟨by rfl, ?_⟩) ?_ ?_
    rotate_left
    ·intro w'
     go_simp
     with_reducible rfl
    rotate_left
    ·exact ga0
    refine pure_ (i := 1) (N := some 40) (v := ?_) (a' := ?_) laws_FnUses.b24_ rfl rfl (any_of HT_.out (by kernel_rfl)) (fun _ _ _ h => h) (Or.inl ⟨by rfl, ?_⟩) ?_ ?_
    rotate_left
    ·intro w'
     go_simp
     with_reducible rfl
    rotate_left
    ·exact ga0
    refine pure_ (i := 2) (N := some 41) (v := ?_) (a' := ?_) laws_FnUses.b25_ rfl rfl (any_of HT_.out (by kernel_rfl)) (fun _ _ _ h => h) (Or.inl ⟨by rfl, ?_⟩) ?_ ?_
    rotate_left
    ·intro w'
     go_simp
     with_reducible rfl
    rotate_left
    ·exact ga0
    refine pure_ (i := 3) (N := some 42) (v := undef) (a' := ?_) #[true, true, true, true, false, false, false, false, false, false, false, false, false, false, false, false, false, false, false, false, false, false, false, false, false, false, false, false, false, false, false, false, false, false, false, false, false, false, false, false, false, false, false, false, false, false] rfl rfl (any_of HT_.out (by kernel_rfl)) (fun _ _ _ h => h) (Or.inr ⟨by rfl, rfl⟩) ?_ ?_
    rotate_left
    ·exact ga0
    refine pure_ (i := 4) (N := some 43) (v := undef) (a' := ?_) #[true, true, true, true, true, false, false, false, false, false, false, false, false, false, false, false, false, false, false, false, false, false, false, false, false, false, false, false, false, false, false, false, false, false, false, false, false, false, false, false, false, false, false, false, false, false] rfl rfl (any_of HT_.out (by kernel_rfl)) (fun _ _ _ h => h) (Or.inr ⟨by rfl, rfl⟩) ?_ ?_
    rotate_left
    ·exact ga0
    refine pure_ (i := 5) (N := some 44) (v := undef) (a' := ?_) #[true, true, true, true, true, true, false, false, false, false, false, false, false, false, false, false, false, false, false, false, false, false, false, false, false, false, false, false, false, false, false, false, false, false, false, false, false, false, false, false, false, false, false, false, false, false] rfl rfl (any_of HT_.out (by kernel_rfl)) (fun _ _ _ h => h) (Or.inr ⟨by rfl, rfl⟩) ?_ ?_
    rotate_left
    ·exact ga0
    refine pure_ (i := 6) (N := some 45) (v := undef) (a' := ?_) #[true, true, true, true, true, true, true, false, false, false, false, false, false, false, false, false, false, false, false, false, false, false, false, false, false, false, false, false, false, false, false, false, false, false, false, false, false, false, false, false, false, false, false, false, false, false] rfl rfl (any_of HT_.out (by kernel_rfl)) (fun _ _ _ h => h) (Or.inr ⟨by rfl, rfl⟩) ?_ ?_
    rotate_left
    ·exact ga0
    refine pure_ (i := 7) (N := some 46) (v := undef) (a' := ?_) #[true, true, true, true, true, true, true, true, false, false, false, false, false, false, false, false, false, false, false, false, false, false, false, false, false, false, false, false, false, false, false, false, false, false, false, false, false, false, false, false, false, false, false, false, false, false] rfl rfl (any_of HT_.out (by kernel_rfl)) (fun _ _ _ h => h) (Or.inr ⟨by rfl, rfl⟩) ?_ ?_
    rotate_left
    ·exact ga0
    refine pure_ (i := 8) (N := some 47) (v := undef) (a' := ?_) #[true, true, true, true, true, true, true, true, true, false, false, false, false, false, false, false, false, false, false, false, false, false, false, false, false, false, false, false, false, false, false, false, false, false, false, false, false, false, false, false, false, false, false, false, false, false] rfl rfl (any_of HT_.out (by kernel_rfl)) (fun _ _ _ h => h) (Or.inr ⟨by rfl, rfl⟩) ?_ ?_
    rotate_left
    ·exact ga0
    refine pure_ (i := 9) (N := some 48) (v := undef) (a' := ?_) #[true, true, true, true, true, true, true, true, true, true, false, false, false, false, false, false, false, false, false, false, false, false, false, false, false, false, false, false, false, false, false, false, false, false, false, false, false, false, false, false, false, false, false, false, false, false] rfl rfl (any_of HT_.out (by kernel_rfl)) (fun _ _ _ h => h) (Or.inr ⟨by rfl, rfl⟩) ?_ ?_
    rotate_left
    ·exact ga0
    refine pure_ (i := 10) (N := some 49) (v := undef) (a' := ?_) #[true, true, true, true, true, true, true, true, true, true, true, false, false, false, false, false, false, false, false, false, false, false, false, false, false, false, false, false, false, false, false, false, false, false, false, false, false, false, false, false, false, false, false, false, false, false] rfl rfl (any_of HT_.out (by kernel_rfl)) (fun _ _ _ h => h) (Or.inr ⟨by rfl, rfl⟩) ?_ ?_
    rotate_left
    ·exact ga0
    refine pure_ (i := 11) (N := some 50) (v := undef) (a' := ?_) #[true, true, true, true, true, true, true, true, true, true, true, true, false, false, false, false, false, false, false, false, false, false, false, false, false, false, false, false, false, false, false, false, false, false, false, false, false, false, false, false, false, false, false, false, false, false] rfl rfl (any_of HT_.out (by kernel_rfl)) (fun _ _ _ h => h) (Or.inr ⟨by rfl, rfl⟩) ?_ ?_
    rotate_left
    ·exact ga0
    refine pure_ (i := 12) (N := some 51) (v := undef) (a' := ?_) #[true, true, true, true, true, true, true, true, true, true, true, true, true, false, false, false, false, false, false, false, false, false, false, false, false, false, false, false, false, false, false, false, false, false, false, false, false, false, false, false, false, false, false, false, false, false] rfl rfl (any_of HT_.out (by kernel_rfl)) (fun _ _ _ h => h) (Or.inr ⟨by rfl, rfl⟩) ?_ ?_
    rotate_left
    ·exact ga0
    refine pure_ (i := 13) (N := some 52) (v := undef) (a' := ?_) #[true, true, true, true, true, true, true, true, true, true, true, true, true, true, false, false, false, false, false, false, false, false, false, false, false, false, false, false, false, false, false, false, false, false, false, false, false, false, false, false, false, false, false, false, false, false] rfl rfl (any_of HT_.out (by kernel_rfl)) (fun _ _ _ h => h) (Or.inr ⟨by rfl, rfl⟩) ?_ ?_
    rotate_left
    ·exact ga0
    refine pure_ (i := 14) (N := some 53) (v := undef) (a' := ?_) laws_FnUses.b26_ rfl rfl (any_of HT_.out (by kernel_rfl)) (fun _ _ _ h => h) (Or.inr ⟨by rfl, rfl⟩) ?_ ?_
    rotate_left
    ·exact ga0
    refine pure_ (i := 15) (N := some 54) (v := undef) (a' := ?_) laws_FnUses.b27_ rfl rfl (any_of HT_.out (by kernel_rfl)) (fun _ _ _ h => h) (Or.inr ⟨by rfl, rfl⟩) ?_ ?_
    rotate_left
    ·exact ga0
    refine pure_ (i := 16) (N := some 55) (v := undef) (a' := ?_) laws_FnUses.b28_ rfl rfl (any_of HT_.out (by kernel_rfl)) (fun _ _ _ h => h) (Or.inr ⟨by rfl, rfl⟩) ?_ ?_
    rotate_left
    ·exact ga0
    refine pure_ (i := 17) (N := some 56) (v := undef) (a' := ?_) laws_FnUses.b29_ rfl rfl (any_of HT_.out (by kernel_rfl)) (fun _ _ _ h => h) (Or.inr ⟨by rfl, rfl⟩) ?_ ?_
    rotate_left
    ·exact ga0
    refine pure_ (i := 18) (N := some 57) (v := undef) (a' := ?_) #[true, true, true, true, true, true, true, true, true, true, true, true, true, true, true, true, true, true, true, false, false, false, false, false, false, false, false, false, false, false, false, false, false, false, false, false, false, false, false, false, false, false, false, false, false, false] rfl rfl (any_of HT_.out (by kernel_rfl)) (fun _ _ _ h => h) (Or.inr ⟨by rfl, rfl⟩) ?_ ?_
    rotate_left
    ·exact ga0
    refine pure_ (i := 19) (N := some 58) (v := undef) (a' := ?_) #[true, true, true, true, true, true, true, true, true, true, true, true, true, true, true, true, true, true, true, true, false, false, false, false, false, false, false, false, false, false, false, false, false, false, false, false, false, false, false, false, false, false, false, false, false, false] rfl rfl (any_of HT_.out (by kernel_rfl)) (fun _ _ _ h => h) (Or.inr ⟨by rfl, rfl⟩) ?_ ?_
    rotate_left
    ·exact ga0
    refine pure_ (i := 20) (N := some 59) (v := undef) (a' := ?_) #[true, true, true, true, true, true, true, true, true, true, true, true, true, true, true, true, true, true, true, true, true, false, false, false, false, false, false, false, false, false, false, false, false, false, false, false, false, false, false, false, false, false, false, false, false, false] rfl rfl (any_of HT_.out (by kernel_rfl)) (fun _ _ _ h => h) (Or.inr ⟨by rfl, rfl⟩) ?_ ?_
    rotate_left
    ·exact ga0
    refine pure_ (i := 21) (N := some 60) (v := undef) (a' := ?_) #[true, true, true, true, true, true, true, true, true, true, true, true, true, true, true, true, true, true, true, true, true, true, false, false, false, false, false, false, false, false, false, false, false, false, false, false, false, false, false, false, false, false, false, false, false, false] rfl rfl (any_of HT_.out (by kernel_rfl)) (fun _ _ _ h => h) (Or.inr ⟨by rfl, rfl⟩) ?_ ?_
    rotate_left
    ·exact ga0
    refine pure_ (i := 22) (N := some 61) (v := undef) (a' := ?_) #[true, true, true, true, true, true, true, true, true, true, true, true, true, true, true, true, true, true, true, true, true, true, true, false, false, false, false, false, false, false, false, false, false, false, false, false, false, false, false, false, false, false, false, false, false, false] rfl rfl (any_of HT_.out (by kernel_rfl)) (fun _ _ _ h => h) (Or.inr ⟨by rfl, rfl⟩) ?_ ?_
    rotate_left
    ·exact ga0
    refine pure_ (i := 23) (N := some 62) (v := undef) (a' := ?_) #[true, true, true, true, true, true, true, true, true, true, true, true, true, true, true, true, true, true, true, true, true, true, true, true, false, false, false, false, false, false, false, false, false, false, false, false, false, false, false, false, false, false, false, false, false, false] rfl rfl (any_of HT_.out (by kernel_rfl)) (fun _ _ _ h => h) (Or.inr ⟨by rfl, rfl⟩) ?_ ?_
    rotate_left
    ·exact ga0
    refine pure_ (i := 24) (N := some 63) (v := undef) (a' := ?_) #[true, true, true, true, true, true, true, true, true, true, true, true, true, true, true, true, true, true, true, true, true, true, true, true, true, false, false, false, false, false, false, false, false, false, false, false, false, false, false, false, false, false, false, false, false, false] rfl rfl (any_of HT_.out (by kernel_rfl)) (fun _ _ _ h => h) (Or.inr ⟨by rfl, rfl⟩) ?_ ?_
    rotate_left
    ·exact ga0
    refine pure_ (i := 25) (N := some 64) (v := undef) (a' := ?_) #[true, true, true, true, true, true, true, true, true, true, true, true, true, true, true, true, true, true, true, true, true, true, true, true, true, true, false, false, false, false, false, false, false, false, false, false, false, false, false, false, false, false, false, false, false, false] rfl rfl (any_of HT_.out (by kernel_rfl)) (fun _ _ _ h => h) (Or.inr ⟨by rfl, rfl⟩) ?_ ?_
    rotate_left
    ·exact ga0
    refine pure_ (i := 26) (N := some 65) (v := undef) (a' := ?_) #[true, true, true, true, true, true, true, true, true, true, true, true, true, true, true, true, true, true, true, true, true, true, true, true, true, true, true, false, false, false, false, false, false, false, false, false, false, false, false, false, false, false, false, false, false, false] rfl rfl (any_of HT_.out (by kernel_rfl)) (fun _ _ _ h => h) (Or.inr ⟨by rfl, rfl⟩) ?_ ?_
    rotate_left
    ·exact ga0
    refine pure_ (i := 27) (N := some 66) (v := undef) (a' := ?_) #[true, true, true, true, true, true, true, true, true, true, true, true, true, true, true, true, true, true, true, true, true, true, true, true, true, true, true, true, false, false, false, false, false, false, false, false, false, false, false, false, false, false, false, false, false, false] rfl rfl (any_of HT_.out (by kernel_rfl)) (fun _ _ _ h => h) (Or.inr ⟨by rfl, rfl⟩) ?_ ?_
    rotate_left
    ·exact ga0
    refine pure_ (i := 28) (N := some 67) (v := undef) (a' := ?_) #[true, true, true, true, true, true, true, true, true, true, true, true, true, true, true, true, true, true, true, true, true, true, true, true, true, true, true, true, true, false, false, false, false, false, false, false, false, false, false, false, false, false, false, false, false, false] rfl rfl (any_of HT_.out (by kernel_rfl)) (fun _ _ _ h => h) (Or.inr ⟨by rfl, rfl⟩) ?_ ?_
    rotate_left
    ·exact ga0
    refine pure_ (i := 29) (N := some 68) (v := undef) (a' := ?_) laws_FnUses.b30_ rfl rfl (any_of HT_.out (by kernel_rfl)) (fun _ _ _ h => h) (Or.inr ⟨by rfl, rfl⟩) ?_ ?_
    rotate_left
    ·exact ga0
    refine pure_ (i := 30) (N := some 69) (v := undef) (a' := ?_) laws_FnUses.b31_ rfl rfl (any_of HT_.out (by kernel_rfl)) (fun _ _ _ h => h) (Or.inr ⟨by rfl, rfl⟩) ?_ ?_
    rotate_left
    ·exact ga0
    refine pure_ (i := 31) (N := some 70) (v := undef) (a' := ?_) laws_FnUses.b32_ rfl rfl (any_of HT_.out (by kernel_rfl)) (fun _ _ _ h => h) (Or.inr ⟨by rfl, rfl⟩) ?_ ?_
    rotate_left
    ·exact ga0
    refine pure_ (i := 32) (N := some 71) (v := undef) (a' := ?_) laws_FnUses.b33_ rfl rfl (any_of HT_.out (by kernel_rfl)) (fun _ _ _ h => h) (Or.inr ⟨by rfl, rfl⟩) ?_ ?_
    rotate_left
    ·exact ga0
    refine pure_ (i := 33) (N := some 72) (v := undef) (a' := ?_) laws_FnUses.b34_ rfl rfl (any_of HT_.out (by kernel_rfl)) (fun _ _ _ h => h) (Or.inr ⟨by rfl, rfl⟩) ?_ ?_
    rotate_left
    ·exact ga0
    refine pure_ (i := 34) (N := some 73) (v := undef) (a' := ?_) laws_FnUses.b35_ rfl rfl (any_of HT_.out (by kernel_rfl)) (fun _ _ _ h => h) (Or.inr ⟨by rfl, rfl⟩) ?_ ?_
    rotate_left
    ·exact ga0
    refine pure_ (i := 35) (N := some 74) (v := undef) (a' := ?_) laws_FnUses.b36_ rfl rfl (any_of HT_.out (by kernel_rfl)) (fun _ _ _ h => h) (Or.inr ⟨by rfl, rfl⟩) ?_ ?_
    rotate_left
    ·exact ga0
    refine pure_ (i := 36) (N := some 75) (v := undef) (a' := ?_) laws_FnUses.b37_ rfl rfl (any_of HT_.out (by kernel_rfl)) (fun _ _ _ h => h) (Or.inr ⟨by rfl, rfl⟩) ?_ ?_
    rotate_left
    ·exact ga0
    refine pure_ (i := 37) (N := some 76) (v := undef) (a' := ?_) laws_FnUses.b38_ rfl rfl (any_of HT_.out (by kernel_rfl)) (fun _ _ _ h => h) (Or.inr ⟨by rfl, rfl⟩) ?_ ?_
    rotate_left
    ·exact ga0
    refine pure_ (i := 38) (N := some 77) (v := undef) (a' := ?_) laws_FnUses.b39_ rfl rfl (any_of HT_.out (by kernel_rfl)) (fun _ _ _ h => h) (Or.inr ⟨by rfl, rfl⟩) ?_ ?_
    rotate_left
    ·exact ga0
    refine pure_ (i := 39) (N := some 78) (v := undef) (a' := ?_) laws_FnUses.b40_ rfl rfl (any_of HT_.out (by kernel_rfl)) (fun _ _ _ h => h) (Or.inr ⟨by rfl, rfl⟩) ?_ ?_
    rotate_left
    ·exact ga0
    refine pure_ (i := 40) (N := some 79) (v := undef) (a' := ?_) laws_FnUses.b41_ rfl rfl (any_of HT_.out (by kernel_rfl)) (fun _ _ _ h => h) (Or.inr ⟨by rfl, rfl⟩) ?_ ?_
    rotate_left
    ·exact ga0
    refine pure_ (i := 41) (N := some 80) (v := undef) (a' := ?_) laws_FnUses.b42_ rfl rfl (any_of HT_.out (by kernel_rfl)) (fun _ _ _ h => h) (Or.inr ⟨by rfl, rfl⟩) ?_ ?_
    rotate_left
    ·exact ga0
    refine pure_ (i := 42) (N := some 81) (v := undef) (a' := ?_) laws_FnUses.b43_ rfl rfl (any_of HT_.out (by kernel_rfl)) (fun _ _ _ h => h) (Or.inr ⟨by rfl, rfl⟩) ?_ ?_
    rotate_left
    ·exact ga0
    refine pure_ (i := 43) (N := some 82) (v := undef) (a' := ?_) laws_FnUses.b44_ rfl rfl (any_of HT_.out (by kernel_rfl)) (fun _ _ _ h => h) (Or.inr ⟨by rfl, rfl⟩) ?_ ?_
    rotate_left
    ·exact ga0
    refine pure_ (i := 44) (N := some 83) (v := undef) (a' := ?_) laws_FnUses.b45_ rfl rfl (any_of HT_.out (by kernel_rfl)) (fun _ _ _ h => h) (Or.inr ⟨by rfl, rfl⟩) ?_ ?_
    rotate_left
    ·exact ga0
    refine pure_ (i := 45) (N := some 84) (v := ?_) (a' := ?_) laws_FnUses.b46_ rfl rfl (any_of HT_.out (by kernel_rfl)) (fun _ _ _ h => h) (Or.inl ⟨by rfl, ?_⟩) ?_ ?_
    rotate_left
    ·intro w'
     go_simp
     with_reducible rfl
    rotate_left
    ·exact ga0
    refine done_ (done_of HT_.out (by kernel_rfl)) ?_
    try go_wp2
    go_roundg k1
    case measure => have := HK1.out; omega
    case rel => exact ⟨(wrap64 (x5_1 + t542)), (wrap64 (x6_1 + 1)), (g0), (g0), H', ⟨by have := HK1.out; omega⟩, ⟨g1 HO_4.out⟩, ⟨g1 HO_530000.out⟩, ⟨g1 HO_530001.out⟩, ⟨g25 HO_530003.out⟩, ⟨g2 BK529.out⟩, ⟨g12 HB.out GE529.out⟩⟩
   rw [if_pos c28] at H
   have c28b0 : decide (0 < x6_1) = true := decide_eq_true c28
   clear c28
   obtain ⟨ji29, hji29⟩ : ∃ j_ : Int, (wrap64 (x6_1 - 1)) = j_ := ⟨_, rfl⟩
   replace H : (if 0 ≤ (ji29) then (if (ji29) < (t530.length : Int) then ((impl_UsesOf.f k1 t519 t522 t525 t526 (rd t530 (ji29))).bind fun t544 => ((impl_UsesOf.f k1 t519 t522 t525 t526 (rd t530 x6_1)).bind fun t546 => (if t544 < t546 then (none) else ((impl_UsesOf.f k1 t519 t522 t525 t526 (rd t530 (ji29))).bind fun t548 => ((impl_UsesOf.f k1 t519 t522 t525 t526 (rd t530 x6_1)).bind fun t550 => (if t548 = t550 then (if (rd t530 (ji29)) > (rd t530 x6_1) then (none) else (laws_FnUses.l0 k1 t530 (wrap64 (x5_1 + t542)) (wrap64 (x6_1 + 1)) t519 t522 t525 t526)) else (laws_FnUses.l0 k1 t530 (wrap64 (x5_1 + t542)) (wrap64 (x6_1 + 1)) t519 t522 t525 t526))))))) else (none)) else (none)) = some r := by first | (rw [hji29] at H; exact H) | (simp only [hji29] at H ⊢; exact H)
   (try rw [hji29] at A27)
   have hji29w : (IntKind.i64.wrap (x6_1 - 1)) = ji29 := (i64_w _).trans hji29
   by_cases c30 : 0 ≤ (ji29)
   case neg =>
    rw [if_neg c30] at H
    exact absurd H (by simp)
   rw [if_pos c30] at H
   have c30b0 : decide (0 ≤ (ji29)) = true := decide_eq_true c30
   clear c30
   by_cases c31 : (ji29) < (t530.length : Int)
   case neg =>
    rw [if_neg c31] at H
    exact absurd H (by simp)
   rw [if_pos c31] at H
   have c31b0 : decide ((ji29) < (t530.length : Int)) = true := decide_eq_true c31
   clear c31
   replace H := Option.bind_eq_some_iff.mp H
   obtain ⟨t544, A320, H⟩ := H
   replace H : ((impl_UsesOf.f k1 t519 t522 t525 t526 (rd t530 x6_1)).bind fun t546 => (if t544 < t546 then (none) else ((impl_UsesOf.f k1 t519 t522 t525 t526 (rd t530 (ji29))).bind fun t548 => ((impl_UsesOf.f k1 t519 t522 t525 t526 (rd t530 x6_1)).bind fun t550 => (if t548 = t550 then (if (rd t530 (ji29)) > (rd t530 x6_1) then (none) else (laws_FnUses.l0 k1 t530 (wrap64 (x5_1 + t542)) (wrap64 (x6_1 + 1)) t519 t522 t525 t526)) else (laws_FnUses.l0 k1 t530 (wrap64 (x5_1 + t542)) (wrap64 (x6_1 + 1)) t519 t522 t525 t526)))))) = some r := H
   have A32 := Aside0.mk A320
   clear A320
   replace H := Option.bind_eq_some_iff.mp H
   obtain ⟨t546, A330, H⟩ := H
   replace H : (if t544 < t546 then (none) else ((impl_UsesOf.f k1 t519 t522 t525 t526 (rd t530 (ji29))).bind fun t548 => ((impl_UsesOf.f k1 t519 t522 t525 t526 (rd t530 x6_1)).bind fun t550 => (if t548 = t550 then (if (rd t530 (ji29)) > (rd t530 x6_1) then (none) else (laws_FnUses.l0 k1 t530 (wrap64 (x5_1 + t542)) (wrap64 (x6_1 + 1)) t519 t522 t525 t526)) else (laws_FnUses.l0 k1 t530 (wrap64 (x5_1 + t542)) (wrap64 (x6_1 + 1)) t519 t522 t525 t526))))) = some r := H
   have A33 := Aside0.mk A330
   clear A330
   by_cases c34 : t544 < t546
   case pos =>
    rw [if_pos c34] at H
    have c34b0 : decide (t544 < t546) = true := decide_eq_true c34
    clear c34
    exact absurd H (by simp)
   rw [if_neg c34] at H
   have c34b0 : decide (t544 < t546) = false := decide_eq_false c34
   clear c34
   replace H := Option.bind_eq_some_iff.mp H
   obtain ⟨t548, A350, H⟩ := H
   replace H : ((impl_UsesOf.f k1 t519 t522 t525 t526 (rd t530 x6_1)).bind fun t550 => (if t548 = t550 then (if (rd t530 (ji29)) > (rd t530 x6_1) then (none) else (laws_FnUses.l0 k1 t530 (wrap64 (x5_1 + t542)) (wrap64 (x6_1 + 1)) t519 t522 t525 t526)) else (laws_FnUses.l0 k1 t530 (wrap64 (x5_1 + t542)) (wrap64 (x6_1 + 1)) t519 t522 t525 t526))) = some r := H
   have A35 := Aside0.mk A350
   clear A350
   replace H := Option.bind_eq_some_iff.mp H
   obtain ⟨t550, A360, H⟩ := H
   replace H : (if t548 = t550 then (if (rd t530 (ji29)) > (rd t530 x6_1) then (none) else (laws_FnUses.l0 k1 t530 (wrap64 (x5_1 + t542)) (wrap64 (x6_1 + 1)) t519 t522 t525 t526)) else (laws_FnUses.l0 k1 t530 (wrap64 (x5_1 + t542)) (wrap64 (x6_1 + 1)) t519 t522 t525 t526)) = some r := H
   have A36 := Aside0.mk A360
   clear A360
   by_cases c37 : t548 = t550
   case neg =>
    rw [if_neg c37] at H
    have c37b0 : (t548 == t550) = false := beq_eq_false_iff_ne.mpr c37
    have c37b1 : (t548 != t550) = true := bne_iff_ne.mpr c37
    have H' := Aside0.mk H
    clear H
    try go_wp2
    have n_ := laws_FnUses.K6_ (Kd.R_drew HO_4.out) (Kd.R_drew HO_530000.out) (Kd.R_drew HO_530001.out) (Kd.S_drew HO_530003.out) (blk_drew BK529.out) (below_drew1 HB.out)
    clear HO_4 HO_530000 HO_530001 HO_530003 BK529 HB
    obtain ⟨HO_4, HO_530000, HO_530001, HO_530003, BK529, HB⟩ := n_
    have p541 : 0 ≤ (x6_1 : Int) := of_decide_eq_true (g6)
    have q541 : x6_1 < (t530.length : Int) := of_decide_eq_true (g6)
    obtain ⟨ad541, e541, hx541_0⟩ := Kd.at_int (Kd.R_reads' HO_4.out).2.2 x6_1 p541 q541
    cases e541
    replace p541 := eq_true p541
    replace q541 := eq_true q541
    refine start_ (n := 9) (S := fun w' => w'.cell? ⟨gb529, 0, none⟩ = some (.slice Ao14 t519.length co14) ∧ w'.cell? ⟨gb529, 1, none⟩ = some (.slice Ao16 t522.length co16) ∧ w'.cell? ⟨gb529, 2, none⟩ = some (.int .i64 t525) ∧ w'.cell? ⟨gb529, 3, none⟩ = some (.slice Ao17 t526.length co17) ∧ w'.cell? (ad541.add (x6_1).toNat) = some (.int .i64 (rd t530 x6_1))) (ds := []) laws_FnUses.b12_ (by kernel_rfl) rfl rfl ⟨(blk_cell BK529.out 0).trans rfl, (blk_cell BK529.out 1).trans rfl, (blk_cell BK529.out 2).trans rfl, (blk_cell BK529.out 3).trans rfl, hx541_0⟩ (fun hHeld => ?_); refine with_tabW laws_FnUses.tab11 laws_FnUses.bits11 (fun HT_ HW_ => ?_)
    generalize wr.drew = w46 at HO_4 HO_530000 HO_530001 HO_530003 BK529 HB hx541_0 hHeld ⊢
    refine pure_ (i := 0) (N := some 31) (v := ?_) (a' := ?_) laws_FnUses.b13_ rfl rfl (any_of HT_.out (by kernel_rfl)) (fun _ _ _ h => h) (Or.inl ⟨by rfl, ?_⟩) ?_ ?_
    rotate_left
    ·intro w'
     go_simp
     with_reducible rfl
    rotate_left
    ·exact ga0
    refine pure_ (i := 2) (N := some 33) (v := ?_) (a' := ?_) laws_FnUses.b14_ rfl rfl (any_of HT_.out (by kernel_rfl)) (fun _ _ _ h => h) (Or.inl ⟨by rfl, ?_⟩) ?_ ?_
    rotate_left
    ·intro w'
     go_simp
     with_reducible rfl
    rotate_left
    ·exact ga0
    refine pure_ (i := 3) (N := some 34) (v := ?_) (a' := ?_) laws_FnUses.b15_ rfl rfl (any_of HT_.out (by kernel_rfl)) (fun _ _ _ h => h) (Or.inl ⟨by rfl, ?_⟩) ?_ ?_
    rotate_left
    ·intro w'
     go_simp
     with_reducible rfl
    rotate_left
    ·exact ga0
    refine pure_ (i := 4) (N := some 35) (v := ?_) (a' := ?_) laws_FnUses.b16_ rfl rfl (any_of HT_.out (by kernel_rfl)) (fun _ _ _ h => h) (Or.inl ⟨by rfl, ?_⟩) ?_ ?_
    rotate_left
    ·intro w'
     go_simp
     with_reducible rfl
    rotate_left
    ·exact ga0
    refine take_ (i := 1) (N := some 32) (v := ?_) (a' := ?_) laws_FnUses.b17_ rfl rfl (take_ofW HT_.out HW_.out (by kernel_rfl)) (fun _ _ _ h => h) (Or.inl ⟨by rfl, ?_⟩) hHeld ?_ ?_
    rotate_left
    ·rintro w' ⟨s0, s1, s2, s3, s4⟩
     go_simp
     with_reducible rfl
    rotate_left
    ·exact ga0
    refine take_ (i := 5) (N := some 36) (v := ?_) (a' := ?_) laws_FnUses.b18_ rfl rfl (take_ofW HT_.out HW_.out (by kernel_rfl)) (fun _ _ _ h => h) (Or.inl ⟨by rfl, ?_⟩) hHeld ?_ ?_
    rotate_left
    ·rintro w' ⟨s0, s1, s2, s3, s4⟩
     go_simp
     with_reducible rfl
    rotate_left
    ·exact ga0
    refine one_ (i := 6) (N := some 37) laws_FnUses.b19_ rfl rfl (one_of HT_.out (by kernel_rfl)) (by decide) (fun K hK => ?_)
    refine goes_ Try.func36 (by kernel_rfl) rfl #[.agg #[.slice Ao14 t519.length co14, .slice Ao16 t522.length co16, .int .i64 t525, .slice Ao17 t526.length co17], .int .i64 (rd t530 x6_1)] (by rfl) rfl rfl (g9) ?_
    with_reducible refine (impl_UsesOf.calls k1 _ _ t519 _ _ t522 t525 _ _ t526 (rd t530 x6_1) t542 _ ?side1 ?side2 ?side3 ?side4 ?side5 ?side6 A27.out).mono ?_
    (case side1 => exact g26 HO_530000.out)
    (case side2 => exact (Kd.R_reads' HO_530000.out).2.1)
    (case side3 => exact g26 HO_530001.out)
    (case side4 => exact (Kd.R_reads' HO_530001.out).2.1)
    (case side5 => exact g27 HO_530003.out)
    (case side6 => exact (Kd.S_reads' HO_530003.out).2.1)
    rintro e w47 ⟨rfl, hb⟩
    have HS4_ := (hb.cell (World.block_lt_of_cell? _ _ (hHeld.2.2.2.2))).trans (hHeld.2.2.2.2)
    refine ⟨_, rfl, ?_⟩
    have n_ := laws_FnUses.K6_ (Kd.R_below (g1 HO_4.out) hb) (Kd.R_below (g1 HO_530000.out) hb) (Kd.R_below (g1 HO_530001.out) hb) (Kd.S_below (g25 HO_530003.out) hb) (blk_below (g := gb529) (o := .cells #[.slice Ao14 t519.length co14, .slice Ao16 t522.length co16, .int .i64 t525, .slice Ao17 t526.length co17] 46 (0, 0)) (g2 BK529.out) hb) (below_step (g12 HB.out GE529.out) hb)
    clear HO_4 HO_530000 HO_530001 HO_530003 BK529 HB
    obtain ⟨HO_4, HO_530000, HO_530001, HO_530003, BK529, HB⟩ := n_
    (try clear hb)
    (try clear hb2)
    (try clear hk)
    (try clear hi)
    refine hK.out _ _ ⟨(blk_cell BK529.out 0).trans rfl, (blk_cell BK529.out 1).trans rfl, (blk_cell BK529.out 2).trans rfl, (blk_cell BK529.out 3).trans rfl, HS4_⟩ (fun hHeld => ?_)
    clear hK K
    refine norm_ (a' := ?_) ?_ ?_
    rotate_left
    ·show Act.put _ (some 37) _ = _
     simp only [Act.put, List.setIfInBounds_toArray, List.set_cons_zero, List.set_cons_succ, i64_w, i32_w]
     rfl
    refine pure_ (i := 7) (N := some 38) (v := ?_) (a' := ?_) laws_FnUses.b20_ rfl rfl (any_of HT_.out (by kernel_rfl)) (fun _ _ _ h => h) (Or.inl ⟨by rfl, ?_⟩) ?_ ?_
    rotate_left
    ·intro w'
     go_simp
     with_reducible rfl
    rotate_left
    ·exact ga0
    refine pure_ (i := 8) (N := some 5) (v := ?_) (a' := ?_) laws_FnUses.b21_ rfl rfl (any_of HT_.out (by kernel_rfl)) (fun _ _ _ h => h) (Or.inl ⟨by rfl, ?_⟩) ?_ ?_
    rotate_left
    ·intro w'
     go_simp
     with_reducible rfl
    rotate_left
    ·exact ga0
    refine done_ (done_of HT_.out (by kernel_rfl)) ?_
    try go_wp2
    have n_ := laws_FnUses.K6_ (Kd.R_drew HO_4.out) (Kd.R_drew HO_530000.out) (Kd.R_drew HO_530001.out) (Kd.S_drew HO_530003.out) (blk_drew BK529.out) (below_drew1 HB.out)
    clear HO_4 HO_530000 HO_530001 HO_530003 BK529 HB
    obtain ⟨HO_4, HO_530000, HO_530001, HO_530003, BK529, HB⟩ := n_
    have p543 : 0 ≤ ((ji29) : Int) := of_decide_eq_true (g6)
    have q543 : (ji29) < (t530.length : Int) := of_decide_eq_true (g6)
    obtain ⟨ad543, e543, hx543_0⟩ := Kd.at_int (Kd.R_reads' HO_4.out).2.2 (ji29) p543 q543
    obtain rfl : ad541 = ad543 := (by injection e543)
    replace p543 := eq_true p543
    replace q543 := eq_true q543
    have p545 : 0 ≤ (x6_1 : Int) := of_decide_eq_true (g6)
    have q545 : x6_1 < (t530.length : Int) := of_decide_eq_true (g6)
    obtain ⟨ad545, e545, hx545_0⟩ := Kd.at_int (Kd.R_reads' HO_4.out).2.2 x6_1 p545 q545
    obtain rfl : ad541 = ad545 := (by injection e545)
    replace p545 := eq_true p545
    replace q545 := eq_true q545
    have p547 : 0 ≤ ((ji29) : Int) := of_decide_eq_true (g6)
    have q547 : (ji29) < (t530.length : Int) := of_decide_eq_true (g6)
    obtain ⟨ad547, e547, hx547_0⟩ := Kd.at_int (Kd.R_reads' HO_4.out).2.2 (ji29) p547 q547
    obtain rfl : ad541 = ad547 := (by injection e547)
    replace p547 := eq_true p547
    replace q547 := eq_true q547
    have p549 : 0 ≤ (x6_1 : Int) := of_decide_eq_true (g6)
    have q549 : x6_1 < (t530.length : Int) := of_decide_eq_true (g6)
    obtain ⟨ad549, e549, hx549_0⟩ := Kd.at_int (Kd.R_reads' HO_4.out).2.2 x6_1 p549 q549
    obtain rfl : ad541 = ad549 := (by injection e549)
    replace p549 := eq_true p549
    replace q549 := eq_true q549
    refine start_ (n := 46) (S := fun w' => w'.cell? ⟨gb529, 0, none⟩ = some (.slice Ao14 t519.length co14) ∧ w'.cell? ⟨gb529, 1, none⟩ = some (.slice Ao16 t522.length co16) ∧ w'.cell? ⟨gb529, 2, none⟩ = some (.int .i64 t525) ∧ w'.cell? ⟨gb529, 3, none⟩ = some (.slice Ao17 t526.length co17) ∧ w'.cell? (ad541.add ((ji29)).toNat) = some (.int .i64 (rd t530 (ji29))) ∧ w'.cell? (ad541.add (x6_1).toNat) = some (.int .i64 (rd t530 x6_1)) ∧ w'.cell? (ad541.add ((ji29)).toNat) = some (.int .i64 (rd t530 (ji29))) ∧ w'.cell? (ad541.add (x6_1).toNat) = some (.int .i64 (rd t530 x6_1))) (ds := []) laws_FnUses.b22_ (by kernel_rfl) rfl rfl ⟨(blk_cell BK529.out 0).trans rfl, (blk_cell BK529.out 1).trans rfl, (blk_cell BK529.out 2).trans rfl, (blk_cell BK529.out 3).trans rfl, hx543_0, hx545_0, hx547_0, hx549_0⟩ (fun hHeld => ?_); refine with_tabW laws_FnUses.tab12 laws_FnUses.bits12 (fun HT_ HW_ => ?_)
    generalize w47.drew = w48 at HO_4 HO_530000 HO_530001 HO_530003 BK529 HB hx543_0 hx545_0 hx547_0 hx549_0 hHeld ⊢
    refine pure_ (i := 0) (N := some 39) (v := ?_) (a' := ?_) laws_FnUses.b23_ rfl rfl (any_of HT_.out (by kernel_rfl)) (fun _ _ _ h => h) (Or.inl ⟨by rfl, ?_⟩) ?_ ?_
    rotate_left
    ·intro w'
     go_simp
     with_reducible rfl
    rotate_left
    ·exact ga0
    refine pure_ (i := 1) (N := some 40) (v := ?_) (a' := ?_) laws_FnUses.b24_ rfl rfl (any_of HT_.out (by kernel_rfl)) (fun _ _ _ h => h) (Or.inl ⟨by rfl, ?_⟩) ?_ ?_
    rotate_left
    ·intro w'
     go_simp
     with_reducible rfl
    rotate_left
    ·exact ga0
    refine pure_ (i := 2) (N := some 41) (v := ?_) (a' := ?_) laws_FnUses.b25_ rfl rfl (any_of HT_.out (by kernel_rfl)) (fun _ _ _ h => h) (Or.inl ⟨by rfl, ?_⟩) ?_ ?_
    rotate_left
    ·intro w'
     go_simp
     with_reducible rfl
    rotate_left
    ·exact ga0
    refine pure_ (i := 4) (N := some 43) (v := ?_) (a' := ?_) laws_FnUses.b47_ rfl rfl (any_of HT_.out (by kernel_rfl)) (fun _ _ _ h => h) (Or.inl ⟨by rfl, ?_⟩) ?_ ?_
    rotate_left
    ·intro w'
     go_simp
     with_reducible rfl
    rotate_left
    ·exact ga0
    refine pure_ (i := 5) (N := some 44) (v := ?_) (a' := ?_) laws_FnUses.b48_ rfl rfl (any_of HT_.out (by kernel_rfl)) (fun _ _ _ h => h) (Or.inl ⟨by rfl, ?_⟩) ?_ ?_
    rotate_left
    ·intro w'
     go_simp
     with_reducible rfl
    rotate_left
    ·exact ga0
    refine pure_ (i := 6) (N := some 45) (v := ?_) (a' := ?_) laws_FnUses.b49_ rfl rfl (any_of HT_.out (by kernel_rfl)) (fun _ _ _ h => h) (Or.inl ⟨by rfl, ?_⟩) ?_ ?_
    rotate_left
    ·intro w'
     go_simp
     with_reducible rfl
    rotate_left
    ·exact ga0
    refine pure_ (i := 7) (N := some 46) (v := ?_) (a' := ?_) laws_FnUses.b50_ rfl rfl (any_of HT_.out (by kernel_rfl)) (fun _ _ _ h => h) (Or.inl ⟨by rfl, ?_⟩) ?_ ?_
    rotate_left
    ·intro w'
     go_simp
     with_reducible rfl
    rotate_left
    ·exact ga0
    refine pure_ (i := 11) (N := some 50) (v := ?_) (a' := ?_) laws_FnUses.b51_ rfl rfl (any_of HT_.out (by kernel_rfl)) (fun _ _ _ h => h) (Or.inl ⟨by rfl, ?_⟩) ?_ ?_
    rotate_left
    ·intro w'
     go_simp
     with_reducible rfl
    rotate_left
    ·exact ga0
    refine pure_ (i := 12) (N := some 51) (v := ?_) (a' := ?_) laws_FnUses.b52_ rfl rfl (any_of HT_.out (by kernel_rfl)) (fun _ _ _ h => h) (Or.inl ⟨by rfl, ?_⟩) ?_ ?_
    rotate_left
    ·intro w'
     go_simp
     with_reducible rfl
    rotate_left
    ·exact ga0
    refine pure_ (i := 13) (N := some 52) (v := ?_) (a' := ?_) laws_FnUses.b53_ rfl rfl (any_of HT_.out (by kernel_rfl)) (fun _ _ _ h => h) (Or.inl ⟨by rfl, ?_⟩) ?_ ?_
    rotate_left
    ·intro w'
     go_simp
     with_reducible rfl
    rotate_left
    ·exact ga0
    refine take_ (i := 3) (N := some 42) (v := ?_) (a' := ?_) laws_FnUses.b54_ rfl rfl (take_ofW HT_.out HW_.out (by kernel_rfl)) (fun _ _ _ h => h) (Or.inl ⟨by rfl, ?_⟩) hHeld ?_ ?_
    rotate_left
    ·rintro w' ⟨s0, s1, s2, s3, s4, s5, s6, s7⟩
     go_simp
     with_reducible rfl
    rotate_left
    ·exact ga0
    refine take_ (i := 8) (N := some 47) (v := ?_) (a' := ?_) laws_FnUses.b55_ rfl rfl (take_ofW HT_.out HW_.out (by kernel_rfl)) (fun _ _ _ h => h) (Or.inl ⟨by rfl, ?_⟩) hHeld ?_ ?_
    rotate_left
    ·rintro w' ⟨s0, s1, s2, s3, s4, s5, s6, s7⟩
     go_simp
     with_reducible rfl
    rotate_left
    ·exact ga0
    refine take_ (i := 10) (N := some 49) (v := ?_) (a' := ?_) laws_FnUses.b56_ rfl rfl (take_ofW HT_.out HW_.out (by kernel_rfl)) (fun _ _ _ h => h) (Or.inl ⟨by rfl, ?_⟩) hHeld ?_ ?_
    rotate_left
    ·rintro w' ⟨s0, s1, s2, s3, s4, s5, s6, s7⟩
     go_simp
     with_reducible rfl
    rotate_left
    ·exact ga0
    refine take_ (i := 14) (N := some 53) (v := ?_) (a' := ?_) laws_FnUses.b57_ rfl rfl (take_ofW HT_.out HW_.out (by kernel_rfl)) (fun _ _ _ h => h) (Or.inl ⟨by rfl, ?_⟩) hHeld ?_ ?_
    rotate_left
    ·rintro w' ⟨s0, s1, s2, s3, s4, s5, s6, s7⟩
     go_simp
     with_reducible rfl
    rotate_left
    ·exact ga0
    refine one_ (i := 9) (N := some 48) laws_FnUses.b26_ rfl rfl (one_of HT_.out (by kernel_rfl)) (by decide) (fun K hK => ?_)
    refine goes_ Try.func36 (by kernel_rfl) rfl #[.agg #[.slice Ao14 t519.length co14, .slice Ao16 t522.length co16, .int .i64 t525, .slice Ao17 t526.length co17], .int .i64 (rd t530 (ji29))] (by rfl) rfl rfl (g28) ?_
    with_reducible refine (impl_UsesOf.calls k1 _ _ t519 _ _ t522 t525 _ _ t526 (rd t530 (ji29)) t544 _ ?side1 ?side2 ?side3 ?side4 ?side5 ?side6 A32.out).mono ?_
    (case side1 => exact g26 HO_530000.out)
    (case side2 => exact (Kd.R_reads' HO_530000.out).2.1)
    (case side3 => exact g26 HO_530001.out)
    (case side4 => exact (Kd.R_reads' HO_530001.out).2.1)
    (case side5 => exact g27 HO_530003.out)
    (case side6 => exact (Kd.S_reads' HO_530003.out).2.1)
    rintro e w49 ⟨rfl, hb⟩
    have HS4_ := (hb.cell (World.block_lt_of_cell? _ _ (hHeld.2.2.2.2.1))).trans (hHeld.2.2.2.2.1)
    have HS5_ := (hb.cell (World.block_lt_of_cell? _ _ (hHeld.2.2.2.2.2.1))).trans (hHeld.2.2.2.2.2.1)
    have HS6_ := (hb.cell (World.block_lt_of_cell? _ _ (hHeld.2.2.2.2.2.2.1))).trans (hHeld.2.2.2.2.2.2.1)
    have HS7_ := (hb.cell (World.block_lt_of_cell? _ _ (hHeld.2.2.2.2.2.2.2))).trans (hHeld.2.2.2.2.2.2.2)
    refine ⟨_, rfl, ?_⟩
    have n_ := laws_FnUses.K6_ (Kd.R_below (g1 HO_4.out) hb) (Kd.R_below (g1 HO_530000.out) hb) (Kd.R_below (g1 HO_530001.out) hb) (Kd.S_below (g25 HO_530003.out) hb) (blk_below (g := gb529) (o := .cells #[.slice Ao14 t519.length co14, .slice Ao16 t522.length co16, .int .i64 t525, .slice Ao17 t526.length co17] 46 (0, 0)) (g2 BK529.out) hb) (below_step (g12 HB.out GE529.out) hb)
    clear HO_4 HO_530000 HO_530001 HO_530003 BK529 HB
    obtain ⟨HO_4, HO_530000, HO_530001, HO_530003, BK529, HB⟩ := n_
    (try clear hb)
    (try clear hb2)
    (try clear hk)
    (try clear hi)
    refine hK.out _ _ ⟨(blk_cell BK529.out 0).trans rfl, (blk_cell BK529.out 1).trans rfl, (blk_cell BK529.out 2).trans rfl, (blk_cell BK529.out 3).trans rfl, HS4_, HS5_, HS6_, HS7_⟩ (fun hHeld => ?_)
    clear hK K
    refine norm_ (a' := ?_) ?_ ?_
    rotate_left
    ·show Act.put _ (some 48) _ = _
     simp only [Act.put, List.setIfInBounds_toArray, List.set_cons_zero, List.set_cons_succ, i64_w, i32_w]
     rfl
    refine one_ (i := 15) (N := some 54) laws_FnUses.b27_ rfl rfl (one_of HT_.out (by kernel_rfl)) (by decide) (fun K hK => ?_)
    refine goes_ Try.func36 (by kernel_rfl) rfl #[.agg #[.slice Ao14 t519.length co14, .slice Ao16 t522.length co16, .int .i64 t525, .slice Ao17 t526.length co17], .int .i64 (rd t530 x6_1)] (by rfl) rfl rfl (g9) ?_
    with_reducible refine (impl_UsesOf.calls k1 _ _ t519 _ _ t522 t525 _ _ t526 (rd t530 x6_1) t546 _ ?side1 ?side2 ?side3 ?side4 ?side5 ?side6 A33.out).mono ?_
    (case side1 => exact g26 HO_530000.out)
    (case side2 => exact (Kd.R_reads' HO_530000.out).2.1)
    (case side3 => exact g26 HO_530001.out)
    (case side4 => exact (Kd.R_reads' HO_530001.out).2.1)
    (case side5 => exact g27 HO_530003.out)
    (case side6 => exact (Kd.S_reads' HO_530003.out).2.1)
    rintro e w50 ⟨rfl, hb⟩
    have HS4_ := (hb.cell (World.block_lt_of_cell? _ _ (hHeld.2.2.2.2.1))).trans (hHeld.2.2.2.2.1)
    have HS5_ := (hb.cell (World.block_lt_of_cell? _ _ (hHeld.2.2.2.2.2.1))).trans (hHeld.2.2.2.2.2.1)
    have HS6_ := (hb.cell (World.block_lt_of_cell? _ _ (hHeld.2.2.2.2.2.2.1))).trans (hHeld.2.2.2.2.2.2.1)
    have HS7_ := (hb.cell (World.block_lt_of_cell? _ _ (hHeld.2.2.2.2.2.2.2))).trans (hHeld.2.2.2.2.2.2.2)
    refine ⟨_, rfl, ?_⟩
    have n_ := laws_FnUses.K6_ (Kd.R_below (g1 HO_4.out) hb) (Kd.R_below (g1 HO_530000.out) hb) (Kd.R_below (g1 HO_530001.out) hb) (Kd.S_below (g25 HO_530003.out) hb) (blk_below (g := gb529) (o := .cells #[.slice Ao14 t519.length co14, .slice Ao16 t522.length co16, .int .i64 t525, .slice Ao17 t526.length co17] 46 (0, 0)) (g2 BK529.out) hb) (below_step (g12 HB.out GE529.out) hb)
    clear HO_4 HO_530000 HO_530001 HO_530003 BK529 HB
    obtain ⟨HO_4, HO_530000, HO_530001, HO_530003, BK529, HB⟩ := n_
    (try clear hb)
    (try clear hb2)
    (try clear hk)
    (try clear hi)
    refine hK.out _ _ ⟨(blk_cell BK529.out 0).trans rfl, (blk_cell BK529.out 1).trans rfl, (blk_cell BK529.out 2).trans rfl, (blk_cell BK529.out 3).trans rfl, HS4_, HS5_, HS6_, HS7_⟩ (fun hHeld => ?_)
    clear hK K
    refine norm_ (a' := ?_) ?_ ?_
    rotate_left
    ·show Act.put _ (some 54) _ = _
     simp only [Act.put, List.setIfInBounds_toArray, List.set_cons_zero, List.set_cons_succ, i64_w, i32_w]
     rfl
    refine pure_ (i := 16) (N := some 55) (v := ?_) (a' := ?_) laws_FnUses.b28_ rfl rfl (any_of HT_.out (by kernel_rfl)) (fun _ _ _ h => h) (Or.inl ⟨by rfl, ?_⟩) ?_ ?_
    rotate_left
    ·intro w'
     go_simp
     with_reducible rfl
    rotate_left
    ·exact ga0
    refine pure_ (i := 17) (N := some 56) (v := ?_) (a' := ?_) laws_FnUses.b29_ rfl rfl (any_of HT_.out (by kernel_rfl)) (fun _ _ _ h => h) (Or.inl ⟨by rfl, ?_⟩) ?_ ?_
    rotate_left
    ·intro w'
     go_simp
     with_reducible rfl
    rotate_left
    ·exact ga0
    refine pure_ (i := 19) (N := some 58) (v := ?_) (a' := ?_) laws_FnUses.b58_ rfl rfl (any_of HT_.out (by kernel_rfl)) (fun _ _ _ h => h) (Or.inl ⟨by rfl, ?_⟩) ?_ ?_
    rotate_left
    ·intro w'
     go_simp
     with_reducible rfl
    rotate_left
    ·exact ga0
    refine pure_ (i := 20) (N := some 59) (v := ?_) (a' := ?_) laws_FnUses.b59_ rfl rfl (any_of HT_.out (by kernel_rfl)) (fun _ _ _ h => h) (Or.inl ⟨by rfl, ?_⟩) ?_ ?_
    rotate_left
    ·intro w'
     go_simp
     with_reducible rfl
    rotate_left
    ·exact ga0
    refine pure_ (i := 21) (N := some 60) (v := ?_) (a' := ?_) laws_FnUses.b60_ rfl rfl (any_of HT_.out (by kernel_rfl)) (fun _ _ _ h => h) (Or.inl ⟨by rfl, ?_⟩) ?_ ?_
    rotate_left
    ·intro w'
     go_simp
     with_reducible rfl
    rotate_left
    ·exact ga0
    refine pure_ (i := 22) (N := some 61) (v := ?_) (a' := ?_) laws_FnUses.b61_ rfl rfl (any_of HT_.out (by kernel_rfl)) (fun _ _ _ h => h) (Or.inl ⟨by rfl, ?_⟩) ?_ ?_
    rotate_left
    ·intro w'
     go_simp
     with_reducible rfl
    rotate_left
    ·exact ga0
    refine pure_ (i := 26) (N := some 65) (v := ?_) (a' := ?_) laws_FnUses.b62_ rfl rfl (any_of HT_.out (by kernel_rfl)) (fun _ _ _ h => h) (Or.inl ⟨by rfl, ?_⟩) ?_ ?_
    rotate_left
    ·intro w'
     go_simp
     with_reducible rfl
    rotate_left
    ·exact ga0
    refine pure_ (i := 27) (N := some 66) (v := ?_) (a' := ?_) laws_FnUses.b63_ rfl rfl (any_of HT_.out (by kernel_rfl)) (fun _ _ _ h => h) (Or.inl ⟨by rfl, ?_⟩) ?_ ?_
    rotate_left
    ·intro w'
     go_simp
     with_reducible rfl
    rotate_left
    ·exact ga0
    refine pure_ (i := 28) (N := some 67) (v := ?_) (a' := ?_) laws_FnUses.b64_ rfl rfl (any_of HT_.out (by kernel_rfl)) (fun _ _ _ h => h) (Or.inl ⟨by rfl, ?_⟩) ?_ ?_
    rotate_left
    ·intro w'
     go_simp
     with_reducible rfl
    rotate_left
    ·exact ga0
    refine take_ (i := 18) (N := some 57) (v := ?_) (a' := ?_) laws_FnUses.b65_ rfl rfl (take_ofW HT_.out HW_.out (by kernel_rfl)) (fun _ _ _ h => h) (Or.inl ⟨by rfl, ?_⟩) hHeld ?_ ?_
    rotate_left
    ·rintro w' ⟨s0, s1, s2, s3, s4, s5, s6, s7⟩
     go_simp
     with_reducible rfl
    rotate_left
    ·exact ga0
    refine take_ (i := 23) (N := some 62) (v := ?_) (a' := ?_) laws_FnUses.b66_ rfl rfl (take_ofW HT_.out HW_.out (by kernel_rfl)) (fun _ _ _ h => h) (Or.inl ⟨by rfl, ?_⟩) hHeld ?_ ?_
    rotate_left
    ·rintro w' ⟨s0, s1, s2, s3, s4, s5, s6, s7⟩
     go_simp
     with_reducible rfl
    rotate_left
    ·exact ga0
    refine take_ (i := 25) (N := some 64) (v := ?_) (a' := ?_) laws_FnUses.b67_ rfl rfl (take_ofW HT_.out HW_.out (by kernel_rfl)) (fun _ _ _ h => h) (Or.inl ⟨by rfl, ?_⟩) hHeld ?_ ?_
    rotate_left
    ·rintro w' ⟨s0, s1, s2, s3, s4, s5, s6, s7⟩
     go_simp
     with_reducible rfl
    rotate_left
    ·exact ga0
    refine take_ (i := 29) (N := some 68) (v := ?_) (a' := ?_) laws_FnUses.b68_ rfl rfl (take_ofW HT_.out HW_.out (by kernel_rfl)) (fun _ _ _ h => h) (Or.inl ⟨by rfl, ?_⟩) hHeld ?_ ?_
    rotate_left
    ·rintro w' ⟨s0, s1, s2, s3, s4, s5, s6, s7⟩
     go_simp
     with_reducible rfl
    rotate_left
    ·exact ga0
    refine one_ (i := 24) (N := some 63) laws_FnUses.b30_ rfl rfl (one_of HT_.out (by kernel_rfl)) (by decide) (fun K hK => ?_)
    refine goes_ Try.func36 (by kernel_rfl) rfl #[.agg #[.slice Ao14 t519.length co14, .slice Ao16 t522.length co16, .int .i64 t525, .slice Ao17 t526.length co17], .int .i64 (rd t530 (ji29))] (by rfl) rfl rfl (g28) ?_
    with_reducible refine (impl_UsesOf.calls k1 _ _ t519 _ _ t522 t525 _ _ t526 (rd t530 (ji29)) t548 _ ?side1 ?side2 ?side3 ?side4 ?side5 ?side6 A35.out).mono ?_
    (case side1 => exact g26 HO_530000.out)
    (case side2 => exact (Kd.R_reads' HO_530000.out).2.1)
    (case side3 => exact g26 HO_530001.out)
    (case side4 => exact (Kd.R_reads' HO_530001.out).2.1)
    (case side5 => exact g27 HO_530003.out)
    (case side6 => exact (Kd.S_reads' HO_530003.out).2.1)
    rintro e w51 ⟨rfl, hb⟩
    have HS4_ := (hb.cell (World.block_lt_of_cell? _ _ (hHeld.2.2.2.2.1))).trans (hHeld.2.2.2.2.1)
    have HS5_ := (hb.cell (World.block_lt_of_cell? _ _ (hHeld.2.2.2.2.2.1))).trans (hHeld.2.2.2.2.2.1)
    have HS6_ := (hb.cell (World.block_lt_of_cell? _ _ (hHeld.2.2.2.2.2.2.1))).trans (hHeld.2.2.2.2.2.2.1)
    have HS7_ := (hb.cell (World.block_lt_of_cell? _ _ (hHeld.2.2.2.2.2.2.2))).trans (hHeld.2.2.2.2.2.2.2)
    refine ⟨_, rfl, ?_⟩
    have n_ := laws_FnUses.K6_ (Kd.R_below (g1 HO_4.out) hb) (Kd.R_below (g1 HO_530000.out) hb) (Kd.R_below (g1 HO_530001.out) hb) (Kd.S_below (g25 HO_530003.out) hb) (blk_below (g := gb529) (o := .cells #[.slice Ao14 t519.length co14, .slice Ao16 t522.length co16, .int .i64 t525, .slice Ao17 t526.length co17] 46 (0, 0)) (g2 BK529.out) hb) (below_step (g12 HB.out GE529.out) hb)
    clear HO_4 HO_530000 HO_530001 HO_530003 BK529 HB
    obtain ⟨HO_4, HO_530000, HO_530001, HO_530003, BK529, HB⟩ := n_
    (try clear hb)
    (try clear hb2)
    (try clear hk)
    (try clear hi)
    refine hK.out _ _ ⟨(blk_cell BK529.out 0).trans rfl, (blk_cell BK529.out 1).trans rfl, (blk_cell BK529.out 2).trans rfl, (blk_cell BK529.out 3).trans rfl, HS4_, HS5_, HS6_, HS7_⟩ (fun hHeld => ?_)
    clear hK K
    refine norm_ (a' := ?_) ?_ ?_
    rotate_left
    ·show Act.put _ (some 63) _ = _
     simp only [Act.put, List.setIfInBounds_toArray, List.set_cons_zero, List.set_cons_succ, i64_w, i32_w]
     rfl
    refine one_ (i := 30) (N := some 69) laws_FnUses.b31_ rfl rfl (one_of HT_.out (by kernel_rfl)) (by decide) (fun K hK => ?_)
    refine goes_ Try.func36 (by kernel_rfl) rfl #[.agg #[.slice Ao14 t519.length co14, .slice Ao16 t522.length co16, .int .i64 t525, .slice Ao17 t526.length co17], .int .i64 (rd t530 x6_1)] (by rfl) rfl rfl (g9) ?_
    with_reducible refine (impl_UsesOf.calls k1 _ _ t519 _ _ t522 t525 _ _ t526 (rd t530 x6_1) t550 _ ?side1 ?side2 ?side3 ?side4 ?side5 ?side6 A36.out).mono ?_
    (case side1 => exact g26 HO_530000.out)
    (case side2 => exact (Kd.R_reads' HO_530000.out).2.1)
    (case side3 => exact g26 HO_530001.out)
    (case side4 => exact (Kd.R_reads' HO_530001.out).2.1)
    (case side5 => exact g27 HO_530003.out)
    (case side6 => exact (Kd.S_reads' HO_530003.out).2.1)
    rintro e w52 ⟨rfl, hb⟩
    have HS4_ := (hb.cell (World.block_lt_of_cell? _ _ (hHeld.2.2.2.2.1))).trans (hHeld.2.2.2.2.1)
    have HS5_ := (hb.cell (World.block_lt_of_cell? _ _ (hHeld.2.2.2.2.2.1))).trans (hHeld.2.2.2.2.2.1)
    have HS6_ := (hb.cell (World.block_lt_of_cell? _ _ (hHeld.2.2.2.2.2.2.1))).trans (hHeld.2.2.2.2.2.2.1)
    have HS7_ := (hb.cell (World.block_lt_of_cell? _ _ (hHeld.2.2.2.2.2.2.2))).trans (hHeld.2.2.2.2.2.2.2)
    refine ⟨_, rfl, ?_⟩
    have n_ := laws_FnUses.K6_ (Kd.R_below (g1 HO_4.out) hb) (Kd.R_below (g1 HO_530000.out) hb) (Kd.R_below (g1 HO_530001.out) hb) (Kd.S_below (g25 HO_530003.out) hb) (blk_below (g := gb529) (o := .cells #[.slice Ao14 t519.length co14, .slice Ao16 t522.length co16, .int .i64 t525, .slice Ao17 t526.length co17] 46 (0, 0)) (g2 BK529.out) hb) (below_step (g12 HB.out GE529.out) hb)
    clear HO_4 HO_530000 HO_530001 HO_530003 BK529 HB
    obtain ⟨HO_4, HO_530000, HO_530001, HO_530003, BK529, HB⟩ := n_
    (try clear hb)
    (try clear hb2)
    (try clear hk)
    (try clear hi)
    refine hK.out _ _ ⟨(blk_cell BK529.out 0).trans rfl, (blk_cell BK529.out 1).trans rfl, (blk_cell BK529.out 2).trans rfl, (blk_cell BK529.out 3).trans rfl, HS4_, HS5_, HS6_, HS7_⟩ (fun hHeld => ?_)
    clear hK K
    refine norm_ (a' := ?_) ?_ ?_
    rotate_left
    ·show Act.put _ (some 69) _ = _
     simp only [Act.put, List.setIfInBounds_toArray, List.set_cons_zero, List.set_cons_succ, i64_w, i32_w]
     rfl
    refine pure_ (i := 31) (N := some 70) (v := ?_) (a' := ?_) laws_FnUses.b32_ rfl rfl (any_of HT_.out (by kernel_rfl)) (fun _ _ _ h => h) (Or.inl ⟨by rfl, ?_⟩) ?_ ?_
    rotate_left
    ·intro w'
     go_simp
     with_reducible rfl
    rotate_left
    ·exact ga0
    refine pure_ (i := 32) (N := some 71) (v := ?_) (a' := ?_) laws_FnUses.b33_ rfl rfl (any_of HT_.out (by kernel_rfl)) (fun _ _ _ h => h) (Or.inl ⟨by rfl, ?_⟩) ?_ ?_
    rotate_left
    ·intro w'
     go_simp
     with_reducible rfl
    rotate_left
    ·exact ga0
    refine pure_ (i := 33) (N := some 72) (v := undef) (a' := ?_) laws_FnUses.b34_ rfl rfl (any_of HT_.out (by kernel_rfl)) (fun _ _ _ h => h) (Or.inr ⟨by rfl, rfl⟩) ?_ ?_
    rotate_left
    ·exact ga0
    refine pure_ (i := 34) (N := some 73) (v := undef) (a' := ?_) laws_FnUses.b35_ rfl rfl (any_of HT_.out (by kernel_rfl)) (fun _ _ _ h => h) (Or.inr ⟨by rfl, rfl⟩) ?_ ?_
    rotate_left
    ·exact ga0
    refine pure_ (i := 35) (N := some 74) (v := undef) (a' := ?_) laws_FnUses.b36_ rfl rfl (any_of HT_.out (by kernel_rfl)) (fun _ _ _ h => h) (Or.inr ⟨by rfl, rfl⟩) ?_ ?_
    rotate_left
    ·exact ga0
    refine pure_ (i := 36) (N := some 75) (v := undef) (a' := ?_) laws_FnUses.b37_ rfl rfl (any_of HT_.out (by kernel_rfl)) (fun _ _ _ h => h) (Or.inr ⟨by rfl, rfl⟩) ?_ ?_
    rotate_left
    ·exact ga0
    refine pure_ (i := 37) (N := some 76) (v := undef) (a' := ?_) laws_FnUses.b38_ rfl rfl (any_of HT_.out (by kernel_rfl)) (fun _ _ _ h => h) (Or.inr ⟨by rfl, rfl⟩) ?_ ?_
    rotate_left
    ·exact ga0
    refine pure_ (i := 38) (N := some 77) (v := undef) (a' := ?_) laws_FnUses.b39_ rfl rfl (any_of HT_.out (by kernel_rfl)) (fun _ _ _ h => h) (Or.inr ⟨by rfl, rfl⟩) ?_ ?_
    rotate_left
    ·exact ga0
    refine pure_ (i := 39) (N := some 78) (v := undef) (a' := ?_) laws_FnUses.b40_ rfl rfl (any_of HT_.out (by kernel_rfl)) (fun _ _ _ h => h) (Or.inr ⟨by rfl, rfl⟩) ?_ ?_
    rotate_left
    ·exact ga0
    refine pure_ (i := 40) (N := some 79) (v := undef) (a' := ?_) laws_FnUses.b41_ rfl rfl (any_of HT_.out (by kernel_rfl)) (fun _ _ _ h => h) (Or.inr ⟨by rfl, rfl⟩) ?_ ?_
    rotate_left
    ·exact ga0
    refine pure_ (i := 41) (N := some 80) (v := undef) (a' := ?_) laws_FnUses.b42_ rfl rfl (any_of HT_.out (by kernel_rfl)) (fun _ _ _ h => h) (Or.inr ⟨by rfl, rfl⟩) ?_ ?_
    rotate_left
    ·exact ga0
    refine pure_ (i := 42) (N := some 81) (v := undef) (a' := ?_) laws_FnUses.b43_ rfl rfl (any_of HT_.out (by kernel_rfl)) (fun _ _ _ h => h) (Or.inr ⟨by rfl, rfl⟩) ?_ ?_
    rotate_left
    ·exact ga0
    refine pure_ (i := 43) (N := some 82) (v := ?_) (a' := ?_) laws_FnUses.b44_ rfl rfl (any_of HT_.out (by kernel_rfl)) (fun _ _ _ h => h) (Or.inl ⟨by rfl, ?_⟩) ?_ ?_
    rotate_left
    ·intro w'
     go_simp
     with_reducible rfl
    rotate_left
    ·exact ga0
    refine pure_ (i := 44) (N := some 83) (v := ?_) (a' := ?_) laws_FnUses.b45_ rfl rfl (any_of HT_.out (by kernel_rfl)) (fun _ _ _ h => h) (Or.inl ⟨by rfl, ?_⟩) ?_ ?_
    rotate_left
    ·intro w'
     go_simp
     with_reducible rfl
    rotate_left
    ·exact ga0
    refine pure_ (i := 45) (N := some 84) (v := ?_) (a' := ?_) laws_FnUses.b46_ rfl rfl (any_of HT_.out (by kernel_rfl)) (fun _ _ _ h => h) (Or.inl ⟨by rfl, ?_⟩) ?_ ?_
    rotate_left
    ·intro w'
     go_simp
     with_reducible rfl
    rotate_left
    ·exact ga0
    refine done_ (done_of HT_.out (by kernel_rfl)) ?_
    try go_wp2
    go_roundg k1
    case measure => have := HK1.out; omega
    case rel => exact ⟨(wrap64 (x5_1 + t542)), (wrap64 (x6_1 + 1)), (g0), (g0), H', ⟨by have := HK1.out; omega⟩, ⟨g1 HO_4.out⟩, ⟨g1 HO_530000.out⟩, ⟨g1 HO_530001.out⟩, ⟨g25 HO_530003.out⟩, ⟨g2 BK529.out⟩, ⟨g12 HB.out GE529.out⟩⟩
   rw [if_pos c37] at H
   have c37b0 : (t548 == t550) = true := beq_iff_eq.mpr c37
   have c37b1 : (t548 != t550) = false := bne_eq_false_iff_eq.mpr c37
   clear c37
   by_cases c38 : (rd t530 (ji29)) > (rd t530 x6_1)
   case pos =>
    rw [if_pos c38] at H
    exact absurd H (by simp)
   rw [if_neg c38] at H
   have c38b0 : decide ((rd t530 x6_1) < (rd t530 (ji29))) = false := decide_eq_false c38
   clear c38
   have H' := Aside0.mk H
   clear H
   try go_wp2
   have n_ := laws_FnUses.K6_ (Kd.R_drew HO_4.out) (Kd.R_drew HO_530000.out) (Kd.R_drew HO_530001.out) (Kd.S_drew HO_530003.out) (blk_drew BK529.out) (below_drew1 HB.out)
   clear HO_4 HO_530000 HO_530001 HO_530003 BK529 HB
   obtain ⟨HO_4, HO_530000, HO_530001, HO_530003, BK529, HB⟩ := n_
   have p541 : 0 ≤ (x6_1 : Int) := of_decide_eq_true (g6)
   have q541 : x6_1 < (t530.length : Int) := of_decide_eq_true (g6)
   obtain ⟨ad541, e541, hx541_0⟩ := Kd.at_int (Kd.R_reads' HO_4.out).2.2 x6_1 p541 q541
   cases e541
   replace p541 := eq_true p541
   replace q541 := eq_true q541
   refine start_ (n := 9) (S := fun w' => w'.cell? ⟨gb529, 0, none⟩ = some (.slice Ao14 t519.length co14) ∧ w'.cell? ⟨gb529, 1, none⟩ = some (.slice Ao16 t522.length co16) ∧ w'.cell? ⟨gb529, 2, none⟩ = some (.int .i64 t525) ∧ w'.cell? ⟨gb529, 3, none⟩ = some (.slice Ao17 t526.length co17) ∧ w'.cell? (ad541.add (x6_1).toNat) = some (.int .i64 (rd t530 x6_1))) (ds := []) laws_FnUses.b12_ (by kernel_rfl) rfl rfl ⟨(blk_cell BK529.out 0).trans rfl, (blk_cell BK529.out 1).trans rfl, (blk_cell BK529.out 2).trans rfl, (blk_cell BK529.out 3).trans rfl, hx541_0⟩ (fun hHeld => ?_); refine with_tabW laws_FnUses.tab11 laws_FnUses.bits11 (fun HT_ HW_ => ?_)
   generalize wr.drew = w39 at HO_4 HO_530000 HO_530001 HO_530003 BK529 HB hx541_0 hHeld ⊢
   refine pure_ (i := 0) (N := some 31) (v := ?_) (a' := ?_) laws_FnUses.b13_ rfl rfl (any_of HT_.out (by kernel_rfl)) (fun _ _ _ h => h) (Or.inl ⟨by rfl, ?_⟩) ?_ ?_
   rotate_left
   ·intro w'
    go_simp
    with_reducible rfl
   rotate_left
   ·exact ga0
   refine pure_ (i := 2) (N := some 33) (v := ?_) (a' := ?_) laws_FnUses.b14_ rfl rfl (any_of HT_.out (by kernel_rfl)) (fun _ _ _ h => h) (Or.inl ⟨by rfl, ?_⟩) ?_ ?_
   rotate_left
   ·intro w'
    go_simp
    with_reducible rfl
   rotate_left
   ·exact ga0
   refine pure_ (i := 3) (N := some 34) (v := ?_) (a' := ?_) laws_FnUses.b15_ rfl rfl (any_of HT_.out (by kernel_rfl)) (fun _ _ _ h => h) (Or.inl ⟨by rfl, ?_⟩) ?_ ?_
   rotate_left
   ·intro w'
    go_simp
    with_reducible rfl
   rotate_left
   ·exact ga0
   refine pure_ (i := 4) (N := some 35) (v := ?_) (a' := ?_) laws_FnUses.b16_ rfl rfl (any_of HT_.out (by kernel_rfl)) (fun _ _ _ h => h) (Or.inl ⟨by rfl, ?_⟩) ?_ ?_
   rotate_left
   ·intro w'
    go_simp
    with_reducible rfl
   rotate_left
   ·exact ga0
   refine take_ (i := 1) (N := some 32) (v := ?_) (a' := ?_) laws_FnUses.b17_ rfl rfl (take_ofW HT_.out HW_.out (by kernel_rfl)) (fun _ _ _ h => h) (Or.inl ⟨by rfl, ?_⟩) hHeld ?_ ?_
   rotate_left
   ·rintro w' ⟨s0, s1, s2, s3, s4⟩
    go_simp
    with_reducible rfl
   rotate_left
   ·exact ga0
   refine take_ (i := 5) (N := some 36) (v := ?_) (a' := ?_) laws_FnUses.b18_ rfl rfl (take_ofW HT_.out HW_.out (by kernel_rfl)) (fun _ _ _ h => h) (Or.inl ⟨by rfl, ?_⟩) hHeld ?_ ?_
   rotate_left
   ·rintro w' ⟨s0, s1, s2, s3, s4⟩
    go_simp
    with_reducible rfl
   rotate_left
   ·exact ga0
   refine one_ (i := 6) (N := some 37) laws_FnUses.b19_ rfl rfl (one_of HT_.out (by kernel_rfl)) (by decide) (fun K hK => ?_)
   refine goes_ Try.func36 (by kernel_rfl) rfl #[.agg #[.slice Ao14 t519.length co14, .slice Ao16 t522.length co16, .int .i64 t525, .slice Ao17 t526.length co17], .int .i64 (rd t530 x6_1)] (by rfl) rfl rfl (g9) ?_
   with_reducible refine (impl_UsesOf.calls k1 _ _ t519 _ _ t522 t525 _ _ t526 (rd t530 x6_1) t542 _ ?side1 ?side2 ?side3 ?side4 ?side5 ?side6 A27.out).mono ?_
   (case side1 => exact g26 HO_530000.out)
   (case side2 => exact (Kd.R_reads' HO_530000.out).2.1)
   (case side3 => exact g26 HO_530001.out)
   (case side4 => exact (Kd.R_reads' HO_530001.out).2.1)
   (case side5 => exact g27 HO_530003.out)
   (case side6 => exact (Kd.S_reads' HO_530003.out).2.1)
   rintro e w40 ⟨rfl, hb⟩
   have HS4_ := (hb.cell (World.block_lt_of_cell? _ _ (hHeld.2.2.2.2))).trans (hHeld.2.2.2.2)
   refine ⟨_, rfl, ?_⟩
   have n_ := laws_FnUses.K6_ (Kd.R_below (g1 HO_4.out) hb) (Kd.R_below (g1 HO_530000.out) hb) (Kd.R_below (g1 HO_530001.out) hb) (Kd.S_below (g25 HO_530003.out) hb) (blk_below (g := gb529) (o := .cells #[.slice Ao14 t519.length co14, .slice Ao16 t522.length co16, .int .i64 t525, .slice Ao17 t526.length co17] 46 (0, 0)) (g2 BK529.out) hb) (below_step (g12 HB.out GE529.out) hb)
   clear HO_4 HO_530000 HO_530001 HO_530003 BK529 HB
   obtain ⟨HO_4, HO_530000, HO_530001, HO_530003, BK529, HB⟩ := n_
   (try clear hb)
   (try clear hb2)
   (try clear hk)
   (try clear hi)
   refine hK.out _ _ ⟨(blk_cell BK529.out 0).trans rfl, (blk_cell BK529.out 1).trans rfl, (blk_cell BK529.out 2).trans rfl, (blk_cell BK529.out 3).trans rfl, HS4_⟩ (fun hHeld => ?_)
   clear hK K
   refine norm_ (a' := ?_) ?_ ?_
   rotate_left
   ·show Act.put _ (some 37) _ = _
    simp only [Act.put, List.setIfInBounds_toArray, List.set_cons_zero, List.set_cons_succ, i64_w, i32_w]
    rfl
   refine pure_ (i := 7) (N := some 38) (v := ?_) (a' := ?_) laws_FnUses.b20_ rfl rfl (any_of HT_.out (by kernel_rfl)) (fun _ _ _ h => h) (Or.inl ⟨by rfl, ?_⟩) ?_ ?_
   rotate_left
   ·intro w'
    go_simp
    with_reducible rfl
   rotate_left
   ·exact ga0
   refine pure_ (i := 8) (N := some 5) (v := ?_) (a' := ?_) laws_FnUses.b21_ rfl rfl (any_of HT_.out (by kernel_rfl)) (fun _ _ _ h => h) (Or.inl ⟨by rfl, ?_⟩) ?_ ?_
   rotate_left
   ·intro w'
    go_simp
    with_reducible rfl
   rotate_left
   ·exact ga0
   refine done_ (done_of HT_.out (by kernel_rfl)) ?_
   try go_wp2
   have n_ := laws_FnUses.K6_ (Kd.R_drew HO_4.out) (Kd.R_drew HO_530000.out) (Kd.R_drew HO_530001.out) (Kd.S_drew HO_530003.out) (blk_drew BK529.out) (below_drew1 HB.out)
   clear HO_4 HO_530000 HO_530001 HO_530003 BK529 HB
   obtain ⟨HO_4, HO_530000, HO_530001, HO_530003, BK529, HB⟩ := n_
   have p543 : 0 ≤ ((ji29) : Int) := of_decide_eq_true (g6)
   have q543 : (ji29) < (t530.length : Int) := of_decide_eq_true (g6)
   obtain ⟨ad543, e543, hx543_0⟩ := Kd.at_int (Kd.R_reads' HO_4.out).2.2 (ji29) p543 q543
   obtain rfl : ad541 = ad543 := (by injection e543)
   replace p543 := eq_true p543
   replace q543 := eq_true q543
   have p545 : 0 ≤ (x6_1 : Int) := of_decide_eq_true (g6)
   have q545 : x6_1 < (t530.length : Int) := of_decide_eq_true (g6)
   obtain ⟨ad545, e545, hx545_0⟩ := Kd.at_int (Kd.R_reads' HO_4.out).2.2 x6_1 p545 q545
   obtain rfl : ad541 = ad545 := (by injection e545)
   replace p545 := eq_true p545
   replace q545 := eq_true q545
   have p547 : 0 ≤ ((ji29) : Int) := of_decide_eq_true (g6)
   have q547 : (ji29) < (t530.length : Int) := of_decide_eq_true (g6)
   obtain ⟨ad547, e547, hx547_0⟩ := Kd.at_int (Kd.R_reads' HO_4.out).2.2 (ji29) p547 q547
   obtain rfl : ad541 = ad547 := (by injection e547)
   replace p547 := eq_true p547
   replace q547 := eq_true q547
   have p549 : 0 ≤ (x6_1 : Int) := of_decide_eq_true (g6)
   have q549 : x6_1 < (t530.length : Int) := of_decide_eq_true (g6)
   obtain ⟨ad549, e549, hx549_0⟩ := Kd.at_int (Kd.R_reads' HO_4.out).2.2 x6_1 p549 q549
   obtain rfl : ad541 = ad549 := (by injection e549)
   replace p549 := eq_true p549
   replace q549 := eq_true q549
   have p551 : 0 ≤ ((ji29) : Int) := of_decide_eq_true (g6)
   have q551 : (ji29) < (t530.length : Int) := of_decide_eq_true (g6)
   obtain ⟨ad551, e551, hx551_0⟩ := Kd.at_int (Kd.R_reads' HO_4.out).2.2 (ji29) p551 q551
   obtain rfl : ad541 = ad551 := (by injection e551)
   replace p551 := eq_true p551
   replace q551 := eq_true q551
   have p552 : 0 ≤ (x6_1 : Int) := of_decide_eq_true (g6)
   have q552 : x6_1 < (t530.length : Int) := of_decide_eq_true (g6)
   obtain ⟨ad552, e552, hx552_0⟩ := Kd.at_int (Kd.R_reads' HO_4.out).2.2 x6_1 p552 q552
   obtain rfl : ad541 = ad552 := (by injection e552)
   replace p552 := eq_true p552
   replace q552 := eq_true q552
   refine start_ (n := 46) (S := fun w' => w'.cell? ⟨gb529, 0, none⟩ = some (.slice Ao14 t519.length co14) ∧ w'.cell? ⟨gb529, 1, none⟩ = some (.slice Ao16 t522.length co16) ∧ w'.cell? ⟨gb529, 2, none⟩ = some (.int .i64 t525) ∧ w'.cell? ⟨gb529, 3, none⟩ = some (.slice Ao17 t526.length co17) ∧ w'.cell? (ad541.add ((ji29)).toNat) = some (.int .i64 (rd t530 (ji29))) ∧ w'.cell? (ad541.add (x6_1).toNat) = some (.int .i64 (rd t530 x6_1)) ∧ w'.cell? (ad541.add ((ji29)).toNat) = some (.int .i64 (rd t530 (ji29))) ∧ w'.cell? (ad541.add (x6_1).toNat) = some (.int .i64 (rd t530 x6_1)) ∧ w'.cell? (ad541.add ((ji29)).toNat) = some (.int .i64 (rd t530 (ji29))) ∧ w'.cell? (ad541.add (x6_1).toNat) = some (.int .i64 (rd t530 x6_1))) (ds := []) laws_FnUses.b22_ (by kernel_rfl) rfl rfl ⟨(blk_cell BK529.out 0).trans rfl, (blk_cell BK529.out 1).trans rfl, (blk_cell BK529.out 2).trans rfl, (blk_cell BK529.out 3).trans rfl, hx543_0, hx545_0, hx547_0, hx549_0, hx551_0, hx552_0⟩ (fun hHeld => ?_); refine with_tabW laws_FnUses.tab12 laws_FnUses.bits12 (fun HT_ HW_ => ?_)
   generalize w40.drew = w41 at HO_4 HO_530000 HO_530001 HO_530003 BK529 HB hx543_0 hx545_0 hx547_0 hx549_0 hx551_0 hx552_0 hHeld ⊢
   refine pure_ (i := 0) (N := some 39) (v := ?_) (a' := ?_) laws_FnUses.b23_ rfl rfl (any_of HT_.out (by kernel_rfl)) (fun _ _ _ h => h) (Or.inl ⟨by rfl, ?_⟩) ?_ ?_
   rotate_left
   ·intro w'
    go_simp
    with_reducible rfl
   rotate_left
   ·exact ga0
   refine pure_ (i := 1) (N := some 40) (v := ?_) (a' := ?_) laws_FnUses.b24_ rfl rfl (any_of HT_.out (by kernel_rfl)) (fun _ _ _ h => h) (Or.inl ⟨by rfl, ?_⟩) ?_ ?_
   rotate_left
   ·intro w'
    go_simp
    with_reducible rfl
   rotate_left
   ·exact ga0
   refine pure_ (i := 2) (N := some 41) (v := ?_) (a' := ?_) laws_FnUses.b25_ rfl rfl (any_of HT_.out (by kernel_rfl)) (fun _ _ _ h => h) (Or.inl ⟨by rfl, ?_⟩) ?_ ?_
   rotate_left
   ·intro w'
    go_simp
    with_reducible rfl
   rotate_left
   ·exact ga0
   refine pure_ (i := 4) (N := some 43) (v := ?_) (a' := ?_) laws_FnUses.b47_ rfl rfl (any_of HT_.out (by kernel_rfl)) (fun _ _ _ h => h) (Or.inl ⟨by rfl, ?_⟩) ?_ ?_
   rotate_left
   ·intro w'
    go_simp
    with_reducible rfl
   rotate_left
   ·exact ga0
   refine pure_ (i := 5) (N := some 44) (v := ?_) (a' := ?_) laws_FnUses.b48_ rfl rfl (any_of HT_.out (by kernel_rfl)) (fun _ _ _ h => h) (Or.inl ⟨by rfl, ?_⟩) ?_ ?_
   rotate_left
   ·intro w'
    go_simp
    with_reducible rfl
   rotate_left
   ·exact ga0
   refine pure_ (i := 6) (N := some 45) (v := ?_) (a' := ?_) laws_FnUses.b49_ rfl rfl (any_of HT_.out (by kernel_rfl)) (fun _ _ _ h => h) (Or.inl ⟨by rfl, ?_⟩) ?_ ?_
   rotate_left
   ·intro w'
    go_simp
    with_reducible rfl
   rotate_left
   ·exact ga0
   refine pure_ (i := 7) (N := some 46) (v := ?_) (a' := ?_) laws_FnUses.b50_ rfl rfl (any_of HT_.out (by kernel_rfl)) (fun _ _ _ h => h) (Or.inl ⟨by rfl, ?_⟩) ?_ ?_
   rotate_left
   ·intro w'
    go_simp
    with_reducible rfl
   rotate_left
   ·exact ga0
   refine pure_ (i := 11) (N := some 50) (v := ?_) (a' := ?_) laws_FnUses.b51_ rfl rfl (any_of HT_.out (by kernel_rfl)) (fun _ _ _ h => h) (Or.inl ⟨by rfl, ?_⟩) ?_ ?_
   rotate_left
   ·intro w'
    go_simp
    with_reducible rfl
   rotate_left
   ·exact ga0
   refine pure_ (i := 12) (N := some 51) (v := ?_) (a' := ?_) laws_FnUses.b52_ rfl rfl (any_of HT_.out (by kernel_rfl)) (fun _ _ _ h => h) (Or.inl ⟨by rfl, ?_⟩) ?_ ?_
   rotate_left
   ·intro w'
    go_simp
    with_reducible rfl
   rotate_left
   ·exact ga0
   refine pure_ (i := 13) (N := some 52) (v := ?_) (a' := ?_) laws_FnUses.b53_ rfl rfl (any_of HT_.out (by kernel_rfl)) (fun _ _ _ h => h) (Or.inl ⟨by rfl, ?_⟩) ?_ ?_
   rotate_left
   ·intro w'
    go_simp
    with_reducible rfl
   rotate_left
   ·exact ga0
   refine take_ (i := 3) (N := some 42) (v := ?_) (a' := ?_) laws_FnUses.b54_ rfl rfl (take_ofW HT_.out HW_.out (by kernel_rfl)) (fun _ _ _ h => h) (Or.inl ⟨by rfl, ?_⟩) hHeld ?_ ?_
   rotate_left
   ·rintro w' ⟨s0, s1, s2, s3, s4, s5, s6, s7, s8, s9⟩
    go_simp
    with_reducible rfl
   rotate_left
   ·exact ga0
   refine take_ (i := 8) (N := some 47) (v := ?_) (a' := ?_) laws_FnUses.b55_ rfl rfl (take_ofW HT_.out HW_.out (by kernel_rfl)) (fun _ _ _ h => h) (Or.inl ⟨by rfl, ?_⟩) hHeld ?_ ?_
   rotate_left
   ·rintro w' ⟨s0, s1, s2, s3, s4, s5, s6, s7, s8, s9⟩
    go_simp
    with_reducible rfl
   rotate_left
   ·exact ga0
   refine take_ (i := 10) (N := some 49) (v := ?_) (a' := ?_) laws_FnUses.b56_ rfl rfl (take_ofW HT_.out HW_.out (by kernel_rfl)) (fun _ _ _ h => h) (Or.inl ⟨by rfl, ?_⟩) hHeld ?_ ?_
   rotate_left
   ·rintro w' ⟨s0, s1, s2, s3, s4, s5, s6, s7, s8, s9⟩
    go_simp
    with_reducible rfl
   rotate_left
   ·exact ga0
   refine take_ (i := 14) (N := some 53) (v := ?_) (a' := ?_) laws_FnUses.b57_ rfl rfl (take_ofW HT_.out HW_.out (by kernel_rfl)) (fun _ _ _ h => h) (Or.inl ⟨by rfl, ?_⟩) hHeld ?_ ?_
   rotate_left
   ·rintro w' ⟨s0, s1, s2, s3, s4, s5, s6, s7, s8, s9⟩
    go_simp
    with_reducible rfl
   rotate_left
   ·exact ga0
   refine one_ (i := 9) (N := some 48) laws_FnUses.b26_ rfl rfl (one_of HT_.out (by kernel_rfl)) (by decide) (fun K hK => ?_)
   refine goes_ Try.func36 (by kernel_rfl) rfl #[.agg #[.slice Ao14 t519.length co14, .slice Ao16 t522.length co16, .int .i64 t525, .slice Ao17 t526.length co17], .int .i64 (rd t530 (ji29))] (by rfl) rfl rfl (g28) ?_
   with_reducible refine (impl_UsesOf.calls k1 _ _ t519 _ _ t522 t525 _ _ t526 (rd t530 (ji29)) t544 _ ?side1 ?side2 ?side3 ?side4 ?side5 ?side6 A32.out).mono ?_
   (case side1 => exact g26 HO_530000.out)
   (case side2 => exact (Kd.R_reads' HO_530000.out).2.1)
   (case side3 => exact g26 HO_530001.out)
   (case side4 => exact (Kd.R_reads' HO_530001.out).2.1)
   (case side5 => exact g27 HO_530003.out)
   (case side6 => exact (Kd.S_reads' HO_530003.out).2.1)
   rintro e w42 ⟨rfl, hb⟩
   have HS4_ := (hb.cell (World.block_lt_of_cell? _ _ (hHeld.2.2.2.2.1))).trans (hHeld.2.2.2.2.1)
   have HS5_ := (hb.cell (World.block_lt_of_cell? _ _ (hHeld.2.2.2.2.2.1))).trans (hHeld.2.2.2.2.2.1)
   have HS6_ := (hb.cell (World.block_lt_of_cell? _ _ (hHeld.2.2.2.2.2.2.1))).trans (hHeld.2.2.2.2.2.2.1)
   have HS7_ := (hb.cell (World.block_lt_of_cell? _ _ (hHeld.2.2.2.2.2.2.2.1))).trans (hHeld.2.2.2.2.2.2.2.1)
   have HS8_ := (hb.cell (World.block_lt_of_cell? _ _ (hHeld.2.2.2.2.2.2.2.2.1))).trans (hHeld.2.2.2.2.2.2.2.2.1)
   have HS9_ := (hb.cell (World.block_lt_of_cell? _ _ (hHeld.2.2.2.2.2.2.2.2.2))).trans (hHeld.2.2.2.2.2.2.2.2.2)
   refine ⟨_, rfl, ?_⟩
   have n_ := laws_FnUses.K6_ (Kd.R_below (g1 HO_4.out) hb) (Kd.R_below (g1 HO_530000.out) hb) (Kd.R_below (g1 HO_530001.out) hb) (Kd.S_below (g25 HO_530003.out) hb) (blk_below (g := gb529) (o := .cells #[.slice Ao14 t519.length co14, .slice Ao16 t522.length co16, .int .i64 t525, .slice Ao17 t526.length co17] 46 (0, 0)) (g2 BK529.out) hb) (below_step (g12 HB.out GE529.out) hb)
   clear HO_4 HO_530000 HO_530001 HO_530003 BK529 HB
   obtain ⟨HO_4, HO_530000, HO_530001, HO_530003, BK529, HB⟩ := n_
   (try clear hb)
   (try clear hb2)
   (try clear hk)
   (try clear hi)
   refine hK.out _ _ ⟨(blk_cell BK529.out 0).trans rfl, (blk_cell BK529.out 1).trans rfl, (blk_cell BK529.out 2).trans rfl, (blk_cell BK529.out 3).trans rfl, HS4_, HS5_, HS6_, HS7_, HS8_, HS9_⟩ (fun hHeld => ?_)
   clear hK K
   refine norm_ (a' := ?_) ?_ ?_
   rotate_left
   ·show Act.put _ (some 48) _ = _
    simp only [Act.put, List.setIfInBounds_toArray, List.set_cons_zero, List.set_cons_succ, i64_w, i32_w]
    rfl
   refine one_ (i := 15) (N := some 54) laws_FnUses.b27_ rfl rfl (one_of HT_.out (by kernel_rfl)) (by decide) (fun K hK => ?_)
   refine goes_ Try.func36 (by kernel_rfl) rfl #[.agg #[.slice Ao14 t519.length co14, .slice Ao16 t522.length co16, .int .i64 t525, .slice Ao17 t526.length co17], .int .i64 (rd t530 x6_1)] (by rfl) rfl rfl (g9) ?_
   with_reducible refine (impl_UsesOf.calls k1 _ _ t519 _ _ t522 t525 _ _ t526 (rd t530 x6_1) t546 _ ?side1 ?side2 ?side3 ?side4 ?side5 ?side6 A33.out).mono ?_
   (case side1 => exact g26 HO_530000.out)
   (case side2 => exact (Kd.R_reads' HO_530000.out).2.1)
   (case side3 => exact g26 HO_530001.out)
   (case side4 => exact (Kd.R_reads' HO_530001.out).2.1)
   (case side5 => exact g27 HO_530003.out)
   (case side6 => exact (Kd.S_reads' HO_530003.out).2.1)
   rintro e w43 ⟨rfl, hb⟩
   have HS4_ := (hb.cell (World.block_lt_of_cell? _ _ (hHeld.2.2.2.2.1))).trans (hHeld.2.2.2.2.1)
   have HS5_ := (hb.cell (World.block_lt_of_cell? _ _ (hHeld.2.2.2.2.2.1))).trans (hHeld.2.2.2.2.2.1)
   have HS6_ := (hb.cell (World.block_lt_of_cell? _ _ (hHeld.2.2.2.2.2.2.1))).trans (hHeld.2.2.2.2.2.2.1)
   have HS7_ := (hb.cell (World.block_lt_of_cell? _ _ (hHeld.2.2.2.2.2.2.2.1))).trans (hHeld.2.2.2.2.2.2.2.1)
   have HS8_ := (hb.cell (World.block_lt_of_cell? _ _ (hHeld.2.2.2.2.2.2.2.2.1))).trans (hHeld.2.2.2.2.2.2.2.2.1)
   have HS9_ := (hb.cell (World.block_lt_of_cell? _ _ (hHeld.2.2.2.2.2.2.2.2.2))).trans (hHeld.2.2.2.2.2.2.2.2.2)
   refine ⟨_, rfl, ?_⟩
   have n_ := laws_FnUses.K6_ (Kd.R_below (g1 HO_4.out) hb) (Kd.R_below (g1 HO_530000.out) hb) (Kd.R_below (g1 HO_530001.out) hb) (Kd.S_below (g25 HO_530003.out) hb) (blk_below (g := gb529) (o := .cells #[.slice Ao14 t519.length co14, .slice Ao16 t522.length co16, .int .i64 t525, .slice Ao17 t526.length co17] 46 (0, 0)) (g2 BK529.out) hb) (below_step (g12 HB.out GE529.out) hb)
   clear HO_4 HO_530000 HO_530001 HO_530003 BK529 HB
   obtain ⟨HO_4, HO_530000, HO_530001, HO_530003, BK529, HB⟩ := n_
   (try clear hb)
   (try clear hb2)
   (try clear hk)
   (try clear hi)
   refine hK.out _ _ ⟨(blk_cell BK529.out 0).trans rfl, (blk_cell BK529.out 1).trans rfl, (blk_cell BK529.out 2).trans rfl, (blk_cell BK529.out 3).trans rfl, HS4_, HS5_, HS6_, HS7_, HS8_, HS9_⟩ (fun hHeld => ?_)
   clear hK K
   refine norm_ (a' := ?_) ?_ ?_
   rotate_left
   ·show Act.put _ (some 54) _ = _
    simp only [Act.put, List.setIfInBounds_toArray, List.set_cons_zero, List.set_cons_succ, i64_w, i32_w]
    rfl
   refine pure_ (i := 16) (N := some 55) (v := ?_) (a' := ?_) laws_FnUses.b28_ rfl rfl (any_of HT_.out (by kernel_rfl)) (fun _ _ _ h => h) (Or.inl ⟨by rfl, ?_⟩) ?_ ?_
   rotate_left
   ·intro w'
    go_simp
    with_reducible rfl
   rotate_left
   ·exact ga0
   refine pure_ (i := 17) (N := some 56) (v := ?_) (a' := ?_) laws_FnUses.b29_ rfl rfl (any_of HT_.out (by kernel_rfl)) (fun _ _ _ h => h) (Or.inl ⟨by rfl, ?_⟩) ?_ ?_
   rotate_left
   ·intro w'
    go_simp
    with_reducible rfl
   rotate_left
   ·exact ga0
   refine pure_ (i := 19) (N := some 58) (v := ?_) (a' := ?_) laws_FnUses.b58_ rfl rfl (any_of HT_.out (by kernel_rfl)) (fun _ _ _ h => h) (Or.inl ⟨by rfl, ?_⟩) ?_ ?_
   rotate_left
   ·intro w'
    go_simp
    with_reducible rfl
   rotate_left
   ·exact ga0
   refine pure_ (i := 20) (N := some 59) (v := ?_) (a' := ?_) laws_FnUses.b59_ rfl rfl (any_of HT_.out (by kernel_rfl)) (fun _ _ _ h => h) (Or.inl ⟨by rfl, ?_⟩) ?_ ?_
   rotate_left
   ·intro w'
    go_simp
    with_reducible rfl
   rotate_left
   ·exact ga0
   refine pure_ (i := 21) (N := some 60) (v := ?_) (a' := ?_) laws_FnUses.b60_ rfl rfl (any_of HT_.out (by kernel_rfl)) (fun _ _ _ h => h) (Or.inl ⟨by rfl, ?_⟩) ?_ ?_
   rotate_left
   ·intro w'
    go_simp
    with_reducible rfl
   rotate_left
   ·exact ga0
   refine pure_ (i := 22) (N := some 61) (v := ?_) (a' := ?_) laws_FnUses.b61_ rfl rfl (any_of HT_.out (by kernel_rfl)) (fun _ _ _ h => h) (Or.inl ⟨by rfl, ?_⟩) ?_ ?_
   rotate_left
   ·intro w'
    go_simp
    with_reducible rfl
   rotate_left
   ·exact ga0
   refine pure_ (i := 26) (N := some 65) (v := ?_) (a' := ?_) laws_FnUses.b62_ rfl rfl (any_of HT_.out (by kernel_rfl)) (fun _ _ _ h => h) (Or.inl ⟨by rfl, ?_⟩) ?_ ?_
   rotate_left
   ·intro w'
    go_simp
    with_reducible rfl
   rotate_left
   ·exact ga0
   refine pure_ (i := 27) (N := some 66) (v := ?_) (a' := ?_) laws_FnUses.b63_ rfl rfl (any_of HT_.out (by kernel_rfl)) (fun _ _ _ h => h) (Or.inl ⟨by rfl, ?_⟩) ?_ ?_
   rotate_left
   ·intro w'
    go_simp
    with_reducible rfl
   rotate_left
   ·exact ga0
   refine pure_ (i := 28) (N := some 67) (v := ?_) (a' := ?_) laws_FnUses.b64_ rfl rfl (any_of HT_.out (by kernel_rfl)) (fun _ _ _ h => h) (Or.inl ⟨by rfl, ?_⟩) ?_ ?_
   rotate_left
   ·intro w'
    go_simp
    with_reducible rfl
   rotate_left
   ·exact ga0
   refine take_ (i := 18) (N := some 57) (v := ?_) (a' := ?_) laws_FnUses.b65_ rfl rfl (take_ofW HT_.out HW_.out (by kernel_rfl)) (fun _ _ _ h => h) (Or.inl ⟨by rfl, ?_⟩) hHeld ?_ ?_
   rotate_left
   ·rintro w' ⟨s0, s1, s2, s3, s4, s5, s6, s7, s8, s9⟩
    go_simp
    with_reducible rfl
   rotate_left
   ·exact ga0
   refine take_ (i := 23) (N := some 62) (v := ?_) (a' := ?_) laws_FnUses.b66_ rfl rfl (take_ofW HT_.out HW_.out (by kernel_rfl)) (fun _ _ _ h => h) (Or.inl ⟨by rfl, ?_⟩) hHeld ?_ ?_
   rotate_left
   ·rintro w' ⟨s0, s1, s2, s3, s4, s5, s6, s7, s8, s9⟩
    go_simp
    with_reducible rfl
   rotate_left
   ·exact ga0
   refine take_ (i := 25) (N := some 64) (v := ?_) (a' := ?_) laws_FnUses.b67_ rfl rfl (take_ofW HT_.out HW_.out (by kernel_rfl)) (fun _ _ _ h => h) (Or.inl ⟨by rfl, ?_⟩) hHeld ?_ ?_
   rotate_left
   ·rintro w' ⟨s0, s1, s2, s3, s4, s5, s6, s7, s8, s9⟩
    go_simp
    with_reducible rfl
   rotate_left
   ·exact ga0
   refine take_ (i := 29) (N := some 68) (v := ?_) (a' := ?_) laws_FnUses.b68_ rfl rfl (take_ofW HT_.out HW_.out (by kernel_rfl)) (fun _ _ _ h => h) (Or.inl ⟨by rfl, ?_⟩) hHeld ?_ ?_
   rotate_left
   ·rintro w' ⟨s0, s1, s2, s3, s4, s5, s6, s7, s8, s9⟩
    go_simp
    with_reducible rfl
   rotate_left
   ·exact ga0
   refine one_ (i := 24) (N := some 63) laws_FnUses.b30_ rfl rfl (one_of HT_.out (by kernel_rfl)) (by decide) (fun K hK => ?_)
   refine goes_ Try.func36 (by kernel_rfl) rfl #[.agg #[.slice Ao14 t519.length co14, .slice Ao16 t522.length co16, .int .i64 t525, .slice Ao17 t526.length co17], .int .i64 (rd t530 (ji29))] (by rfl) rfl rfl (g28) ?_
   with_reducible refine (impl_UsesOf.calls k1 _ _ t519 _ _ t522 t525 _ _ t526 (rd t530 (ji29)) t548 _ ?side1 ?side2 ?side3 ?side4 ?side5 ?side6 A35.out).mono ?_
   (case side1 => exact g26 HO_530000.out)
   (case side2 => exact (Kd.R_reads' HO_530000.out).2.1)
   (case side3 => exact g26 HO_530001.out)
   (case side4 => exact (Kd.R_reads' HO_530001.out).2.1)
   (case side5 => exact g27 HO_530003.out)
   (case side6 => exact (Kd.S_reads' HO_530003.out).2.1)
   rintro e w44 ⟨rfl, hb⟩
   have HS4_ := (hb.cell (World.block_lt_of_cell? _ _ (hHeld.2.2.2.2.1))).trans (hHeld.2.2.2.2.1)
   have HS5_ := (hb.cell (World.block_lt_of_cell? _ _ (hHeld.2.2.2.2.2.1))).trans (hHeld.2.2.2.2.2.1)
   have HS6_ := (hb.cell (World.block_lt_of_cell? _ _ (hHeld.2.2.2.2.2.2.1))).trans (hHeld.2.2.2.2.2.2.1)
   have HS7_ := (hb.cell (World.block_lt_of_cell? _ _ (hHeld.2.2.2.2.2.2.2.1))).trans (hHeld.2.2.2.2.2.2.2.1)
   have HS8_ := (hb.cell (World.block_lt_of_cell? _ _ (hHeld.2.2.2.2.2.2.2.2.1))).trans (hHeld.2.2.2.2.2.2.2.2.1)
   have HS9_ := (hb.cell (World.block_lt_of_cell? _ _ (hHeld.2.2.2.2.2.2.2.2.2))).trans (hHeld.2.2.2.2.2.2.2.2.2)
   refine ⟨_, rfl, ?_⟩
   have n_ := laws_FnUses.K6_ (Kd.R_below (g1 HO_4.out) hb) (Kd.R_below (g1 HO_530000.out) hb) (Kd.R_below (g1 HO_530001.out) hb) (Kd.S_below (g25 HO_530003.out) hb) (blk_below (g := gb529) (o := .cells #[.slice Ao14 t519.length co14, .slice Ao16 t522.length co16, .int .i64 t525, .slice Ao17 t526.length co17] 46 (0, 0)) (g2 BK529.out) hb) (below_step (g12 HB.out GE529.out) hb)
   clear HO_4 HO_530000 HO_530001 HO_530003 BK529 HB
   obtain ⟨HO_4, HO_530000, HO_530001, HO_530003, BK529, HB⟩ := n_
   (try clear hb)
   (try clear hb2)
   (try clear hk)
   (try clear hi)
   refine hK.out _ _ ⟨(blk_cell BK529.out 0).trans rfl, (blk_cell BK529.out 1).trans rfl, (blk_cell BK529.out 2).trans rfl, (blk_cell BK529.out 3).trans rfl, HS4_, HS5_, HS6_, HS7_, HS8_, HS9_⟩ (fun hHeld => ?_)
   clear hK K
   refine norm_ (a' := ?_) ?_ ?_
   rotate_left
   ·show Act.put _ (some 63) _ = _
    simp only [Act.put, List.setIfInBounds_toArray, List.set_cons_zero, List.set_cons_succ, i64_w, i32_w]
    rfl
   refine one_ (i := 30) (N := some 69) laws_FnUses.b31_ rfl rfl (one_of HT_.out (by kernel_rfl)) (by decide) (fun K hK => ?_)
   refine goes_ Try.func36 (by kernel_rfl) rfl #[.agg #[.slice Ao14 t519.length co14, .slice Ao16 t522.length co16, .int .i64 t525, .slice Ao17 t526.length co17], .int .i64 (rd t530 x6_1)] (by rfl) rfl rfl (g9) ?_
   with_reducible refine (impl_UsesOf.calls k1 _ _ t519 _ _ t522 t525 _ _ t526 (rd t530 x6_1) t550 _ ?side1 ?side2 ?side3 ?side4 ?side5 ?side6 A36.out).mono ?_
   (case side1 => exact g26 HO_530000.out)
   (case side2 => exact (Kd.R_reads' HO_530000.out).2.1)
   (case side3 => exact g26 HO_530001.out)
   (case side4 => exact (Kd.R_reads' HO_530001.out).2.1)
   (case side5 => exact g27 HO_530003.out)
   (case side6 => exact (Kd.S_reads' HO_530003.out).2.1)
   rintro e w45 ⟨rfl, hb⟩
   have HS4_ := (hb.cell (World.block_lt_of_cell? _ _ (hHeld.2.2.2.2.1))).trans (hHeld.2.2.2.2.1)
   have HS5_ := (hb.cell (World.block_lt_of_cell? _ _ (hHeld.2.2.2.2.2.1))).trans (hHeld.2.2.2.2.2.1)
   have HS6_ := (hb.cell (World.block_lt_of_cell? _ _ (hHeld.2.2.2.2.2.2.1))).trans (hHeld.2.2.2.2.2.2.1)
   have HS7_ := (hb.cell (World.block_lt_of_cell? _ _ (hHeld.2.2.2.2.2.2.2.1))).trans (hHeld.2.2.2.2.2.2.2.1)
   have HS8_ := (hb.cell (World.block_lt_of_cell? _ _ (hHeld.2.2.2.2.2.2.2.2.1))).trans (hHeld.2.2.2.2.2.2.2.2.1)
   have HS9_ := (hb.cell (World.block_lt_of_cell? _ _ (hHeld.2.2.2.2.2.2.2.2.2))).trans (hHeld.2.2.2.2.2.2.2.2.2)
   refine ⟨_, rfl, ?_⟩
   have n_ := laws_FnUses.K6_ (Kd.R_below (g1 HO_4.out) hb) (Kd.R_below (g1 HO_530000.out) hb) (Kd.R_below (g1 HO_530001.out) hb) (Kd.S_below (g25 HO_530003.out) hb) (blk_below (g := gb529) (o := .cells #[.slice Ao14 t519.length co14, .slice Ao16 t522.length co16, .int .i64 t525, .slice Ao17 t526.length co17] 46 (0, 0)) (g2 BK529.out) hb) (below_step (g12 HB.out GE529.out) hb)
   clear HO_4 HO_530000 HO_530001 HO_530003 BK529 HB
   obtain ⟨HO_4, HO_530000, HO_530001, HO_530003, BK529, HB⟩ := n_
   (try clear hb)
   (try clear hb2)
   (try clear hk)
   (try clear hi)
   refine hK.out _ _ ⟨(blk_cell BK529.out 0).trans rfl, (blk_cell BK529.out 1).trans rfl, (blk_cell BK529.out 2).trans rfl, (blk_cell BK529.out 3).trans rfl, HS4_, HS5_, HS6_, HS7_, HS8_, HS9_⟩ (fun hHeld => ?_)
   clear hK K
   refine norm_ (a' := ?_) ?_ ?_
   rotate_left
   ·show Act.put _ (some 69) _ = _
    simp only [Act.put, List.setIfInBounds_toArray, List.set_cons_zero, List.set_cons_succ, i64_w, i32_w]
    rfl
   refine pure_ (i := 31) (N := some 70) (v := ?_) (a' := ?_) laws_FnUses.b32_ rfl rfl (any_of HT_.out (by kernel_rfl)) (fun _ _ _ h => h) (Or.inl ⟨by rfl, ?_⟩) ?_ ?_
   rotate_left
   ·intro w'
    go_simp
    with_reducible rfl
   rotate_left
   ·exact ga0
   refine pure_ (i := 32) (N := some 71) (v := ?_) (a' := ?_) laws_FnUses.b33_ rfl rfl (any_of HT_.out (by kernel_rfl)) (fun _ _ _ h => h) (Or.inl ⟨by rfl, ?_⟩) ?_ ?_
   rotate_left
   ·intro w'
    go_simp
    with_reducible rfl
   rotate_left
   ·exact ga0
   refine pure_ (i := 33) (N := some 72) (v := ?_) (a' := ?_) laws_FnUses.b34_ rfl rfl (any_of HT_.out (by kernel_rfl)) (fun _ _ _ h => h) (Or.inl ⟨by rfl, ?_⟩) ?_ ?_
   rotate_left
   ·intro w'
    go_simp
    with_reducible rfl
   rotate_left
   ·exact ga0
   refine pure_ (i := 34) (N := some 73) (v := ?_) (a' := ?_) laws_FnUses.b35_ rfl rfl (any_of HT_.out (by kernel_rfl)) (fun _ _ _ h => h) (Or.inl ⟨by rfl, ?_⟩) ?_ ?_
   rotate_left
   ·intro w'
    go_simp
    with_reducible rfl
   rotate_left
   ·exact ga0
   refine pure_ (i := 35) (N := some 74) (v := ?_) (a' := ?_) laws_FnUses.b36_ rfl rfl (any_of HT_.out (by kernel_rfl)) (fun _ _ _ h => h) (Or.inl ⟨by rfl, ?_⟩) ?_ ?_
   rotate_left
   ·intro w'
    go_simp
    with_reducible rfl
   rotate_left
   ·exact ga0
   refine pure_ (i := 36) (N := some 75) (v := ?_) (a' := ?_) laws_FnUses.b37_ rfl rfl (any_of HT_.out (by kernel_rfl)) (fun _ _ _ h => h) (Or.inl ⟨by rfl, ?_⟩) ?_ ?_
   rotate_left
   ·intro w'
    go_simp
    with_reducible rfl
   rotate_left
   ·exact ga0
   refine pure_ (i := 38) (N := some 77) (v := ?_) (a' := ?_) #[true, true, true, true, true, true, true, true, true, true, true, true, true, true, true, true, true, true, true, true, true, true, true, true, true, true, true, true, true, true, true, true, true, true, true, true, true, false, true, false, false, false, false, false, false, false] rfl rfl (any_of HT_.out (by kernel_rfl)) (fun _ _ _ h => h) (Or.inl ⟨by rfl, ?_⟩) ?_ ?_
   rotate_left
   ·intro w'
    go_simp
    with_reducible rfl
   rotate_left
   ·exact ga0
   refine pure_ (i := 39) (N := some 78) (v := ?_) (a' := ?_) #[true, true, true, true, true, true, true, true, true, true, true, true, true, true, true, true, true, true, true, true, true, true, true, true, true, true, true, true, true, true, true, true, true, true, true, true, true, false, true, true, false, false, false, false, false, false] rfl rfl (any_of HT_.out (by kernel_rfl)) (fun _ _ _ h => h) (Or.inl ⟨by rfl, ?_⟩) ?_ ?_
   rotate_left
   ·intro w'
    go_simp
    with_reducible rfl
   rotate_left
   ·exact ga0
   refine pure_ (i := 40) (N := some 79) (v := ?_) (a' := ?_) #[true, true, true, true, true, true, true, true, true, true, true, true, true, true, true, true, true, true, true, true, true, true, true, true, true, true, true, true, true, true, true, true, true, true, true, true, true, false, true, true, true, false, false, false, false, false] rfl rfl (any_of HT_.out (by kernel_rfl)) (fun _ _ _ h => h) (Or.inl ⟨by rfl, ?_⟩) ?_ ?_
   rotate_left
   ·intro w'
    go_simp
    with_reducible rfl
   rotate_left
   ·exact ga0
   refine take_ (i := 37) (N := some 76) (v := ?_) (a' := ?_) laws_FnUses.b41_ rfl rfl (take_ofW HT_.out HW_.out (by kernel_rfl)) (fun _ _ _ h => h) (Or.inl ⟨by rfl, ?_⟩) hHeld ?_ ?_
   rotate_left
   ·rintro w' ⟨s0, s1, s2, s3, s4, s5, s6, s7, s8, s9⟩
    go_simp
    with_reducible rfl
   rotate_left
   ·exact ga0
   refine take_ (i := 41) (N := some 80) (v := ?_) (a' := ?_) laws_FnUses.b42_ rfl rfl (take_ofW HT_.out HW_.out (by kernel_rfl)) (fun _ _ _ h => h) (Or.inl ⟨by rfl, ?_⟩) hHeld ?_ ?_
   rotate_left
   ·rintro w' ⟨s0, s1, s2, s3, s4, s5, s6, s7, s8, s9⟩
    go_simp
    with_reducible rfl
   rotate_left
   ·exact ga0
   refine pure_ (i := 42) (N := some 81) (v := ?_) (a' := ?_) laws_FnUses.b43_ rfl rfl (any_of HT_.out (by kernel_rfl)) (fun _ _ _ h => h) (Or.inl ⟨by rfl, ?_⟩) ?_ ?_
   rotate_left
   ·intro w'
    go_simp
    with_reducible rfl
   rotate_left
   ·exact ga0
   refine pure_ (i := 43) (N := some 82) (v := ?_) (a' := ?_) laws_FnUses.b44_ rfl rfl (any_of HT_.out (by kernel_rfl)) (fun _ _ _ h => h) (Or.inl ⟨by rfl, ?_⟩) ?_ ?_
   rotate_left
   ·intro w'
    go_simp
    with_reducible rfl
   rotate_left
   ·exact ga0
   refine pure_ (i := 44) (N := some 83) (v := ?_) (a' := ?_) laws_FnUses.b45_ rfl rfl (any_of HT_.out (by kernel_rfl)) (fun _ _ _ h => h) (Or.inl ⟨by rfl, ?_⟩) ?_ ?_
   rotate_left
   ·intro w'
    go_simp
    with_reducible rfl
   rotate_left
   ·exact ga0
   refine pure_ (i := 45) (N := some 84) (v := ?_) (a' := ?_) laws_FnUses.b46_ rfl rfl (any_of HT_.out (by kernel_rfl)) (fun _ _ _ h => h) (Or.inl ⟨by rfl, ?_⟩) ?_ ?_
   rotate_left
   ·intro w'
    go_simp
    with_reducible rfl
   rotate_left
   ·exact ga0
   refine done_ (done_of HT_.out (by kernel_rfl)) ?_
   try go_wp2
   go_roundg k1
   case measure => have := HK1.out; omega
   case rel => exact ⟨(wrap64 (x5_1 + t542)), (wrap64 (x6_1 + 1)), (g0), (g0), H', ⟨by have := HK1.out; omega⟩, ⟨g1 HO_4.out⟩, ⟨g1 HO_530000.out⟩, ⟨g1 HO_530001.out⟩, ⟨g25 HO_530003.out⟩, ⟨g2 BK529.out⟩, ⟨g12 HB.out GE529.out⟩⟩
def laws_FnUses.Pure : Prop := ∀ (l0 : List Int), l0.length ≤ maxLen → l0.length * 1 ≤ 140737488351232 → (∀ x ∈ l0, (Lit.int .u8 x).wf = true) → ∃ k, laws_FnUses.f k l0 = some true
end Go.Proofs.Yteoikmbdpofhmaa.XFnUses
