import Derived.Test.YteoikmbdpofhmaaProg
import Derived.Below
import Derived.Deep.Draws
import Derived.Deep.AppendLies
import Derived.Maps.AppendAt
import Derived.OwnWalk
import Derived.Laws.BytesArg
import Derived.Laws.MakeOwn
import Derived.Laws.OwnMore
import Derived.Deep.OwnRows
import Derived.Tactics
import Derived.Lib.ConvBytes
import Derived.Laws.Slices
import Derived.WalkKit
import Derived.KernelRfl
import Derived.RowKit3
import Derived.Deep.LoopGhost
import Derived.Deep.QuietTactic
import Derived.BigQuiet
import Derived.WideLaws
import Derived.Deep.DeepCutAuto
import Derived.Deep.CutBlock
import Derived.Deep.RegionHeld3
import Derived.Laws.Rows
import Derived.Lib.AppendStr
import Derived.ArgAppend
import Derived.Laws.IdiomCopy
import Derived.OrdersHeld
import Derived.Laws.BitsLemmas
import Derived.RowKit
import Derived.WalkSpells
import Derived.Lib.LazyBuf
import Derived.Test.YteoikmbdpofhmaaVFnUsesWWords
import Derived.Test.YteoikmbdpofhmaaVFnUsesWLast
import Derived.Test.YteoikmbdpofhmaaVFnUsesWTab
import Derived.Test.YteoikmbdpofhmaaVFnUsesWFour
import Derived.Test.YteoikmbdpofhmaaVFnUsesWQPut
import Derived.Test.YteoikmbdpofhmaaVFnUsesWApart
import Derived.Test.YteoikmbdpofhmaaVFnUsesWArr
import Derived.Test.YteoikmbdpofhmaaVFnUsesWZeros
import Derived.Test.YteoikmbdpofhmaaVFnUsesWFoot
import Derived.Test.YteoikmbdpofhmaaVFnUsesWKept
import Derived.Test.YteoikmbdpofhmaaVFnUsesWShare
import Derived.Test.YteoikmbdpofhmaaVFnUsesWN
import Derived.Test.YteoikmbdpofhmaaVFnUsesWFootNe
import Derived.Test.YteoikmbdpofhmaaVFnUsesWAt
import Derived.Test.YteoikmbdpofhmaaVFnUsesWEqStruct
import Derived.Test.YteoikmbdpofhmaaVFnUsesWRepsOne
import Derived.Test.YteoikmbdpofhmaaVFnUsesWInv
import Derived.Test.YteoikmbdpofhmaaVFnUsesWInvWords
import Derived.Test.YteoikmbdpofhmaaVFnUsesWGuard
import Derived.Test.YteoikmbdpofhmaaVFnUsesWNEv
import Derived.Test.YteoikmbdpofhmaaVFnUsesWMore
namespace Go.Proofs.Yteoikmbdpofhmaa.XFnUses
open Go.RowKit Go.Proofs.YteoikmbdpofhmaaW.PrintWords Go.Proofs.YteoikmbdpofhmaaW.PrintLast Go.Proofs.YteoikmbdpofhmaaW.PrintMore
attribute [local go_sem] max2_int min2_int max_two min_two max_three min_three max_four min_four
set_option linter.unusedVariables false
set_option linter.unusedSimpArgs false
def errW : Option Int → Value
  | none => .nilIface
  | some c => .iface 0 (.int .i64 c)
theorem errW_none : errW none = .nilIface := rfl
theorem errW_some (c : Int) : errW (some c) = .iface 0 (.int .i64 c) := rfl
theorem info3 : (Try.prog.info? 3).map (fun i => (i.zero, i.size, i.bytes)) = some (some (.int .i64 0), 1, 8) := by kernel_rfl
theorem info9 : (Try.prog.info? 9).map (fun i => (i.zero, i.size, i.bytes)) = some (some (.string ⟨#[]⟩), 1, 16) := by kernel_rfl
theorem info68 : (Try.prog.info? 68).map (fun i => (i.zero, i.size, i.bytes)) = some (some (.agg #[(.slice none 0 0)]), 1, 24) := by kernel_rfl
theorem info93 : (Try.prog.info? 93).map (fun i => (i.zero, i.size, i.bytes)) = some (some (.agg #[(.int .i64 0), (.int .i64 0), (.int .i64 0), (.int .i64 0), (.int .i64 0)]), 5, 40) := by kernel_rfl
structure S93 where
  f0 : Int
  f1 : Int
  f2 : Int
  f3 : Int
  f4 : Int
def z93 : S93 := ⟨(0 : Int), (0 : Int), (0 : Int), (0 : Int), (0 : Int)⟩
def k93 : Kd S93 := Kd.iso (Kd.pair (Kd.int .i64) (Kd.pair (Kd.int .i64) (Kd.pair (Kd.int .i64) (Kd.pair (Kd.int .i64) (Kd.int .i64))))) (fun x : S93 => (x.f0, x.f1, x.f2, x.f3, x.f4))
theorem k93_heap : Kd.Heap k93 := Kd.heap_iso _ (Kd.heap_pair (Kd.heap_int .i64) (Kd.heap_pair (Kd.heap_int .i64) (Kd.heap_pair (Kd.heap_int .i64) (Kd.heap_pair (Kd.heap_int .i64) (Kd.heap_int .i64)))))
theorem k93_open {w : World} {x : S93} {cs : List Value} (h : k93.K w x cs) : cs = [.int .i64 x.f0, .int .i64 x.f1, .int .i64 x.f2, .int .i64 x.f3, .int .i64 x.f4] := by
 obtain ⟨_, _, rfl, rfl, ⟨_, _, rfl, rfl, ⟨_, _, rfl, rfl, ⟨_, _, rfl, rfl, rfl⟩⟩⟩⟩ := h
 exact rfl
theorem k93_openM {w : World} {base : Nat} {ok : Nat → Prop} {x : S93} {cs : List Value} (h : k93.M w base ok x cs) : cs = [.int .i64 x.f0, .int .i64 x.f1, .int .i64 x.f2, .int .i64 x.f3, .int .i64 x.f4] := by
 obtain ⟨_, _, rfl, rfl, ⟨_, _, rfl, rfl, ⟨_, _, rfl, rfl, ⟨_, _, rfl, rfl, rfl⟩⟩⟩⟩ := h
 exact rfl
theorem k93_mkM (w : World) (base : Nat) (ok : Nat → Prop) (x : S93)  : k93.M w base ok x [.int .i64 x.f0, .int .i64 x.f1, .int .i64 x.f2, .int .i64 x.f3, .int .i64 x.f4] := ⟨[.int .i64 x.f0], [.int .i64 x.f1, .int .i64 x.f2, .int .i64 x.f3, .int .i64 x.f4], rfl, rfl, ⟨[.int .i64 x.f1], [.int .i64 x.f2, .int .i64 x.f3, .int .i64 x.f4], rfl, rfl, ⟨[.int .i64 x.f2], [.int .i64 x.f3, .int .i64 x.f4], rfl, rfl, ⟨[.int .i64 x.f3], [.int .i64 x.f4], rfl, rfl, rfl⟩⟩⟩⟩
def rd_T93 (xs : List S93) (i : Int) : S93 := xs.getD i.toNat z93
theorem at_T93 {w : World} {A : Option Addr} {n : Nat} {xs : List S93} (h : Kd.C k93 w A n xs) (i : Int) (h0 : 0 ≤ i) (h1 : i < n) : ∃ ad , A = some ad ∧ w.cell? (ad.add (i.toNat * 5)) = some (.int .i64 (rd_T93 xs i).f0) ∧ w.cell? ⟨(ad.add (i.toNat * 5)).block, (ad.add (i.toNat * 5)).off + 1, none⟩ = some (.int .i64 (rd_T93 xs i).f1) ∧ w.cell? ⟨(ad.add (i.toNat * 5)).block, (ad.add (i.toNat * 5)).off + 2, none⟩ = some (.int .i64 (rd_T93 xs i).f2) ∧ w.cell? ⟨(ad.add (i.toNat * 5)).block, (ad.add (i.toNat * 5)).off + 3, none⟩ = some (.int .i64 (rd_T93 xs i).f3) ∧ w.cell? ⟨(ad.add (i.toNat * 5)).block, (ad.add (i.toNat * 5)).off + 4, none⟩ = some (.int .i64 (rd_T93 xs i).f4) := by
 obtain ⟨ad, c, e, _, hK, hc0⟩ := Kd.C_get h z93 i h0 h1
 have hc : ∀ j u, c[j]? = some u → w.cell? (ad.add (i.toNat * 5 + j)) = some u := hc0
 obtain rfl := k93_open hK
 exact ⟨ad, e, hc 0 _ rfl, by rw [← add_field _ _ 1 (by omega)]; exact hc 1 _ rfl, by rw [← add_field _ _ 2 (by omega)]; exact hc 2 _ rfl, by rw [← add_field _ _ 3 (by omega)]; exact hc 3 _ rfl, by rw [← add_field _ _ 4 (by omega)]; exact hc 4 _ rfl⟩
structure S68 where
  f0 : (List S93)
def z68 : S68 := ⟨([] : List S93)⟩
def k68 : Kd S68 := Kd.iso (Kd.slice 93 k93) (fun x : S68 => x.f0)
theorem k68_heap : Kd.Heap k68 := Kd.heap_iso _ (Kd.heap_slice 93 k93_heap)
theorem k68_open {w : World} {x : S68} {cs : List Value} (h : k68.K w x cs) : ∃ A0 c0, cs = [.slice A0 x.f0.length c0] ∧ x.f0.length ≤ c0 ∧ k93.C w A0 x.f0.length x.f0 := by
 obtain ⟨A0, c0, rfl, l0, g0⟩ := h
 exact ⟨A0, c0, rfl, l0, g0⟩
theorem k68_mkM (w : World) (base : Nat) (ok : Nat → Prop) (x : S68) {v0 : Value} (g0 : k93.R 93 w base ok v0 x.f0) : k68.M w base ok x [v0] := ⟨v0, rfl, g0⟩
def rd_T68 (xs : List S68) (i : Int) : S68 := xs.getD i.toNat z68
theorem at_T68 {w : World} {A : Option Addr} {n : Nat} {xs : List S68} (h : Kd.C k68 w A n xs) (i : Int) (h0 : 0 ≤ i) (h1 : i < n) : ∃ ad A0 c0, A = some ad ∧ w.cell? (ad.add i.toNat) = some (.slice A0 (rd_T68 xs i).f0.length c0) ∧ (rd_T68 xs i).f0.length ≤ c0 ∧ k93.C w A0 (rd_T68 xs i).f0.length (rd_T68 xs i).f0 := by
 obtain ⟨ad, c, e, _, hK, hc0⟩ := Kd.C_get h z68 i h0 h1
 have hc : ∀ j u, c[j]? = some u → w.cell? (ad.add (i.toNat * 1 + j)) = some u := hc0
 obtain ⟨A0, c0, rfl, l0, g0⟩ := k68_open hK
 exact ⟨ad, A0, c0, e, by have hq := hc 0 _ rfl; rwa [Nat.mul_one, Nat.add_zero] at hq, l0, g0⟩
theorem goesC_ {P : Program} {ops : Array Oper} {Q : Exit → Act → World → Prop} {oi : Oper} {N : Option Tmp} {a : Act} {w : World} {K : Act → World → Prop} {f : FuncId} {fn : Func} {x : Operand} {ao : Array Operand} {ts : Array TypeId} (hf : P.funcs[f]? = some fn) (hname : (fn.name == "runtime.NumGoroutine") = false) (hb : fn.body.isSome = true) (args caps : Array Value)
    (hw : Region.wanted oi (yielded ops a.tmps) = true) (hN : oi.dst = N) (hop : oi.op = .call { callee := .value x, args := ao, argTypes := ts }) (hx : a.eval x = .func (.func f) #[] caps) (hargs : ao.map a.eval ++ caps = args)
    (h : Calls P f args w fun e w' => ∃ v, e = .returned v ∧ K (a.put N v) w') : if Region.wanted oi (yielded ops a.tmps) = true then Oper.wp P oi a w K Q else K (a.put N undef) w := by
  refine call_ f args hw hN ?_ h
  have he := enters_ hf hname hb args w
  unfold execOp
  simp [hop, resolve, Deferred.ofValue, invoke, hargs, he, hx]
theorem ga0 {p : Prop} (g : p := by simp only [Act.put, List.setIfInBounds_toArray, List.set_cons_zero, List.set_cons_succ, i64_w, i32_w]; rfl) : p := g
theorem ga1 {p : Prop} (g : p := by simp only [putAll, Act.put, List.setIfInBounds_toArray, List.set_cons_zero, List.set_cons_succ]; rfl) : p := g
theorem g0 {p : Prop} (g : p := by first | rfl | (simp; done) | (simp [*]; done)) : p := g
theorem g1 {p q0 : Prop} (h0_ : q0) (g : q0 → p := by intro h0_; (with_reducible repeat (first | apply Kd.R_alloc | apply Kd.R_drewN | apply Kd.R_drew)); exact h0_) : p := g h0_
theorem g2 {p q0 : Prop} (h0_ : q0) (g : q0 → p := by intro h0_; (with_reducible repeat (first | refine blk_drewN ?_ _ | refine blk_drew ?_ | refine blk_alloc ?_ _)); exact h0_) : p := g h0_
theorem g3 {p q0 : Prop} (h0_ : q0) (g : q0 → p := by intro h0_; repeat (first | (with_reducible first | exact h0_ | apply Kept.alloc | apply Kept.drewN | apply Kept.drew) | exact h0_)) : p := g h0_
theorem g4 {p q0 : Prop} (h0_ : q0) (g : q0 → p := by intro h0_; repeat (first | (with_reducible first | exact h0_ | apply below_alloc | apply pw_below_drewN | apply below_drew1) | exact h0_)) : p := g h0_
theorem g5 {p : Prop} (g : p := by first | rfl | (simp [errW_none, errW_some] <;> rfl) | (simp [*, errW_none, errW_some] <;> rfl)) : p := g
theorem g6 {p : Prop} (g : p := by first | (with_reducible assumption) | assumption) : p := g
theorem g7 {p q0 : Prop} (h0_ : q0) (g : q0 → p := by intro h0_; exact by (with_reducible repeat (first | refine blk_drewN ?_ _ | refine blk_drew ?_ | refine blk_alloc ?_ _)); exact h0_) : p := g h0_
theorem g8 {p q0 q1 : Prop} (h0_ : q0) (h1_ : q1) (g : q0 → q1 → p := by intro h0_ h1_; exact Kd.C_kept_now h0_ (by repeat (first | (with_reducible first | exact h1_ | apply Kept.alloc | apply Kept.drewN | apply Kept.drew) | exact h1_))) : p := g h0_ h1_
theorem g9 {p : Prop} (g : p := by (try simp only [List.map_toArray, List.map_cons, List.map_nil]); first | done | rfl | (simp only [List.length_drop, List.length_take]; rfl)) : p := g
theorem g10 {p : Prop} (g : p := by first | (go_simp; done) | (go_simp; rfl)) : p := g
theorem g11 {p q0 : Prop} (h0_ : q0) (g : q0 → p := by intro h0_; rw [hg]; exact (below_size (by repeat (first | (with_reducible first | exact h0_ | apply below_alloc | apply pw_below_drewN | apply below_drew1) | exact h0_)))) : p := g h0_
theorem g12 {p q0 q1 : Prop} (h0_ : q0) (h1_ : q1) (g : q0 → q1 → p := by intro h0_ h1_; repeat (first | (with_reducible first | exact h0_ | apply below_alloc | apply pw_below_drewN | apply below_drew1 | refine below_set ?_ h1_) | exact h0_)) : p := g h0_ h1_
theorem g13 {p q0 q1 : Prop} (h0_ : q0) (h1_ : q1) (g : q0 → q1 → p := by intro h0_ h1_; exact (by repeat (first | (with_reducible first | exact h0_ | apply below_alloc | apply pw_below_drewN | apply below_drew1 | refine below_set ?_ h1_) | exact h0_))) : p := g h0_ h1_
theorem g14 {p q0 : Prop} (h0_ : q0) (g : q0 → p := by intro h0_; exact (by (with_reducible repeat (first | apply Kd.R_alloc | apply Kd.R_drewN | apply Kd.R_drew)); exact h0_)) : p := g h0_
theorem g15 {p q0 q1 : Prop} (h0_ : q0) (h1_ : q1) (g : q0 → q1 → p := by intro h0_ h1_; exact (below_size (by repeat (first | (with_reducible first | exact h0_ | apply below_alloc | apply pw_below_drewN | apply below_drew1 | refine below_set ?_ h1_) | exact h0_)))) : p := g h0_ h1_
theorem g16 {p q0 q1 : Prop} (h0_ : q0) (h1_ : q1) (g : q0 → q1 → p := by intro h0_ h1_; rw [hg]; exact (below_size (by repeat (first | (with_reducible first | exact h0_ | apply below_alloc | apply pw_below_drewN | apply below_drew1 | refine below_set ?_ h1_) | exact h0_)))) : p := g h0_ h1_
theorem g17 {p q0 q1 : Prop} (h0_ : q0) (h1_ : q1) (g : q0 → q1 → p := by intro h0_ h1_; (with_reducible repeat (first | refine blk_drewN ?_ _ | refine blk_drew ?_ | refine blk_alloc ?_ _)); refine blk_far ?_ h0_ _; (with_reducible repeat (first | refine blk_drewN ?_ _ | refine blk_drew ?_ | refine blk_alloc ?_ _)); refine blk_far ?_ h0_ _; (with_reducible repeat (first | refine blk_drewN ?_ _ | refine blk_drew ?_ | refine blk_alloc ?_ _)); refine blk_far ?_ h0_ _; (with_reducible repeat (first | refine blk_drewN ?_ _ | refine blk_drew ?_ | refine blk_alloc ?_ _)); refine blk_far ?_ h0_ _; (with_reducible repeat (first | refine blk_drewN ?_ _ | refine blk_drew ?_ | refine blk_alloc ?_ _)); refine blk_far ?_ h0_ _; (with_reducible repeat (first | refine blk_drewN ?_ _ | refine blk_drew ?_ | refine blk_alloc ?_ _)); exact h1_) : p := g h0_ h1_
theorem g18 {p q0 q1 q2 : Prop} (h0_ : q0) (h1_ : q1) (h2_ : q2) (g : q0 → q1 → q2 → p := by intro h0_ h1_ h2_; repeat (first | (with_reducible first | exact h0_ | apply below_alloc | apply pw_below_drewN | apply below_drew1 | refine below_set ?_ h1_ | refine below_set ?_ h2_) | exact h0_)) : p := g h0_ h1_ h2_
theorem g19 {p q0 : Prop} (h0_ : q0) (g : q0 → p := by intro h0_; repeat (first | exact (by repeat (first | (with_reducible exact h0_) | (with_reducible refine Kd.C_alloc ?_ _) | (with_reducible refine Kd.C_drewN ?_ _) | (with_reducible refine Kd.C_drew ?_) | exact h0_)) | (with_reducible refine Kd.C_alloc ?_ _) | (with_reducible refine Kd.C_drewN ?_ _) | (with_reducible refine Kd.C_drew ?_))) : p := g h0_
theorem g20 {p q0 q1 : Prop} (h0_ : q0) (h1_ : q1) (g : q0 → q1 → p := by intro h0_ h1_; repeat (first | exact (Kd.C_below h0_ h1_) | (with_reducible refine Kd.C_alloc ?_ _) | (with_reducible refine Kd.C_drewN ?_ _) | (with_reducible refine Kd.C_drew ?_))) : p := g h0_ h1_
theorem g21 {p : Prop} (g : p := by repeat (first | exact Drawn0.refl _ | apply Drawn0.step)) : p := g
theorem g22 {p q0 q1 : Prop} (h0_ : q0) (h1_ : q1) (g : q0 → q1 → p := by intro h0_ h1_; (with_reducible repeat (first | refine blk_drewN ?_ _ | refine blk_drew ?_ | refine blk_alloc ?_ _)); refine blk_far ?_ h0_ _; (with_reducible repeat (first | refine blk_drewN ?_ _ | refine blk_drew ?_ | refine blk_alloc ?_ _)); exact h1_) : p := g h0_ h1_
theorem g23 {p q0 q1 q2 : Prop} (h0_ : q0) (h1_ : q1) (h2_ : q2) (g : q0 → q1 → q2 → p := by intro h0_ h1_ h2_; repeat (first | exact (Kd.C_below h0_ (by repeat (first | (with_reducible first | exact h1_ | apply below_alloc | apply pw_below_drewN | apply below_drew1 | refine below_set ?_ h2_) | exact h1_))) | (with_reducible refine Kd.C_alloc ?_ _) | (with_reducible refine Kd.C_drewN ?_ _) | (with_reducible refine Kd.C_drew ?_))) : p := g h0_ h1_ h2_
theorem g24 {p q0 : Prop} (h0_ : q0) (g : q0 → p := by intro h0_; repeat (first | exact h0_ | (with_reducible refine Kd.C_alloc ?_ _) | (with_reducible refine Kd.C_drewN ?_ _) | (with_reducible refine Kd.C_drew ?_))) : p := g h0_
theorem g25 {p q0 : Prop} (h0_ : q0) (g : q0 → p := by intro h0_; (with_reducible repeat (first | apply Kd.S_alloc | apply Kd.S_drewN | apply Kd.S_drew)); exact h0_) : p := g h0_
theorem g26 {p q0 : Prop} (h0_ : q0) (g : q0 → p := by intro h0_; repeat (first | exact (Kd.R_reads' h0_).2.2 | (with_reducible refine Kd.C_alloc ?_ _) | (with_reducible refine Kd.C_drewN ?_ _) | (with_reducible refine Kd.C_drew ?_))) : p := g h0_
theorem g27 {p q0 : Prop} (h0_ : q0) (g : q0 → p := by intro h0_; repeat (first | exact (Kd.S_reads' h0_).2.2 | (with_reducible refine Kd.C_alloc ?_ _) | (with_reducible refine Kd.C_drewN ?_ _) | (with_reducible refine Kd.C_drew ?_))) : p := g h0_
theorem g28 {p : Prop} (g : p := by (try simp only [List.map_toArray, List.map_cons, List.map_nil]); first | done | (simp only [hji29]; rfl) | rfl | (simp only [List.length_drop, List.length_take]; rfl)) : p := g
theorem g29 {p q0 : Prop} (h0_ : q0) (g : q0 → p := by intro h0_; repeat (first | (with_reducible first | exact h0_ | apply IsS105.alloc | apply IsS105.drewN | apply IsS105.drew | apply IsS105.set_1 | apply IsS105.set_2) | exact h0_)) : p := g h0_
theorem g30 {p q0 q1 : Prop} (h0_ : q0) (h1_ : q1) (g : q0 → q1 → p := by intro h0_ h1_; repeat (first | (with_reducible first | exact h0_ | apply below_alloc | apply pw_below_drewN | apply below_drew1 | refine below_set ?_ (IsS105.ge h1_)) | exact h0_)) : p := g h0_ h1_
theorem g31 {p q0 : Prop} (h0_ : q0) (g : q0 → p := by intro h0_; repeat (first | (with_reducible first | exact h0_ | apply KeepBut.set_ | apply keep_drewN | apply keep_drew | apply keep_alloc) | exact h0_)) : p := g h0_
theorem g32 {p q0 q1 q2 : Prop} (h0_ : q0) (h1_ : q1) (h2_ : q2) (g : q0 → q1 → q2 → p := by intro h0_ h1_ h2_; rw [hg]; exact (below_size (by repeat (first | (with_reducible first | exact h0_ | apply below_alloc | apply pw_below_drewN | apply below_drew1 | refine below_set ?_ h1_ | refine below_set ?_ h2_) | exact h0_)))) : p := g h0_ h1_ h2_
theorem g33 {p q0 q1 q2 q3 : Prop} (h0_ : q0) (h1_ : q1) (h2_ : q2) (h3_ : q3) (g : q0 → q1 → q2 → q3 → p := by intro h0_ h1_ h2_ h3_; repeat (first | (with_reducible first | exact h0_ | apply below_alloc | apply pw_below_drewN | apply below_drew1 | refine below_set ?_ h1_ | refine below_set ?_ h2_ | refine below_set ?_ h3_) | exact h0_)) : p := g h0_ h1_ h2_ h3_
theorem g34 {p q0 q1 q2 q3 : Prop} (h0_ : q0) (h1_ : q1) (h2_ : q2) (h3_ : q3) (g : q0 → q1 → q2 → q3 → p := by intro h0_ h1_ h2_ h3_; exact (by repeat (first | (with_reducible first | exact h0_ | apply below_alloc | apply pw_below_drewN | apply below_drew1 | refine below_set ?_ h1_ | refine below_set ?_ h2_ | refine below_set ?_ h3_) | exact h0_))) : p := g h0_ h1_ h2_ h3_
theorem g35 {p q0 q1 q2 q3 : Prop} (h0_ : q0) (h1_ : q1) (h2_ : q2) (h3_ : q3) (g : q0 → q1 → q2 → q3 → p := by intro h0_ h1_ h2_ h3_; exact (below_size (by repeat (first | (with_reducible first | exact h0_ | apply below_alloc | apply pw_below_drewN | apply below_drew1 | refine below_set ?_ h1_ | refine below_set ?_ h2_ | refine below_set ?_ h3_) | exact h0_)))) : p := g h0_ h1_ h2_ h3_
theorem g36 {p q0 q1 : Prop} (h0_ : q0) (h1_ : q1) (g : q0 → q1 → p := by intro h0_ h1_; (with_reducible repeat (first | refine blk_drewN ?_ _ | refine blk_drew ?_ | refine blk_alloc ?_ _)); refine blk_far ?_ h0_ _; (with_reducible repeat (first | refine blk_drewN ?_ _ | refine blk_drew ?_ | refine blk_alloc ?_ _)); refine blk_far ?_ h0_ _; (with_reducible repeat (first | refine blk_drewN ?_ _ | refine blk_drew ?_ | refine blk_alloc ?_ _)); exact h1_) : p := g h0_ h1_
theorem g37 {p q0 q1 : Prop} (h0_ : q0) (h1_ : q1) (g : q0 → q1 → p := by intro h0_ h1_; rw [hw]; exact (by (with_reducible repeat (first | refine blk_drewN ?_ _ | refine blk_drew ?_ | refine blk_alloc ?_ _)); refine blk_far ?_ h0_ _; (with_reducible repeat (first | refine blk_drewN ?_ _ | refine blk_drew ?_ | refine blk_alloc ?_ _)); exact h1_)) : p := g h0_ h1_
theorem g38 {p q0 q1 q2 q3 : Prop} (h0_ : q0) (h1_ : q1) (h2_ : q2) (h3_ : q3) (g : q0 → q1 → q2 → q3 → p := by intro h0_ h1_ h2_ h3_; rw [hw]; exact (by repeat (first | (with_reducible first | exact h0_ | apply below_alloc | apply pw_below_drewN | apply below_drew1 | refine below_set ?_ h1_ | refine below_set ?_ h2_ | refine below_set ?_ h3_) | exact h0_))) : p := g h0_ h1_ h2_ h3_
theorem g39 {p q0 q1 : Prop} (h0_ : q0) (h1_ : q1) (g : q0 → q1 → p := by intro h0_ h1_; repeat (first | (with_reducible first | exact h0_ | apply IsS105.alloc | apply IsS105.drewN | apply IsS105.drew | apply IsS105.set_1 | apply IsS105.set_2 | refine IsS105.far ?_ h1_ _) | exact h0_)) : p := g h0_ h1_
theorem g40 {p q0 q1 q2 : Prop} (h0_ : q0) (h1_ : q1) (h2_ : q2) (g : q0 → q1 → q2 → p := by intro h0_ h1_ h2_; repeat (first | (with_reducible first | exact h0_ | apply below_alloc | apply pw_below_drewN | apply below_drew1 | refine below_set ?_ (IsS105.ge h1_) | refine below_set ?_ h2_) | exact h0_)) : p := g h0_ h1_ h2_
theorem g41 {p q0 q1 : Prop} (h0_ : q0) (h1_ : q1) (g : q0 → q1 → p := by intro h0_ h1_; repeat (first | (with_reducible first | exact h0_ | apply KeepBut.set_ | apply keep_drewN | apply keep_drew | apply keep_alloc | refine keep_far ?_ h1_ _) | exact h0_)) : p := g h0_ h1_
theorem g42 {p q0 q1 q2 : Prop} (h0_ : q0) (h1_ : q1) (h2_ : q2) (g : q0 → q1 → q2 → p := by intro h0_ h1_ h2_; repeat (first | (with_reducible first | exact h0_ | apply IsS105.alloc | apply IsS105.drewN | apply IsS105.drew | apply IsS105.set_1 | apply IsS105.set_2 | refine IsS105.far ?_ h1_ _ | refine IsS105.far ?_ h2_ _) | exact h0_)) : p := g h0_ h1_ h2_
theorem g43 {p q0 q1 q2 q3 : Prop} (h0_ : q0) (h1_ : q1) (h2_ : q2) (h3_ : q3) (g : q0 → q1 → q2 → q3 → p := by intro h0_ h1_ h2_ h3_; repeat (first | (with_reducible first | exact h0_ | apply below_alloc | apply pw_below_drewN | apply below_drew1 | refine below_set ?_ (IsS105.ge h1_) | refine below_set ?_ h2_ | refine below_set ?_ h3_) | exact h0_)) : p := g h0_ h1_ h2_ h3_
theorem g44 {p q0 q1 q2 : Prop} (h0_ : q0) (h1_ : q1) (h2_ : q2) (g : q0 → q1 → q2 → p := by intro h0_ h1_ h2_; repeat (first | (with_reducible first | exact h0_ | apply KeepBut.set_ | apply keep_drewN | apply keep_drew | apply keep_alloc | refine keep_far ?_ h1_ _ | refine keep_far ?_ h2_ _) | exact h0_)) : p := g h0_ h1_ h2_
theorem g45 {p : Prop} (g : p := by first | (simp only [putAll, Act.put, List.setIfInBounds_toArray, List.set_cons_zero, List.set_cons_succ]; done) | (simp only [putAll, Act.put, List.setIfInBounds_toArray, List.set_cons_zero, List.set_cons_succ]; rfl)) : p := g
theorem g46 {p q0 q1 q2 q3 : Prop} (h0_ : q0) (h1_ : q1) (h2_ : q2) (h3_ : q3) (g : q0 → q1 → q2 → q3 → p := by intro h0_ h1_ h2_ h3_; repeat (first | (with_reducible first | exact h0_ | apply IsS105.alloc | apply IsS105.drewN | apply IsS105.drew | apply IsS105.set_1 | apply IsS105.set_2 | refine IsS105.far ?_ h1_ _ | refine IsS105.far ?_ h2_ _ | refine IsS105.far ?_ h3_ _) | exact h0_)) : p := g h0_ h1_ h2_ h3_
theorem g47 {p q0 q1 q2 q3 : Prop} (h0_ : q0) (h1_ : q1) (h2_ : q2) (h3_ : q3) (g : q0 → q1 → q2 → q3 → p := by intro h0_ h1_ h2_ h3_; repeat (first | (with_reducible first | exact h0_ | apply KeepBut.set_ | apply keep_drewN | apply keep_drew | apply keep_alloc | refine keep_far ?_ h1_ _ | refine keep_far ?_ h2_ _ | refine keep_far ?_ h3_ _) | exact h0_)) : p := g h0_ h1_ h2_ h3_
theorem g48 {p q0 q1 q2 q3 q4 : Prop} (h0_ : q0) (h1_ : q1) (h2_ : q2) (h3_ : q3) (h4_ : q4) (g : q0 → q1 → q2 → q3 → q4 → p := by intro h0_ h1_ h2_ h3_ h4_; repeat (first | (with_reducible first | exact h0_ | apply below_alloc | apply pw_below_drewN | apply below_drew1 | refine below_set ?_ (IsS105.ge h1_) | refine below_set ?_ h2_ | refine below_set ?_ h3_ | refine below_set ?_ h4_) | exact h0_)) : p := g h0_ h1_ h2_ h3_ h4_
theorem g49 {p q0 q1 : Prop} (h0_ : q0) (h1_ : q1) (g : q0 → q1 → p := by intro h0_ h1_; (with_reducible repeat (first | refine blk_drewN ?_ _ | refine blk_drew ?_ | refine blk_alloc ?_ _)); refine blk_far ?_ h0_ _; (with_reducible repeat (first | refine blk_drewN ?_ _ | refine blk_drew ?_ | refine blk_alloc ?_ _)); refine blk_far ?_ h0_ _; (with_reducible repeat (first | refine blk_drewN ?_ _ | refine blk_drew ?_ | refine blk_alloc ?_ _)); refine blk_far ?_ h0_ _; (with_reducible repeat (first | refine blk_drewN ?_ _ | refine blk_drew ?_ | refine blk_alloc ?_ _)); refine blk_far ?_ h0_ _; (with_reducible repeat (first | refine blk_drewN ?_ _ | refine blk_drew ?_ | refine blk_alloc ?_ _)); exact h1_) : p := g h0_ h1_
theorem g50 {p q0 q1 : Prop} (h0_ : q0) (h1_ : q1) (g : q0 → q1 → p := by intro h0_ h1_; exact far_slice (IsS105.own_ne h0_ h1_ (by decide))) : p := g h0_ h1_
theorem g51 {p q0 q1 q2 q3 q4 q5 : Prop} (h0_ : q0) (h1_ : q1) (h2_ : q2) (h3_ : q3) (h4_ : q4) (h5_ : q5) (g : q0 → q1 → q2 → q3 → q4 → q5 → p := by intro h0_ h1_ h2_ h3_ h4_ h5_; repeat (first | (with_reducible first | exact h0_ | apply below_alloc | apply pw_below_drewN | apply below_drew1 | refine below_set ?_ (Nat.le_trans h1_ h2_) | refine below_set ?_ (IsS105.ge h3_) | refine below_set ?_ h4_ | refine below_set ?_ h5_) | exact h0_)) : p := g h0_ h1_ h2_ h3_ h4_ h5_
end Go.Proofs.Yteoikmbdpofhmaa.XFnUses
