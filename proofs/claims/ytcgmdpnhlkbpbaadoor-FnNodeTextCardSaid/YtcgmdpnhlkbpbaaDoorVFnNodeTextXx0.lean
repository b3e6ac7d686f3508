import Derived.Test.YtcgmdpnhlkbpbaaDoorProg
import Derived.Below
import Derived.Deep.Draws
import Derived.Deep.AppendLies
import Derived.Maps.AppendAt
import Derived.OwnWalk
import Derived.Laws.BytesArg
import Derived.Laws.MakeOwn
import Derived.Laws.OwnMore
import Derived.Deep.OwnRows
import Derived.Tactics
import Derived.Lib.ConvBytes
import Derived.Laws.Slices
import Derived.WalkKit
import Derived.KernelRfl
import Derived.RowKit3
import Derived.Deep.LoopGhost
import Derived.Deep.QuietTactic
import Derived.BigQuiet
import Derived.WideLaws
import Derived.Deep.DeepCutAuto
import Derived.Deep.CutBlock
import Derived.Deep.RegionHeld3
import Derived.Laws.Rows
import Derived.Lib.AppendStr
import Derived.ArgAppend
import Derived.Laws.IdiomCopy
import Derived.OrdersHeld
import Derived.Laws.BitsLemmas
import Derived.RowKit
import Derived.WalkSpells
import Derived.Lib.LazyBuf
import Derived.Test.YtcgmdpnhlkbpbaaDoorVFnNodeTextShelf
import Derived.Lib.LaidTab
import Derived.Lib.AppendIntMem
import Derived.Lib.AtoiAllCases
import Derived.Lib.UnsafeStr
import Derived.Test.YtcgmdpnhlkbpbaaDoorVFnNodeTextWWords
import Derived.Test.YtcgmdpnhlkbpbaaDoorVFnNodeTextWLast
import Derived.Test.YtcgmdpnhlkbpbaaDoorVFnNodeTextWTab
import Derived.Test.YtcgmdpnhlkbpbaaDoorVFnNodeTextWFour
import Derived.Test.YtcgmdpnhlkbpbaaDoorVFnNodeTextWQPut
import Derived.Test.YtcgmdpnhlkbpbaaDoorVFnNodeTextWApart
import Derived.Test.YtcgmdpnhlkbpbaaDoorVFnNodeTextWArr
import Derived.Test.YtcgmdpnhlkbpbaaDoorVFnNodeTextWZeros
import Derived.Test.YtcgmdpnhlkbpbaaDoorVFnNodeTextWFoot
import Derived.Test.YtcgmdpnhlkbpbaaDoorVFnNodeTextWKept
import Derived.Test.YtcgmdpnhlkbpbaaDoorVFnNodeTextWShare
import Derived.Test.YtcgmdpnhlkbpbaaDoorVFnNodeTextWN
import Derived.Test.YtcgmdpnhlkbpbaaDoorVFnNodeTextWFootNe
import Derived.Test.YtcgmdpnhlkbpbaaDoorVFnNodeTextWAt
import Derived.Test.YtcgmdpnhlkbpbaaDoorVFnNodeTextWEqStruct
import Derived.Test.YtcgmdpnhlkbpbaaDoorVFnNodeTextWRepsOne
import Derived.Test.YtcgmdpnhlkbpbaaDoorVFnNodeTextWInv
import Derived.Test.YtcgmdpnhlkbpbaaDoorVFnNodeTextWInvWords
import Derived.Test.YtcgmdpnhlkbpbaaDoorVFnNodeTextWGuard
import Derived.Test.YtcgmdpnhlkbpbaaDoorVFnNodeTextWNEv
import Derived.Test.YtcgmdpnhlkbpbaaDoorVFnNodeTextWMore
namespace Go.Proofs.YtcgmdpnhlkbpbaaDoor.XFnNodeText
open Go.RowKit Go.Proofs.YtcgmdpnhlkbpbaaDoorW.PrintWords Go.Proofs.YtcgmdpnhlkbpbaaDoorW.PrintLast Go.Proofs.YtcgmdpnhlkbpbaaDoorW.PrintMore
attribute [local go_sem] max2_int min2_int max_two min_two max_three min_three max_four min_four
set_option linter.unusedVariables false
set_option linter.unusedSimpArgs false
def errW : Option Int → Value
  | none => .nilIface
  | some c => .iface 0 (.int .i64 c)
theorem errW_none : errW none = .nilIface := rfl
theorem errW_some (c : Int) : errW (some c) = .iface 0 (.int .i64 c) := rfl
theorem info3 : (Tryd.prog.info? 3).map (fun i => (i.zero, i.size, i.bytes)) = some (some (.int .i64 0), 1, 8) := by kernel_rfl
theorem info23 : (Tryd.prog.info? 23).map (fun i => (i.zero, i.size, i.bytes)) = some (some (.agg #[(.int .i64 0), (.int .i64 0), (.int .i64 0), (.int .i64 0), (.int .i64 0)]), 5, 40) := by kernel_rfl
structure S23 where
  f0 : Int
  f1 : Int
  f2 : Int
  f3 : Int
  f4 : Int
def z23 : S23 := ⟨(0 : Int), (0 : Int), (0 : Int), (0 : Int), (0 : Int)⟩
def k23 : Kd S23 := Kd.iso (Kd.pair (Kd.int .i64) (Kd.pair (Kd.int .i64) (Kd.pair (Kd.int .i64) (Kd.pair (Kd.int .i64) (Kd.int .i64))))) (fun x : S23 => (x.f0, x.f1, x.f2, x.f3, x.f4))
theorem k23_open {w : World} {x : S23} {cs : List Value} (h : k23.K w x cs) : cs = [.int .i64 x.f0, .int .i64 x.f1, .int .i64 x.f2, .int .i64 x.f3, .int .i64 x.f4] := by
 obtain ⟨_, _, rfl, rfl, ⟨_, _, rfl, rfl, ⟨_, _, rfl, rfl, ⟨_, _, rfl, rfl, rfl⟩⟩⟩⟩ := h
 exact rfl
theorem k23_openM {w : World} {base : Nat} {ok : Nat → Prop} {x : S23} {cs : List Value} (h : k23.M w base ok x cs) : cs = [.int .i64 x.f0, .int .i64 x.f1, .int .i64 x.f2, .int .i64 x.f3, .int .i64 x.f4] := by
 obtain ⟨_, _, rfl, rfl, ⟨_, _, rfl, rfl, ⟨_, _, rfl, rfl, ⟨_, _, rfl, rfl, rfl⟩⟩⟩⟩ := h
 exact rfl
theorem k23_mkM (w : World) (base : Nat) (ok : Nat → Prop) (x : S23)  : k23.M w base ok x [.int .i64 x.f0, .int .i64 x.f1, .int .i64 x.f2, .int .i64 x.f3, .int .i64 x.f4] := ⟨[.int .i64 x.f0], [.int .i64 x.f1, .int .i64 x.f2, .int .i64 x.f3, .int .i64 x.f4], rfl, rfl, ⟨[.int .i64 x.f1], [.int .i64 x.f2, .int .i64 x.f3, .int .i64 x.f4], rfl, rfl, ⟨[.int .i64 x.f2], [.int .i64 x.f3, .int .i64 x.f4], rfl, rfl, ⟨[.int .i64 x.f3], [.int .i64 x.f4], rfl, rfl, rfl⟩⟩⟩⟩
def rd_T23 (xs : List S23) (i : Int) : S23 := xs.getD i.toNat z23
theorem at_T23 {w : World} {A : Option Addr} {n : Nat} {xs : List S23} (h : Kd.C k23 w A n xs) (i : Int) (h0 : 0 ≤ i) (h1 : i < n) : ∃ ad , A = some ad ∧ w.cell? (ad.add (i.toNat * 5)) = some (.int .i64 (rd_T23 xs i).f0) ∧ w.cell? ⟨(ad.add (i.toNat * 5)).block, (ad.add (i.toNat * 5)).off + 1, none⟩ = some (.int .i64 (rd_T23 xs i).f1) ∧ w.cell? ⟨(ad.add (i.toNat * 5)).block, (ad.add (i.toNat * 5)).off + 2, none⟩ = some (.int .i64 (rd_T23 xs i).f2) ∧ w.cell? ⟨(ad.add (i.toNat * 5)).block, (ad.add (i.toNat * 5)).off + 3, none⟩ = some (.int .i64 (rd_T23 xs i).f3) ∧ w.cell? ⟨(ad.add (i.toNat * 5)).block, (ad.add (i.toNat * 5)).off + 4, none⟩ = some (.int .i64 (rd_T23 xs i).f4) := by
 obtain ⟨ad, c, e, _, hK, hc0⟩ := Kd.C_get h z23 i h0 h1
 have hc : ∀ j u, c[j]? = some u → w.cell? (ad.add (i.toNat * 5 + j)) = some u := hc0
 obtain rfl := k23_open hK
 exact ⟨ad, e, hc 0 _ rfl, by rw [← add_field _ _ 1 (by omega)]; exact hc 1 _ rfl, by rw [← add_field _ _ 2 (by omega)]; exact hc 2 _ rfl, by rw [← add_field _ _ 3 (by omega)]; exact hc 3 _ rfl, by rw [← add_field _ _ 4 (by omega)]; exact hc 4 _ rfl⟩
def TabW (w : World) : Prop := (Lib.TabIs Tryd.prog w "internal/strconv.uint64pow10" .u64 Lib.pow10Tab) ∧ (∃ m, w.cell? ⟨0, 0, none⟩ = some (.int .i64 m)) ∧ (∃ te pe, w.cell? ⟨1, 0, none⟩ = some (.iface te pe)) ∧ (∃ te pe, w.cell? ⟨2, 0, none⟩ = some (.iface te pe))
theorem tabW_pow {w : World} (h : TabW w) : Lib.TabIs Tryd.prog w "internal/strconv.uint64pow10" .u64 Lib.pow10Tab := by unfold TabW at h; exact h.1
theorem tabW_max {w : World} (h : TabW w) : ∃ m, w.cell? ⟨0, 0, none⟩ = some (.int .i64 m) := by unfold TabW at h; exact h.2.1
theorem tabW_syn {w : World} (h : TabW w) : ∃ te pe, w.cell? ⟨1, 0, none⟩ = some (.iface te pe) := by unfold TabW at h; exact h.2.2.1
theorem tabW_rng {w : World} (h : TabW w) : ∃ te pe, w.cell? ⟨2, 0, none⟩ = some (.iface te pe) := by unfold TabW at h; exact h.2.2.2
theorem tab_cell {w W : World} {b i : Nat} {v : Value} (h : w.cell? ⟨b, i, none⟩ = some v) (hb : Below w.heap.size w W) : W.cell? ⟨b, i, none⟩ = some v := by
 have hl : b < w.heap.size := Lib.lt_of_cell h
 unfold World.cell? at h ⊢
 rw [hb.block b hl]
 exact h
theorem tab_pow {w W : World} (h : Lib.TabIs Tryd.prog w "internal/strconv.uint64pow10" .u64 Lib.pow10Tab) (hb : Below w.heap.size w W) : Lib.TabIs Tryd.prog W "internal/strconv.uint64pow10" .u64 Lib.pow10Tab := by
 unfold Lib.TabIs World.var? at *
 cases hg : Tryd.prog.globalNamed "internal/strconv.uint64pow10" with
 | none => rw [hg] at h; simp at h
 | some g =>
  rw [hg] at h
  simp only [Option.bind_some] at h ⊢
  have hl : g < w.heap.size := by
   rcases Nat.lt_or_ge g w.heap.size with h1 | h1
   ·exact h1
   ·rw [Array.getElem?_eq_none h1] at h; simp at h
  rw [hb.block g hl]
  exact h
theorem tab_below {w W : World} (h : TabW w) (hb : Below w.heap.size w W) : TabW W := by
 unfold TabW
 exact ⟨tab_pow (tabW_pow h) hb, (tabW_max h).elim fun m hm => ⟨m, tab_cell hm hb⟩, (tabW_syn h).elim fun te h2 => h2.elim fun pe hm => ⟨te, pe, tab_cell hm hb⟩, (tabW_rng h).elim fun te h2 => h2.elim fun pe hm => ⟨te, pe, tab_cell hm hb⟩⟩
def int64B (n : Int) : Prop := -9223372036854775808 ≤ n ∧ n ≤ 9223372036854775807
instance (n : Int) : Decidable (int64B n) := by unfold int64B; exact inferInstance
end Go.Proofs.YtcgmdpnhlkbpbaaDoor.XFnNodeText
