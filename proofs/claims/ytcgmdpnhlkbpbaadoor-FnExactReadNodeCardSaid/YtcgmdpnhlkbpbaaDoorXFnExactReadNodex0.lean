-- Written by this session's program wip/xprint.py (a driver of its own over the kit's print).
import Derived.Test.YtcgmdpnhlkbpbaaDoorProg
import Derived.Below
import Derived.Deep.Draws
import Derived.Deep.AppendLies
import Derived.Maps.AppendAt
import Derived.OwnWalk
import Derived.Laws.BytesArg
import Derived.Laws.MakeOwn
import Derived.Laws.OwnMore
import Derived.Deep.OwnRows
import Derived.Tactics
import Derived.Lib.ConvBytes
import Derived.Laws.Slices
import Derived.WalkKit
import Derived.KernelRfl
import Derived.RowKit3
import Derived.Deep.LoopGhost
import Derived.Deep.QuietTactic
import Derived.BigQuiet
import Derived.WideLaws
import Derived.Deep.DeepCutAuto
import Derived.Deep.CutBlock
import Derived.Deep.RegionHeld3
import Derived.Laws.Rows
import Derived.Lib.AppendStr
import Derived.ArgAppend
import Derived.Laws.IdiomCopy
import Derived.OrdersHeld
import Derived.Laws.BitsLemmas
import Derived.RowKit
import Derived.WalkSpells
import Derived.Lib.LazyBuf
import Derived.Test.YtcgmdpnhlkbpbaaDoorShelf
import Derived.Lib.LaidTab
import Derived.Lib.AppendIntMem
import Derived.Lib.AtoiAllCases
import Derived.Lib.UnsafeStr
import Derived.Test.YtcgmdpnhlkbpbaaDoorWWords
import Derived.Test.YtcgmdpnhlkbpbaaDoorWLast
import Derived.Test.YtcgmdpnhlkbpbaaDoorWTab
import Derived.Test.YtcgmdpnhlkbpbaaDoorWFour
import Derived.Test.YtcgmdpnhlkbpbaaDoorWQPut
import Derived.Test.YtcgmdpnhlkbpbaaDoorWApart
import Derived.Test.YtcgmdpnhlkbpbaaDoorWArr
import Derived.Test.YtcgmdpnhlkbpbaaDoorWZeros
import Derived.Test.YtcgmdpnhlkbpbaaDoorWFoot
import Derived.Test.YtcgmdpnhlkbpbaaDoorWKept
import Derived.Test.YtcgmdpnhlkbpbaaDoorWShare
import Derived.Test.YtcgmdpnhlkbpbaaDoorWN
import Derived.Test.YtcgmdpnhlkbpbaaDoorWFootNe
import Derived.Test.YtcgmdpnhlkbpbaaDoorWAt
import Derived.Test.YtcgmdpnhlkbpbaaDoorWEqStruct
import Derived.Test.YtcgmdpnhlkbpbaaDoorWRepsOne
import Derived.Test.YtcgmdpnhlkbpbaaDoorWInv
import Derived.Test.YtcgmdpnhlkbpbaaDoorWInvWords
import Derived.Test.YtcgmdpnhlkbpbaaDoorWGuard
import Derived.Test.YtcgmdpnhlkbpbaaDoorWNEv
import Derived.Test.YtcgmdpnhlkbpbaaDoorWMore
namespace Go.Proofs.YtcgmdpnhlkbpbaaDoor.XFnExactReadNode
open Go.RowKit Go.Proofs.YtcgmdpnhlkbpbaaDoorW.PrintWords Go.Proofs.YtcgmdpnhlkbpbaaDoorW.PrintLast Go.Proofs.YtcgmdpnhlkbpbaaDoorW.PrintMore
attribute [local go_sem] max2_int min2_int max_two min_two max_three min_three max_four min_four   -- for this text's walks alone
set_option linter.unusedVariables false
set_option linter.unusedSimpArgs false



def errW : Option Int → Value
  | none => .nilIface
  | some c => .iface 0 (.int .i64 c)
theorem errW_none : errW none = .nilIface := rfl
theorem errW_some (c : Int) : errW (some c) = .iface 0 (.int .i64 c) := rfl

theorem info5 : (Tryd.prog.info? 5).map (fun i => (i.zero, i.size, i.bytes)) = some (some (.int .u8 0), 1, 1) := by kernel_rfl
-- the values' own types

/-- What the library's code reads of a world. -/
def TabW (w : World) : Prop := (Lib.TabIs Tryd.prog w "internal/strconv.uint64pow10" .u64 Lib.pow10Tab) ∧ (∃ m, w.cell? ⟨0, 0, none⟩ = some (.int .i64 m)) ∧ (∃ te pe, w.cell? ⟨1, 0, none⟩ = some (.iface te pe)) ∧ (∃ te pe, w.cell? ⟨2, 0, none⟩ = some (.iface te pe))
theorem tabW_pow {w : World} (h : TabW w) : Lib.TabIs Tryd.prog w "internal/strconv.uint64pow10" .u64 Lib.pow10Tab := by unfold TabW at h; exact h.1
theorem tabW_max {w : World} (h : TabW w) : ∃ m, w.cell? ⟨0, 0, none⟩ = some (.int .i64 m) := by unfold TabW at h; exact h.2.1
theorem tabW_syn {w : World} (h : TabW w) : ∃ te pe, w.cell? ⟨1, 0, none⟩ = some (.iface te pe) := by unfold TabW at h; exact h.2.2.1
theorem tabW_rng {w : World} (h : TabW w) : ∃ te pe, w.cell? ⟨2, 0, none⟩ = some (.iface te pe) := by unfold TabW at h; exact h.2.2.2
theorem tab_cell {w W : World} {b i : Nat} {v : Value} (h : w.cell? ⟨b, i, none⟩ = some v) (hb : Below w.heap.size w W) : W.cell? ⟨b, i, none⟩ = some v := by
  have hl : b < w.heap.size := Lib.lt_of_cell h
  unfold World.cell? at h ⊢
  rw [hb.block b hl]
  exact h
theorem tab_pow {w W : World} (h : Lib.TabIs Tryd.prog w "internal/strconv.uint64pow10" .u64 Lib.pow10Tab) (hb : Below w.heap.size w W) : Lib.TabIs Tryd.prog W "internal/strconv.uint64pow10" .u64 Lib.pow10Tab := by
  unfold Lib.TabIs World.var? at *
  cases hg : Tryd.prog.globalNamed "internal/strconv.uint64pow10" with
  | none => rw [hg] at h; simp at h
  | some g =>
    rw [hg] at h
    simp only [Option.bind_some] at h ⊢
    have hl : g < w.heap.size := by
      rcases Nat.lt_or_ge g w.heap.size with h1 | h1
      · exact h1
      · rw [Array.getElem?_eq_none h1] at h; simp at h
    rw [hb.block g hl]
    exact h
theorem tab_below {w W : World} (h : TabW w) (hb : Below w.heap.size w W) : TabW W := by
  unfold TabW
  exact ⟨tab_pow (tabW_pow h) hb, (tabW_max h).elim fun m hm => ⟨m, tab_cell hm hb⟩, (tabW_syn h).elim fun te h2 => h2.elim fun pe hm => ⟨te, pe, tab_cell hm hb⟩, (tabW_rng h).elim fun te h2 => h2.elim fun pe hm => ⟨te, pe, tab_cell hm hb⟩⟩
def int64B (n : Int) : Prop := -9223372036854775808 ≤ n ∧ n ≤ 9223372036854775807
instance (n : Int) : Decidable (int64B n) := by unfold int64B; exact inferInstance
theorem w64_tdiv10 (e : Int) : wrap64 (Int.tdiv (-9223372036854775808 + e % 256) 10) = Int.tdiv (-9223372036854775808 + e % 256) 10 := by
  have h1 : Int.tdiv (-9223372036854775808 + e % 256) 10 = -Int.tdiv (9223372036854775808 - e % 256) 10 := by rw [← Int.neg_tdiv]; congr 1; omega
  rw [h1, Int.tdiv_eq_ediv_of_nonneg (by omega)]
  unfold wrap64
  omega


end Go.Proofs.YtcgmdpnhlkbpbaaDoor.XFnExactReadNode
