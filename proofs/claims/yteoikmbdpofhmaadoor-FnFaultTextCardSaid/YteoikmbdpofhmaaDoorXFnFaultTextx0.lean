-- Written by this session's program wip/xprint.py (a driver of its own over the kit's print).
import Derived.Test.YteoikmbdpofhmaaDoorProg
import Derived.Below
import Derived.Deep.Draws
import Derived.Deep.AppendLies
import Derived.Maps.AppendAt
import Derived.OwnWalk
import Derived.Laws.BytesArg
import Derived.Laws.MakeOwn
import Derived.Laws.OwnMore
import Derived.Deep.OwnRows
import Derived.Tactics
import Derived.Lib.ConvBytes
import Derived.Laws.Slices
import Derived.WalkKit
import Derived.KernelRfl
import Derived.RowKit3
import Derived.Deep.LoopGhost
import Derived.Deep.QuietTactic
import Derived.BigQuiet
import Derived.WideLaws
import Derived.Deep.DeepCutAuto
import Derived.Deep.CutBlock
import Derived.Deep.RegionHeld3
import Derived.Laws.Rows
import Derived.Lib.AppendStr
import Derived.ArgAppend
import Derived.Laws.IdiomCopy
import Derived.OrdersHeld
import Derived.Laws.BitsLemmas
import Derived.RowKit
import Derived.WalkSpells
import Derived.Lib.LazyBuf
import Derived.Test.YteoikmbdpofhmaaDoorShelf
import Derived.Lib.LaidTab
import Derived.Lib.AppendIntMem
import Derived.Test.YteoikmbdpofhmaaDoorWWords
import Derived.Test.YteoikmbdpofhmaaDoorWLast
import Derived.Test.YteoikmbdpofhmaaDoorWTab
import Derived.Test.YteoikmbdpofhmaaDoorWFour
import Derived.Test.YteoikmbdpofhmaaDoorWQPut
import Derived.Test.YteoikmbdpofhmaaDoorWApart
import Derived.Test.YteoikmbdpofhmaaDoorWArr
import Derived.Test.YteoikmbdpofhmaaDoorWZeros
import Derived.Test.YteoikmbdpofhmaaDoorWFoot
import Derived.Test.YteoikmbdpofhmaaDoorWKept
import Derived.Test.YteoikmbdpofhmaaDoorWShare
import Derived.Test.YteoikmbdpofhmaaDoorWN
import Derived.Test.YteoikmbdpofhmaaDoorWFootNe
import Derived.Test.YteoikmbdpofhmaaDoorWAt
import Derived.Test.YteoikmbdpofhmaaDoorWEqStruct
import Derived.Test.YteoikmbdpofhmaaDoorWRepsOne
import Derived.Test.YteoikmbdpofhmaaDoorWInv
import Derived.Test.YteoikmbdpofhmaaDoorWInvWords
import Derived.Test.YteoikmbdpofhmaaDoorWGuard
import Derived.Test.YteoikmbdpofhmaaDoorWNEv
import Derived.Test.YteoikmbdpofhmaaDoorWMore
namespace Go.Proofs.YteoikmbdpofhmaaDoor.XFnFaultText
open Go.RowKit Go.Proofs.YteoikmbdpofhmaaDoorW.PrintWords Go.Proofs.YteoikmbdpofhmaaDoorW.PrintLast Go.Proofs.YteoikmbdpofhmaaDoorW.PrintMore
attribute [local go_sem] max2_int min2_int max_two min_two max_three min_three max_four min_four   -- for this text's walks alone
set_option linter.unusedVariables false
set_option linter.unusedSimpArgs false



def errW : Option Int → Value
  | none => .nilIface
  | some c => .iface 0 (.int .i64 c)
theorem errW_none : errW none = .nilIface := rfl
theorem errW_some (c : Int) : errW (some c) = .iface 0 (.int .i64 c) := rfl

theorem info5 : (Tryd.prog.info? 5).map (fun i => (i.zero, i.size, i.bytes)) = some (some (.int .u8 0), 1, 1) := by kernel_rfl
theorem info9 : (Tryd.prog.info? 9).map (fun i => (i.zero, i.size, i.bytes)) = some (some (.string ⟨#[]⟩), 1, 16) := by kernel_rfl
-- the values' own types
def rd_L3 (xs : List (List Int)) (i : Int) : (List Int) := xs.getD i.toNat ([] : List Int)
theorem at_L3 {w : World} {A : Option Addr} {n : Nat} {xs : List (List Int)} (h : Kd.C (Kd.slice 5 (Kd.int .u8)) w A n xs) (i : Int) (h0 : 0 ≤ i) (h1 : i < n) : ∃ ad A0 c0, A = some ad ∧ w.cell? (ad.add i.toNat) = some (.slice A0 (rd_L3 xs i).length c0) ∧ (rd_L3 xs i).length ≤ c0 ∧ (Kd.int .u8).C w A0 (rd_L3 xs i).length (rd_L3 xs i) := by
  obtain ⟨ad, c, e, _, hK, hc0⟩ := Kd.C_get h ([] : List Int) i h0 h1
  have hc : ∀ j u, c[j]? = some u → w.cell? (ad.add (i.toNat * 1 + j)) = some u := hc0
  obtain ⟨A0, c0, rfl, l0, g0⟩ := hK
  exact ⟨ad, A0, c0, e, by have hq := hc 0 _ rfl; rwa [Nat.mul_one, Nat.add_zero] at hq, l0, g0⟩

/-- What the numeral's code reads of a world: the library's table of the powers of ten. -/
def TabW (w : World) : Prop := Lib.TabIs Tryd.prog w "internal/strconv.uint64pow10" .u64 Lib.pow10Tab
theorem tab_below {w W : World} (h : TabW w) (hb : Below w.heap.size w W) : TabW W := by
  unfold TabW Lib.TabIs World.var? at *
  cases hg : Tryd.prog.globalNamed "internal/strconv.uint64pow10" with
  | none => rw [hg] at h; simp at h
  | some g =>
    rw [hg] at h
    simp only [Option.bind_some] at h ⊢
    have hl : g < w.heap.size := by
      rcases Nat.lt_or_ge g w.heap.size with h1 | h1
      · exact h1
      · rw [Array.getElem?_eq_none h1] at h; simp at h
    rw [hb.block g hl]
    exact h
def int64B (n : Int) : Prop := -9223372036854775808 ≤ n ∧ n ≤ 9223372036854775807
instance (n : Int) : Decidable (int64B n) := by unfold int64B; exact inferInstance

def arrw0 (i : Int) : ByteArray := rdOf ByteArray.empty ([(⟨#[116, 97, 98, 108, 101]⟩ : ByteArray), (⟨#[99, 111, 110, 102, 105, 103]⟩ : ByteArray), (⟨#[98, 111, 116, 104]⟩ : ByteArray)] : List ByteArray) i
theorem arrw0_at (W : World) (i : Int) (h0 : 0 ≤ i) (h1 : i < 3) : (Instr.index 36 (.agg #[.string (⟨#[116, 97, 98, 108, 101]⟩ : ByteArray), .string (⟨#[99, 111, 110, 102, 105, 103]⟩ : ByteArray), .string (⟨#[98, 111, 116, 104]⟩ : ByteArray)]) (.int .i64 i)).run Tryd.prog W = .ok (.string (arrw0 i)) W := by
  have h : i = 0 ∨ i = 1 ∨ i = 2 := by omega
  have e0 : (Instr.index 36 (.agg #[.string (⟨#[116, 97, 98, 108, 101]⟩ : ByteArray), .string (⟨#[99, 111, 110, 102, 105, 103]⟩ : ByteArray), .string (⟨#[98, 111, 116, 104]⟩ : ByteArray)]) (.int .i64 0)).run Tryd.prog W = .ok (.string (arrw0 0)) W := by kernel_rfl
  have e1 : (Instr.index 36 (.agg #[.string (⟨#[116, 97, 98, 108, 101]⟩ : ByteArray), .string (⟨#[99, 111, 110, 102, 105, 103]⟩ : ByteArray), .string (⟨#[98, 111, 116, 104]⟩ : ByteArray)]) (.int .i64 1)).run Tryd.prog W = .ok (.string (arrw0 1)) W := by kernel_rfl
  have e2 : (Instr.index 36 (.agg #[.string (⟨#[116, 97, 98, 108, 101]⟩ : ByteArray), .string (⟨#[99, 111, 110, 102, 105, 103]⟩ : ByteArray), .string (⟨#[98, 111, 116, 104]⟩ : ByteArray)]) (.int .i64 2)).run Tryd.prog W = .ok (.string (arrw0 2)) W := by kernel_rfl
  rcases h with rfl | rfl | rfl
  · exact e0
  · exact e1
  · exact e2
def arrw1 (i : Int) : ByteArray := rdOf ByteArray.empty ([(⟨#[108, 111, 110, 103]⟩ : ByteArray), (⟨#[113, 117, 111, 116, 101]⟩ : ByteArray), (⟨#[101, 109, 112, 116, 121]⟩ : ByteArray), (⟨#[119, 105, 100, 116, 104]⟩ : ByteArray), (⟨#[110, 97, 109, 101]⟩ : ByteArray), (⟨#[116, 119, 105, 99, 101]⟩ : ByteArray), (⟨#[99, 111, 108, 115]⟩ : ByteArray), (⟨#[114, 111, 119, 115]⟩ : ByteArray), (⟨#[118, 97, 108, 117, 101]⟩ : ByteArray), (⟨#[108, 105, 110, 101]⟩ : ByteArray), (⟨#[107, 101, 121]⟩ : ByteArray), (⟨#[110, 117, 109, 98, 101, 114]⟩ : ByteArray), (⟨#[114, 97, 110, 103, 101]⟩ : ByteArray), (⟨#[115, 105, 103, 110, 115]⟩ : ByteArray)] : List ByteArray) i
theorem arrw1_at (W : World) (i : Int) (h0 : 0 ≤ i) (h1 : i < 14) : (Instr.index 37 (.agg #[.string (⟨#[108, 111, 110, 103]⟩ : ByteArray), .string (⟨#[113, 117, 111, 116, 101]⟩ : ByteArray), .string (⟨#[101, 109, 112, 116, 121]⟩ : ByteArray), .string (⟨#[119, 105, 100, 116, 104]⟩ : ByteArray), .string (⟨#[110, 97, 109, 101]⟩ : ByteArray), .string (⟨#[116, 119, 105, 99, 101]⟩ : ByteArray), .string (⟨#[99, 111, 108, 115]⟩ : ByteArray), .string (⟨#[114, 111, 119, 115]⟩ : ByteArray), .string (⟨#[118, 97, 108, 117, 101]⟩ : ByteArray), .string (⟨#[108, 105, 110, 101]⟩ : ByteArray), .string (⟨#[107, 101, 121]⟩ : ByteArray), .string (⟨#[110, 117, 109, 98, 101, 114]⟩ : ByteArray), .string (⟨#[114, 97, 110, 103, 101]⟩ : ByteArray), .string (⟨#[115, 105, 103, 110, 115]⟩ : ByteArray)]) (.int .i64 i)).run Tryd.prog W = .ok (.string (arrw1 i)) W := by
  have h : i = 0 ∨ i = 1 ∨ i = 2 ∨ i = 3 ∨ i = 4 ∨ i = 5 ∨ i = 6 ∨ i = 7 ∨ i = 8 ∨ i = 9 ∨ i = 10 ∨ i = 11 ∨ i = 12 ∨ i = 13 := by omega
  have e0 : (Instr.index 37 (.agg #[.string (⟨#[108, 111, 110, 103]⟩ : ByteArray), .string (⟨#[113, 117, 111, 116, 101]⟩ : ByteArray), .string (⟨#[101, 109, 112, 116, 121]⟩ : ByteArray), .string (⟨#[119, 105, 100, 116, 104]⟩ : ByteArray), .string (⟨#[110, 97, 109, 101]⟩ : ByteArray), .string (⟨#[116, 119, 105, 99, 101]⟩ : ByteArray), .string (⟨#[99, 111, 108, 115]⟩ : ByteArray), .string (⟨#[114, 111, 119, 115]⟩ : ByteArray), .string (⟨#[118, 97, 108, 117, 101]⟩ : ByteArray), .string (⟨#[108, 105, 110, 101]⟩ : ByteArray), .string (⟨#[107, 101, 121]⟩ : ByteArray), .string (⟨#[110, 117, 109, 98, 101, 114]⟩ : ByteArray), .string (⟨#[114, 97, 110, 103, 101]⟩ : ByteArray), .string (⟨#[115, 105, 103, 110, 115]⟩ : ByteArray)]) (.int .i64 0)).run Tryd.prog W = .ok (.string (arrw1 0)) W := by kernel_rfl
  have e1 : (Instr.index 37 (.agg #[.string (⟨#[108, 111, 110, 103]⟩ : ByteArray), .string (⟨#[113, 117, 111, 116, 101]⟩ : ByteArray), .string (⟨#[101, 109, 112, 116, 121]⟩ : ByteArray), .string (⟨#[119, 105, 100, 116, 104]⟩ : ByteArray), .string (⟨#[110, 97, 109, 101]⟩ : ByteArray), .string (⟨#[116, 119, 105, 99, 101]⟩ : ByteArray), .string (⟨#[99, 111, 108, 115]⟩ : ByteArray), .string (⟨#[114, 111, 119, 115]⟩ : ByteArray), .string (⟨#[118, 97, 108, 117, 101]⟩ : ByteArray), .string (⟨#[108, 105, 110, 101]⟩ : ByteArray), .string (⟨#[107, 101, 121]⟩ : ByteArray), .string (⟨#[110, 117, 109, 98, 101, 114]⟩ : ByteArray), .string (⟨#[114, 97, 110, 103, 101]⟩ : ByteArray), .string (⟨#[115, 105, 103, 110, 115]⟩ : ByteArray)]) (.int .i64 1)).run Tryd.prog W = .ok (.string (arrw1 1)) W := by kernel_rfl
  have e2 : (Instr.index 37 (.agg #[.string (⟨#[108, 111, 110, 103]⟩ : ByteArray), .string (⟨#[113, 117, 111, 116, 101]⟩ : ByteArray), .string (⟨#[101, 109, 112, 116, 121]⟩ : ByteArray), .string (⟨#[119, 105, 100, 116, 104]⟩ : ByteArray), .string (⟨#[110, 97, 109, 101]⟩ : ByteArray), .string (⟨#[116, 119, 105, 99, 101]⟩ : ByteArray), .string (⟨#[99, 111, 108, 115]⟩ : ByteArray), .string (⟨#[114, 111, 119, 115]⟩ : ByteArray), .string (⟨#[118, 97, 108, 117, 101]⟩ : ByteArray), .string (⟨#[108, 105, 110, 101]⟩ : ByteArray), .string (⟨#[107, 101, 121]⟩ : ByteArray), .string (⟨#[110, 117, 109, 98, 101, 114]⟩ : ByteArray), .string (⟨#[114, 97, 110, 103, 101]⟩ : ByteArray), .string (⟨#[115, 105, 103, 110, 115]⟩ : ByteArray)]) (.int .i64 2)).run Tryd.prog W = .ok (.string (arrw1 2)) W := by kernel_rfl
  have e3 : (Instr.index 37 (.agg #[.string (⟨#[108, 111, 110, 103]⟩ : ByteArray), .string (⟨#[113, 117, 111, 116, 101]⟩ : ByteArray), .string (⟨#[101, 109, 112, 116, 121]⟩ : ByteArray), .string (⟨#[119, 105, 100, 116, 104]⟩ : ByteArray), .string (⟨#[110, 97, 109, 101]⟩ : ByteArray), .string (⟨#[116, 119, 105, 99, 101]⟩ : ByteArray), .string (⟨#[99, 111, 108, 115]⟩ : ByteArray), .string (⟨#[114, 111, 119, 115]⟩ : ByteArray), .string (⟨#[118, 97, 108, 117, 101]⟩ : ByteArray), .string (⟨#[108, 105, 110, 101]⟩ : ByteArray), .string (⟨#[107, 101, 121]⟩ : ByteArray), .string (⟨#[110, 117, 109, 98, 101, 114]⟩ : ByteArray), .string (⟨#[114, 97, 110, 103, 101]⟩ : ByteArray), .string (⟨#[115, 105, 103, 110, 115]⟩ : ByteArray)]) (.int .i64 3)).run Tryd.prog W = .ok (.string (arrw1 3)) W := by kernel_rfl
  have e4 : (Instr.index 37 (.agg #[.string (⟨#[108, 111, 110, 103]⟩ : ByteArray), .string (⟨#[113, 117, 111, 116, 101]⟩ : ByteArray), .string (⟨#[101, 109, 112, 116, 121]⟩ : ByteArray), .string (⟨#[119, 105, 100, 116, 104]⟩ : ByteArray), .string (⟨#[110, 97, 109, 101]⟩ : ByteArray), .string (⟨#[116, 119, 105, 99, 101]⟩ : ByteArray), .string (⟨#[99, 111, 108, 115]⟩ : ByteArray), .string (⟨#[114, 111, 119, 115]⟩ : ByteArray), .string (⟨#[118, 97, 108, 117, 101]⟩ : ByteArray), .string (⟨#[108, 105, 110, 101]⟩ : ByteArray), .string (⟨#[107, 101, 121]⟩ : ByteArray), .string (⟨#[110, 117, 109, 98, 101, 114]⟩ : ByteArray), .string (⟨#[114, 97, 110, 103, 101]⟩ : ByteArray), .string (⟨#[115, 105, 103, 110, 115]⟩ : ByteArray)]) (.int .i64 4)).run Tryd.prog W = .ok (.string (arrw1 4)) W := by kernel_rfl
  have e5 : (Instr.index 37 (.agg #[.string (⟨#[108, 111, 110, 103]⟩ : ByteArray), .string (⟨#[113, 117, 111, 116, 101]⟩ : ByteArray), .string (⟨#[101, 109, 112, 116, 121]⟩ : ByteArray), .string (⟨#[119, 105, 100, 116, 104]⟩ : ByteArray), .string (⟨#[110, 97, 109, 101]⟩ : ByteArray), .string (⟨#[116, 119, 105, 99, 101]⟩ : ByteArray), .string (⟨#[99, 111, 108, 115]⟩ : ByteArray), .string (⟨#[114, 111, 119, 115]⟩ : ByteArray), .string (⟨#[118, 97, 108, 117, 101]⟩ : ByteArray), .string (⟨#[108, 105, 110, 101]⟩ : ByteArray), .string (⟨#[107, 101, 121]⟩ : ByteArray), .string (⟨#[110, 117, 109, 98, 101, 114]⟩ : ByteArray), .string (⟨#[114, 97, 110, 103, 101]⟩ : ByteArray), .string (⟨#[115, 105, 103, 110, 115]⟩ : ByteArray)]) (.int .i64 5)).run Tryd.prog W = .ok (.string (arrw1 5)) W := by kernel_rfl
  have e6 : (Instr.index 37 (.agg #[.string (⟨#[108, 111, 110, 103]⟩ : ByteArray), .string (⟨#[113, 117, 111, 116, 101]⟩ : ByteArray), .string (⟨#[101, 109, 112, 116, 121]⟩ : ByteArray), .string (⟨#[119, 105, 100, 116, 104]⟩ : ByteArray), .string (⟨#[110, 97, 109, 101]⟩ : ByteArray), .string (⟨#[116, 119, 105, 99, 101]⟩ : ByteArray), .string (⟨#[99, 111, 108, 115]⟩ : ByteArray), .string (⟨#[114, 111, 119, 115]⟩ : ByteArray), .string (⟨#[118, 97, 108, 117, 101]⟩ : ByteArray), .string (⟨#[108, 105, 110, 101]⟩ : ByteArray), .string (⟨#[107, 101, 121]⟩ : ByteArray), .string (⟨#[110, 117, 109, 98, 101, 114]⟩ : ByteArray), .string (⟨#[114, 97, 110, 103, 101]⟩ : ByteArray), .string (⟨#[115, 105, 103, 110, 115]⟩ : ByteArray)]) (.int .i64 6)).run Tryd.prog W = .ok (.string (arrw1 6)) W := by kernel_rfl
  have e7 : (Instr.index 37 (.agg #[.string (⟨#[108, 111, 110, 103]⟩ : ByteArray), .string (⟨#[113, 117, 111, 116, 101]⟩ : ByteArray), .string (⟨#[101, 109, 112, 116, 121]⟩ : ByteArray), .string (⟨#[119, 105, 100, 116, 104]⟩ : ByteArray), .string (⟨#[110, 97, 109, 101]⟩ : ByteArray), .string (⟨#[116, 119, 105, 99, 101]⟩ : ByteArray), .string (⟨#[99, 111, 108, 115]⟩ : ByteArray), .string (⟨#[114, 111, 119, 115]⟩ : ByteArray), .string (⟨#[118, 97, 108, 117, 101]⟩ : ByteArray), .string (⟨#[108, 105, 110, 101]⟩ : ByteArray), .string (⟨#[107, 101, 121]⟩ : ByteArray), .string (⟨#[110, 117, 109, 98, 101, 114]⟩ : ByteArray), .string (⟨#[114, 97, 110, 103, 101]⟩ : ByteArray), .string (⟨#[115, 105, 103, 110, 115]⟩ : ByteArray)]) (.int .i64 7)).run Tryd.prog W = .ok (.string (arrw1 7)) W := by kernel_rfl
  have e8 : (Instr.index 37 (.agg #[.string (⟨#[108, 111, 110, 103]⟩ : ByteArray), .string (⟨#[113, 117, 111, 116, 101]⟩ : ByteArray), .string (⟨#[101, 109, 112, 116, 121]⟩ : ByteArray), .string (⟨#[119, 105, 100, 116, 104]⟩ : ByteArray), .string (⟨#[110, 97, 109, 101]⟩ : ByteArray), .string (⟨#[116, 119, 105, 99, 101]⟩ : ByteArray), .string (⟨#[99, 111, 108, 115]⟩ : ByteArray), .string (⟨#[114, 111, 119, 115]⟩ : ByteArray), .string (⟨#[118, 97, 108, 117, 101]⟩ : ByteArray), .string (⟨#[108, 105, 110, 101]⟩ : ByteArray), .string (⟨#[107, 101, 121]⟩ : ByteArray), .string (⟨#[110, 117, 109, 98, 101, 114]⟩ : ByteArray), .string (⟨#[114, 97, 110, 103, 101]⟩ : ByteArray), .string (⟨#[115, 105, 103, 110, 115]⟩ : ByteArray)]) (.int .i64 8)).run Tryd.prog W = .ok (.string (arrw1 8)) W := by kernel_rfl
  have e9 : (Instr.index 37 (.agg #[.string (⟨#[108, 111, 110, 103]⟩ : ByteArray), .string (⟨#[113, 117, 111, 116, 101]⟩ : ByteArray), .string (⟨#[101, 109, 112, 116, 121]⟩ : ByteArray), .string (⟨#[119, 105, 100, 116, 104]⟩ : ByteArray), .string (⟨#[110, 97, 109, 101]⟩ : ByteArray), .string (⟨#[116, 119, 105, 99, 101]⟩ : ByteArray), .string (⟨#[99, 111, 108, 115]⟩ : ByteArray), .string (⟨#[114, 111, 119, 115]⟩ : ByteArray), .string (⟨#[118, 97, 108, 117, 101]⟩ : ByteArray), .string (⟨#[108, 105, 110, 101]⟩ : ByteArray), .string (⟨#[107, 101, 121]⟩ : ByteArray), .string (⟨#[110, 117, 109, 98, 101, 114]⟩ : ByteArray), .string (⟨#[114, 97, 110, 103, 101]⟩ : ByteArray), .string (⟨#[115, 105, 103, 110, 115]⟩ : ByteArray)]) (.int .i64 9)).run Tryd.prog W = .ok (.string (arrw1 9)) W := by kernel_rfl
  have e10 : (Instr.index 37 (.agg #[.string (⟨#[108, 111, 110, 103]⟩ : ByteArray), .string (⟨#[113, 117, 111, 116, 101]⟩ : ByteArray), .string (⟨#[101, 109, 112, 116, 121]⟩ : ByteArray), .string (⟨#[119, 105, 100, 116, 104]⟩ : ByteArray), .string (⟨#[110, 97, 109, 101]⟩ : ByteArray), .string (⟨#[116, 119, 105, 99, 101]⟩ : ByteArray), .string (⟨#[99, 111, 108, 115]⟩ : ByteArray), .string (⟨#[114, 111, 119, 115]⟩ : ByteArray), .string (⟨#[118, 97, 108, 117, 101]⟩ : ByteArray), .string (⟨#[108, 105, 110, 101]⟩ : ByteArray), .string (⟨#[107, 101, 121]⟩ : ByteArray), .string (⟨#[110, 117, 109, 98, 101, 114]⟩ : ByteArray), .string (⟨#[114, 97, 110, 103, 101]⟩ : ByteArray), .string (⟨#[115, 105, 103, 110, 115]⟩ : ByteArray)]) (.int .i64 10)).run Tryd.prog W = .ok (.string (arrw1 10)) W := by kernel_rfl
  have e11 : (Instr.index 37 (.agg #[.string (⟨#[108, 111, 110, 103]⟩ : ByteArray), .string (⟨#[113, 117, 111, 116, 101]⟩ : ByteArray), .string (⟨#[101, 109, 112, 116, 121]⟩ : ByteArray), .string (⟨#[119, 105, 100, 116, 104]⟩ : ByteArray), .string (⟨#[110, 97, 109, 101]⟩ : ByteArray), .string (⟨#[116, 119, 105, 99, 101]⟩ : ByteArray), .string (⟨#[99, 111, 108, 115]⟩ : ByteArray), .string (⟨#[114, 111, 119, 115]⟩ : ByteArray), .string (⟨#[118, 97, 108, 117, 101]⟩ : ByteArray), .string (⟨#[108, 105, 110, 101]⟩ : ByteArray), .string (⟨#[107, 101, 121]⟩ : ByteArray), .string (⟨#[110, 117, 109, 98, 101, 114]⟩ : ByteArray), .string (⟨#[114, 97, 110, 103, 101]⟩ : ByteArray), .string (⟨#[115, 105, 103, 110, 115]⟩ : ByteArray)]) (.int .i64 11)).run Tryd.prog W = .ok (.string (arrw1 11)) W := by kernel_rfl
  have e12 : (Instr.index 37 (.agg #[.string (⟨#[108, 111, 110, 103]⟩ : ByteArray), .string (⟨#[113, 117, 111, 116, 101]⟩ : ByteArray), .string (⟨#[101, 109, 112, 116, 121]⟩ : ByteArray), .string (⟨#[119, 105, 100, 116, 104]⟩ : ByteArray), .string (⟨#[110, 97, 109, 101]⟩ : ByteArray), .string (⟨#[116, 119, 105, 99, 101]⟩ : ByteArray), .string (⟨#[99, 111, 108, 115]⟩ : ByteArray), .string (⟨#[114, 111, 119, 115]⟩ : ByteArray), .string (⟨#[118, 97, 108, 117, 101]⟩ : ByteArray), .string (⟨#[108, 105, 110, 101]⟩ : ByteArray), .string (⟨#[107, 101, 121]⟩ : ByteArray), .string (⟨#[110, 117, 109, 98, 101, 114]⟩ : ByteArray), .string (⟨#[114, 97, 110, 103, 101]⟩ : ByteArray), .string (⟨#[115, 105, 103, 110, 115]⟩ : ByteArray)]) (.int .i64 12)).run Tryd.prog W = .ok (.string (arrw1 12)) W := by kernel_rfl
  have e13 : (Instr.index 37 (.agg #[.string (⟨#[108, 111, 110, 103]⟩ : ByteArray), .string (⟨#[113, 117, 111, 116, 101]⟩ : ByteArray), .string (⟨#[101, 109, 112, 116, 121]⟩ : ByteArray), .string (⟨#[119, 105, 100, 116, 104]⟩ : ByteArray), .string (⟨#[110, 97, 109, 101]⟩ : ByteArray), .string (⟨#[116, 119, 105, 99, 101]⟩ : ByteArray), .string (⟨#[99, 111, 108, 115]⟩ : ByteArray), .string (⟨#[114, 111, 119, 115]⟩ : ByteArray), .string (⟨#[118, 97, 108, 117, 101]⟩ : ByteArray), .string (⟨#[108, 105, 110, 101]⟩ : ByteArray), .string (⟨#[107, 101, 121]⟩ : ByteArray), .string (⟨#[110, 117, 109, 98, 101, 114]⟩ : ByteArray), .string (⟨#[114, 97, 110, 103, 101]⟩ : ByteArray), .string (⟨#[115, 105, 103, 110, 115]⟩ : ByteArray)]) (.int .i64 13)).run Tryd.prog W = .ok (.string (arrw1 13)) W := by kernel_rfl
  rcases h with rfl | rfl | rfl | rfl | rfl | rfl | rfl | rfl | rfl | rfl | rfl | rfl | rfl | rfl
  · exact e0
  · exact e1
  · exact e2
  · exact e3
  · exact e4
  · exact e5
  · exact e6
  · exact e7
  · exact e8
  · exact e9
  · exact e10
  · exact e11
  · exact e12
  · exact e13
end Go.Proofs.YteoikmbdpofhmaaDoor.XFnFaultText
