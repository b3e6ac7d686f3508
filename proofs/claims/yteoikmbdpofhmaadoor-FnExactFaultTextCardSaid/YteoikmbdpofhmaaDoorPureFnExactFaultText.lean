/- The pure statement of FnExactFaultText: the program's text of a fault is the reference's, for every kind of fault and every position. -/
import Derived.Test.YteoikmbdpofhmaaDoorSaidFnExactFaultText
import Derived.Lib.ItoaLen
namespace Go.Proofs.YteoikmbdpofhmaaDoor.Pure
open Go.RowKit Go.Proofs.YteoikmbdpofhmaaDoorW.PrintWords Go.Proofs.YteoikmbdpofhmaaDoorW.PrintLast Go.Proofs.YteoikmbdpofhmaaDoor.XFnExactFaultText Go.Proofs.YteoikmbdpofhmaaDoor.Opens Go.Proofs.YteoikmbdpofhmaaDoor.fnExactFaultText
set_option linter.unusedVariables false
/-! ### The numeral of the reference -/
def digs (m : Nat) : List UInt8 := if m = 0 then [] else Lib.decDigits m
theorem digs_step (m : Nat) (h : m ≠ 0) : digs m = digs (m / 10) ++ [UInt8.ofNat (48 + m % 10)] := by
  unfold digs
  rw [if_neg h]
  by_cases h9 : m < 10
  · rw [if_pos (by omega), Lib.decDigits, dif_pos h9, Nat.mod_eq_of_lt h9]; rfl
  · rw [if_neg (by omega), Lib.decDigits, dif_neg h9]
def sgn (b : Bool) : List UInt8 := if b = true then [45] else []
def ba (l : List UInt8) : ByteArray := ⟨l.toArray⟩
theorem ba_append (a b : List UInt8) : ba a ++ ba b = ba (a ++ b) := by
  apply ByteArray.ext
  simp [ba, ByteArray.data_append]
theorem ba_size (a : List UInt8) : (ba a).size = a.length := by simp [ba, ByteArray.size]
theorem ba_toList (a : List UInt8) : (ba a).data.toList = a := by simp [ba]
theorem strOfNums_one (c : Int) (h0 : 0 ≤ c) (h1 : c < 256) : strOfNums [c % 256] = ba [UInt8.ofNat c.toNat] := by
  have : c % 256 = c := by omega
  rw [this]
  rfl
theorem spec_digits_loop (k : Nat) : ∀ (x : Int) (b : Bool) (out : List UInt8), x.natAbs < 10 ^ k → -9223372036854775808 ≤ x → x ≤ 9223372036854775807 → out.length + k + 1 ≤ 9223372036854775807 →
    spec_Digits.l0 (k + 1) x b (ba out) = some (ba (sgn b ++ digs x.natAbs ++ out)) := by
  induction k with
  | zero =>
    intro x b out h _ _ hl
    have hx : x = 0 := by simp at h; omega
    subst hx
    simp only [spec_Digits.l0]
    rw [if_pos trivial]
    cases b
    · rw [if_neg (by decide)]; simp [sgn, digs]
    · rw [if_pos rfl, if_pos (by rw [ba_size]; omega)]
      show some (ba [45] ++ ba out) = _
      rw [ba_append]; simp [sgn, digs]
  | succ k ih =>
    intro x b out h h0 h1 hl
    by_cases hx : x = 0
    · subst hx
      simp only [spec_Digits.l0]
      rw [if_pos trivial]
      cases b
      · rw [if_neg (by decide)]; simp [sgn, digs]
      · rw [if_pos rfl, if_pos (by rw [ba_size]; omega)]
        show some (ba [45] ++ ba out) = _
        rw [ba_append]; simp [sgn, digs]
    · have hm : (Int.tdiv x 10).natAbs = x.natAbs / 10 := by
        rw [Int.natAbs_tdiv]; rfl
      have ht : (Int.tmod x 10).natAbs = x.natAbs % 10 := by rw [Int.natAbs_tmod]; rfl
      have hlt : (Int.tdiv x 10).natAbs < 10 ^ k := by rw [hm]; rw [Nat.pow_succ] at h; omega
      have hr := ih (Int.tdiv x 10) b (UInt8.ofNat (48 + x.natAbs % 10) :: out) hlt (by omega) (by omega) (by simp only [List.length_cons]; omega)
      have hw : wrap64 (Int.tdiv x 10) = Int.tdiv x 10 := by unfold wrap64; omega
      have hd := digs_step x.natAbs (by omega)
      have hfin : some (ba (sgn b ++ digs (Int.tdiv x 10).natAbs ++ (UInt8.ofNat (48 + x.natAbs % 10) :: out))) = some (ba (sgn b ++ digs x.natAbs ++ out)) := by
        rw [hm, hd]; simp
      rw [spec_Digits.l0, if_neg hx]
      by_cases hn : Int.tmod x 10 < 0
      · rw [if_pos hn]
        have hc : (wrap64 (48 + (wrap64 (-(Int.tmod x 10))))) = 48 + ((x.natAbs % 10 : Nat) : Int) := by unfold wrap64; omega
        simp only [Option.bind_some]
        rw [hc, strOfNums_one _ (by omega) (by omega), ba_append, if_pos (by simp only [ba_size, List.length_singleton]; omega), hw]
        rw [show (48 + ((x.natAbs % 10 : Nat) : Int)).toNat = 48 + x.natAbs % 10 by omega]
        exact hr.trans hfin
      · rw [if_neg hn]
        have hc : (wrap64 (48 + (Int.tmod x 10))) = 48 + ((x.natAbs % 10 : Nat) : Int) := by unfold wrap64; omega
        simp only [Option.bind_some]
        rw [hc, strOfNums_one _ (by omega) (by omega), ba_append, if_pos (by simp only [ba_size, List.length_singleton]; omega), hw]
        rw [show (48 + ((x.natAbs % 10 : Nat) : Int)).toNat = 48 + x.natAbs % 10 by omega]
        exact hr.trans hfin
/-- The reference's numeral is the library's. -/
theorem spec_digits (n : Int) (h0 : -9223372036854775808 ≤ n) (h1 : n ≤ 9223372036854775807) (k : Nat) (hk : 20 ≤ k) (hk2 : k ≤ 1000) : spec_Digits.f k n = some (ba (Lib.itoa n)) := by
  unfold spec_Digits.f
  by_cases hn : n = 0
  · subst hn
    rw [if_pos rfl]
    unfold Lib.itoa
    rw [if_neg (by decide), Lib.decDigits, dif_pos (by decide)]
    rfl
  · rw [if_neg hn]
    obtain ⟨j, rfl⟩ : ∃ j, k = j + 1 := ⟨k - 1, by omega⟩
    have hp : (10 : Nat) ^ 19 ≤ 10 ^ j := Nat.pow_le_pow_right (by omega) (by omega)
    have := spec_digits_loop j n (decide (n < 0)) [] (by omega) h0 h1 (by simp only [List.length_nil]; omega)
    rw [show (⟨#[]⟩ : ByteArray) = ba [] from rfl, this]
    congr 2
    unfold Lib.itoa digs sgn
    by_cases hneg : n < 0
    · simp [hneg, hn]
    · simp [hneg, hn]
      congr 1
      omega
/-! ### The words -/
theorem word_eq (c : Int) (h1 : 1 ≤ c) (h2 : c ≤ 14) : rdOf ByteArray.empty ([(⟨#[]⟩ : ByteArray), (⟨#[108, 111, 110, 103]⟩ : ByteArray), (⟨#[113, 117, 111, 116, 101]⟩ : ByteArray), (⟨#[101, 109, 112, 116, 121]⟩ : ByteArray), (⟨#[119, 105, 100, 116, 104]⟩ : ByteArray), (⟨#[110, 97, 109, 101]⟩ : ByteArray), (⟨#[116, 119, 105, 99, 101]⟩ : ByteArray), (⟨#[99, 111, 108, 115]⟩ : ByteArray), (⟨#[114, 111, 119, 115]⟩ : ByteArray), (⟨#[118, 97, 108, 117, 101]⟩ : ByteArray), (⟨#[108, 105, 110, 101]⟩ : ByteArray), (⟨#[107, 101, 121]⟩ : ByteArray), (⟨#[110, 117, 109, 98, 101, 114]⟩ : ByteArray), (⟨#[114, 97, 110, 103, 101]⟩ : ByteArray), (⟨#[115, 105, 103, 110, 115]⟩ : ByteArray)] : List ByteArray) c = arrw1 (wrap64 (c - 1)) ∧ (arrw1 (wrap64 (c - 1))).size ≤ 100 := by
  have hw : wrap64 (c - 1) = c - 1 := by unfold wrap64; omega
  rw [hw]
  clear hw
  have h : c = 1 ∨ c = 2 ∨ c = 3 ∨ c = 4 ∨ c = 5 ∨ c = 6 ∨ c = 7 ∨ c = 8 ∨ c = 9 ∨ c = 10 ∨ c = 11 ∨ c = 12 ∨ c = 13 ∨ c = 14 := by omega
  rcases h with rfl | rfl | rfl | rfl | rfl | rfl | rfl | rfl | rfl | rfl | rfl | rfl | rfl | rfl <;> exact ⟨rfl, by decide⟩
theorem where_eq (c : Int) (h1 : 1 ≤ c) (h2 : c ≤ 3) : rdOf ByteArray.empty ([(⟨#[]⟩ : ByteArray), (⟨#[116, 97, 98, 108, 101]⟩ : ByteArray), (⟨#[99, 111, 110, 102, 105, 103]⟩ : ByteArray), (⟨#[98, 111, 116, 104]⟩ : ByteArray)] : List ByteArray) c = arrw0 (wrap64 (c - 1)) ∧ (arrw0 (wrap64 (c - 1))).size ≤ 100 := by
  have hw : wrap64 (c - 1) = c - 1 := by unfold wrap64; omega
  rw [hw]
  clear hw
  have h : c = 1 ∨ c = 2 ∨ c = 3 := by omega
  rcases h with rfl | rfl | rfl <;> exact ⟨rfl, by decide⟩
def wordB (c : Int) : ByteArray := if 1 ≤ c ∧ c ≤ 14 then arrw1 (wrap64 (c - 1)) else ⟨#[63]⟩
def whereB (c : Int) : ByteArray := if 1 ≤ c ∧ c ≤ 3 then arrw0 (wrap64 (c - 1)) else ⟨#[63]⟩
def lineB (a w : ByteArray) (r c : Int) : ByteArray := ((((a ++ (⟨#[32]⟩ : ByteArray)) ++ w) ++ (⟨#[32]⟩ : ByteArray)) ++ ba (Lib.itoa r) ++ (⟨#[32]⟩ : ByteArray)) ++ ba (Lib.itoa c)
theorem itoa_short (n : Int) (h : GInt .i64 n) : int64B n ∧ (ba (Lib.itoa n)).size ≤ 21 := by
  have h' := GInt_i64 h
  exact ⟨h', by rw [ba_size]; exact Lib.itoa_length_le n h'.1 h'.2⟩
theorem sp_size : (⟨#[32]⟩ : ByteArray).size = 1 := rfl
theorem q_size : (⟨#[63]⟩ : ByteArray).size = 1 := rfl
theorem spec_j0 (a : ByteArray) (c r p : Int) (ha : a.size ≤ 100) (hr : GInt .i64 r) (hp : GInt .i64 p) : spec_FaultText.j0 31 a c r p = some (lineB a (wordB c) r p) := by
  obtain ⟨hr1, hr2⟩ := itoa_short r hr
  obtain ⟨hp1, hp2⟩ := itoa_short p hp
  have er := spec_digits r hr1.1 hr1.2 30 (by omega) (by omega)
  have ep := spec_digits p hp1.1 hp1.2 30 (by omega) (by omega)
  simp only [spec_FaultText.j0, spec_l1In.f]
  unfold wordB lineB
  by_cases h1 : c ≥ 1
  · rw [if_pos h1]
    simp only [Option.bind_some]
    by_cases h2 : c ≤ 14
    · obtain ⟨e, hs⟩ := word_eq c h1 h2
      rw [if_pos (by simp [h2]), if_pos (⟨h1, h2⟩ : 1 ≤ c ∧ c ≤ 14), if_pos (by omega), if_pos (by simp only [List.length_cons, List.length_nil]; omega), e, er, ep]
      simp only [Option.bind_some, ByteArray.size_append, sp_size]
      rw [if_pos (by omega), if_pos (by omega), if_pos (by omega), if_pos (by omega), if_pos (by omega), if_pos (by omega)]
    · rw [if_neg (by simp [h2]), if_neg (by omega : ¬ (1 ≤ c ∧ c ≤ 14)), er, ep]
      simp only [Option.bind_some, ByteArray.size_append, sp_size, q_size]
      rw [if_pos (by omega), if_pos (by omega), if_pos (by omega), if_pos (by omega), if_pos (by omega), if_pos (by omega)]
  · rw [if_neg h1]
    simp only [Option.bind_some]
    rw [if_neg (by decide), if_neg (by omega : ¬ (1 ≤ c ∧ c ≤ 14)), er, ep]
    simp only [Option.bind_some, ByteArray.size_append, sp_size, q_size]
    rw [if_pos (by omega), if_pos (by omega), if_pos (by omega), if_pos (by omega), if_pos (by omega), if_pos (by omega)]
theorem impl_digits (n : Int) (h : int64B n) : impl_Digits.f n = some (ba (Lib.itoa n)) := by
  unfold impl_Digits.f strconv_Itoa_17.f
  rw [if_pos h]
  rfl
theorem impl_j0 (a : ByteArray) (c r p : Int) (ha : a.size ≤ 100) (hr : GInt .i64 r) (hp : GInt .i64 p) : impl_FaultText.j0 31 a (⟨#[63]⟩ : ByteArray) c r p = some (lineB a (wordB c) r p) := by
  obtain ⟨hr1, hr2⟩ := itoa_short r hr
  obtain ⟨hp1, hp2⟩ := itoa_short p hp
  simp only [impl_FaultText.j0, impl_within.f]
  unfold wordB lineB
  by_cases h1 : c ≥ 1
  · rw [if_pos h1]
    simp only [Option.bind_some]
    by_cases h2 : c ≤ 14
    · obtain ⟨e, hs⟩ := word_eq c h1 h2
      have hw : wrap64 (c - 1) = c - 1 := by unfold wrap64; omega
      rw [if_pos (by simp [h2]), if_pos (⟨h1, h2⟩ : 1 ≤ c ∧ c ≤ 14), if_pos (by rw [hw]; omega), if_pos (by rw [hw]; omega), impl_digits r hr1, impl_digits p hp1]
      simp only [Option.bind_some, ByteArray.size_append, sp_size]
      rw [if_pos (by omega), if_pos (by omega), if_pos (by omega), if_pos (by omega), if_pos (by omega), if_pos (by omega)]
    · rw [if_neg (by simp [h2]), if_neg (by omega : ¬ (1 ≤ c ∧ c ≤ 14)), impl_digits r hr1, impl_digits p hp1]
      simp only [Option.bind_some, ByteArray.size_append, sp_size, q_size]
      rw [if_pos (by omega), if_pos (by omega), if_pos (by omega), if_pos (by omega), if_pos (by omega), if_pos (by omega)]
  · rw [if_neg h1]
    simp only [Option.bind_some]
    rw [if_neg (by decide), if_neg (by omega : ¬ (1 ≤ c ∧ c ≤ 14)), impl_digits r hr1, impl_digits p hp1]
    simp only [Option.bind_some, ByteArray.size_append, sp_size, q_size]
    rw [if_pos (by omega), if_pos (by omega), if_pos (by omega), if_pos (by omega), if_pos (by omega), if_pos (by omega)]
def textB (w c r p : Int) : ByteArray := if w = 0 then ⟨#[111, 107]⟩ else lineB (whereB w) (wordB c) r p
theorem spec_text (w c r p : Int) (hr : GInt .i64 r) (hp : GInt .i64 p) : spec_FaultText.f 31 w c r p = some (textB w c r p) := by
  unfold spec_FaultText.f textB
  by_cases h0 : w = 0
  · rw [if_pos h0, if_pos h0]
  rw [if_neg h0, if_neg h0]
  simp only [spec_l1In.f]
  unfold whereB
  by_cases h1 : w ≥ 1
  · rw [if_pos h1]
    simp only [Option.bind_some]
    by_cases h2 : w ≤ 3
    · obtain ⟨e, hs⟩ := where_eq w h1 h2
      rw [if_pos (by simp [h2]), if_pos (⟨h1, h2⟩ : 1 ≤ w ∧ w ≤ 3), if_pos (by omega), if_pos (by simp only [List.length_cons, List.length_nil]; omega), e]
      exact spec_j0 _ c r p hs hr hp
    · rw [if_neg (by simp [h2]), if_neg (by omega : ¬ (1 ≤ w ∧ w ≤ 3))]
      exact spec_j0 _ c r p (by decide) hr hp
  · rw [if_neg h1]
    simp only [Option.bind_some]
    rw [if_neg (by decide), if_neg (by omega : ¬ (1 ≤ w ∧ w ≤ 3))]
    exact spec_j0 _ c r p (by decide) hr hp
theorem impl_text (w c r p : Int) (hr : GInt .i64 r) (hp : GInt .i64 p) : impl_FaultText.f 31 w c r p = some (textB w c r p) := by
  unfold impl_FaultText.f textB
  by_cases h0 : w = 0
  · rw [if_pos h0, if_pos h0]
  rw [if_neg h0, if_neg h0]
  simp only [impl_within.f]
  unfold whereB
  by_cases h1 : w ≥ 1
  · rw [if_pos h1]
    simp only [Option.bind_some]
    by_cases h2 : w ≤ 3
    · obtain ⟨e, hs⟩ := where_eq w h1 h2
      have hw : wrap64 (w - 1) = w - 1 := by unfold wrap64; omega
      rw [if_pos (by simp [h2]), if_pos (⟨h1, h2⟩ : 1 ≤ w ∧ w ≤ 3), if_pos (by rw [hw]; omega), if_pos (by rw [hw]; omega)]
      exact impl_j0 _ c r p hs hr hp
    · rw [if_neg (by simp [h2]), if_neg (by omega : ¬ (1 ≤ w ∧ w ≤ 3))]
      exact impl_j0 _ c r p (by decide) hr hp
  · rw [if_neg h1]
    simp only [Option.bind_some]
    rw [if_neg (by decide), if_neg (by omega : ¬ (1 ≤ w ∧ w ≤ 3))]
    exact impl_j0 _ c r p (by decide) hr hp

theorem FnExactFaultText : Go.Proofs.YteoikmbdpofhmaaDoor.fnExactFaultText.Pure := by
  intro w c r p hw hg
  obtain ⟨hc, hr, hp⟩ := hg
  refine ⟨31, ?_⟩
  unfold laws_FnExactFaultText.f laws_toFault.f
  simp only [Option.bind_some]
  rw [spec_text w c r p hr hp, impl_text w c r p hr hp]
  simp

end Go.Proofs.YteoikmbdpofhmaaDoor.Pure
