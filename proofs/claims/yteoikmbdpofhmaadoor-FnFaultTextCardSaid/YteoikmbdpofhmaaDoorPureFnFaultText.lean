/- The pure statement of FnFaultText: the program's text of a fault is the reference's, and different faults (of the kinds that there are) have different texts. -/
import Derived.Test.YteoikmbdpofhmaaDoorSaidFnFaultText
import Derived.Lib.ItoaLen
import Derived.Laws.BitsLemmas
namespace Go.Proofs.YteoikmbdpofhmaaDoor.Pure
open Go.RowKit Go.Proofs.YteoikmbdpofhmaaDoorW.PrintWords Go.Proofs.YteoikmbdpofhmaaDoorW.PrintLast Go.Proofs.YteoikmbdpofhmaaDoor.XFnFaultText Go.Proofs.YteoikmbdpofhmaaDoor.Opens Go.Proofs.YteoikmbdpofhmaaDoor.fnFaultText
set_option linter.unusedVariables false
/-! ### The numeral of the reference -/
def digs (m : Nat) : List UInt8 := if m = 0 then [] else Lib.decDigits m
theorem digs_step (m : Nat) (h : m ≠ 0) : digs m = digs (m / 10) ++ [UInt8.ofNat (48 + m % 10)] := by
  unfold digs
  rw [if_neg h]
  by_cases h9 : m < 10
  · rw [if_pos (by omega), Lib.decDigits, dif_pos h9, Nat.mod_eq_of_lt h9]; rfl
  · rw [if_neg (by omega), Lib.decDigits, dif_neg h9]
def sgn (b : Bool) : List UInt8 := if b = true then [45] else []
def ba (l : List UInt8) : ByteArray := ⟨l.toArray⟩
theorem ba_append (a b : List UInt8) : ba a ++ ba b = ba (a ++ b) := by
  apply ByteArray.ext
  simp [ba, ByteArray.data_append]
theorem ba_size (a : List UInt8) : (ba a).size = a.length := by simp [ba, ByteArray.size]
theorem ba_toList (a : List UInt8) : (ba a).data.toList = a := by simp [ba]
theorem strOfNums_one (c : Int) (h0 : 0 ≤ c) (h1 : c < 256) : strOfNums [c % 256] = ba [UInt8.ofNat c.toNat] := by
  have : c % 256 = c := by omega
  rw [this]
  rfl
theorem spec_digits_loop (k : Nat) : ∀ (x : Int) (b : Bool) (out : List UInt8), x.natAbs < 10 ^ k → -9223372036854775808 ≤ x → x ≤ 9223372036854775807 → out.length + k + 1 ≤ 9223372036854775807 →
    spec_Digits.l0 (k + 1) x b (ba out) = some (ba (sgn b ++ digs x.natAbs ++ out)) := by
  induction k with
  | zero =>
    intro x b out h _ _ hl
    have hx : x = 0 := by simp at h; omega
    subst hx
    simp only [spec_Digits.l0]
    rw [if_pos trivial]
    cases b
    · rw [if_neg (by decide)]; simp [sgn, digs]
    · rw [if_pos rfl, if_pos (by rw [ba_size]; omega)]
      show some (ba [45] ++ ba out) = _
      rw [ba_append]; simp [sgn, digs]
  | succ k ih =>
    intro x b out h h0 h1 hl
    by_cases hx : x = 0
    · subst hx
      simp only [spec_Digits.l0]
      rw [if_pos trivial]
      cases b
      · rw [if_neg (by decide)]; simp [sgn, digs]
      · rw [if_pos rfl, if_pos (by rw [ba_size]; omega)]
        show some (ba [45] ++ ba out) = _
        rw [ba_append]; simp [sgn, digs]
    · have hm : (Int.tdiv x 10).natAbs = x.natAbs / 10 := by
        rw [Int.natAbs_tdiv]; rfl
      have ht : (Int.tmod x 10).natAbs = x.natAbs % 10 := by rw [Int.natAbs_tmod]; rfl
      have hlt : (Int.tdiv x 10).natAbs < 10 ^ k := by rw [hm]; rw [Nat.pow_succ] at h; omega
      have hr := ih (Int.tdiv x 10) b (UInt8.ofNat (48 + x.natAbs % 10) :: out) hlt (by omega) (by omega) (by simp only [List.length_cons]; omega)
      have hw : wrap64 (Int.tdiv x 10) = Int.tdiv x 10 := by unfold wrap64; omega
      have hd := digs_step x.natAbs (by omega)
      have hfin : some (ba (sgn b ++ digs (Int.tdiv x 10).natAbs ++ (UInt8.ofNat (48 + x.natAbs % 10) :: out))) = some (ba (sgn b ++ digs x.natAbs ++ out)) := by
        rw [hm, hd]; simp
      rw [spec_Digits.l0, if_neg hx]
      by_cases hn : Int.tmod x 10 < 0
      · rw [if_pos hn]
        have hc : (wrap64 (48 + (wrap64 (-(Int.tmod x 10))))) = 48 + ((x.natAbs % 10 : Nat) : Int) := by unfold wrap64; omega
        simp only [Option.bind_some]
        rw [hc, strOfNums_one _ (by omega) (by omega), ba_append, if_pos (by simp only [ba_size, List.length_singleton]; omega), hw]
        rw [show (48 + ((x.natAbs % 10 : Nat) : Int)).toNat = 48 + x.natAbs % 10 by omega]
        exact hr.trans hfin
      · rw [if_neg hn]
        have hc : (wrap64 (48 + (Int.tmod x 10))) = 48 + ((x.natAbs % 10 : Nat) : Int) := by unfold wrap64; omega
        simp only [Option.bind_some]
        rw [hc, strOfNums_one _ (by omega) (by omega), ba_append, if_pos (by simp only [ba_size, List.length_singleton]; omega), hw]
        rw [show (48 + ((x.natAbs % 10 : Nat) : Int)).toNat = 48 + x.natAbs % 10 by omega]
        exact hr.trans hfin
/-- The reference's numeral is the library's. -/
theorem spec_digits (n : Int) (h0 : -9223372036854775808 ≤ n) (h1 : n ≤ 9223372036854775807) (k : Nat) (hk : 20 ≤ k) (hk2 : k ≤ 1000000000) : spec_Digits.f k n = some (ba (Lib.itoa n)) := by
  unfold spec_Digits.f
  by_cases hn : n = 0
  · subst hn
    rw [if_pos rfl]
    unfold Lib.itoa
    rw [if_neg (by decide), Lib.decDigits, dif_pos (by decide)]
    rfl
  · rw [if_neg hn]
    obtain ⟨j, rfl⟩ : ∃ j, k = j + 1 := ⟨k - 1, by omega⟩
    have hp : (10 : Nat) ^ 19 ≤ 10 ^ j := Nat.pow_le_pow_right (by omega) (by omega)
    have := spec_digits_loop j n (decide (n < 0)) [] (by omega) h0 h1 (by simp only [List.length_nil]; omega)
    rw [show (⟨#[]⟩ : ByteArray) = ba [] from rfl, this]
    congr 2
    unfold Lib.itoa digs sgn
    by_cases hneg : n < 0
    · simp [hneg, hn]
    · simp [hneg, hn]
      congr 1
      omega
/-! ### The words -/
theorem word_eq (c : Int) (h1 : 1 ≤ c) (h2 : c ≤ 14) : rdOf ByteArray.empty ([(⟨#[]⟩ : ByteArray), (⟨#[108, 111, 110, 103]⟩ : ByteArray), (⟨#[113, 117, 111, 116, 101]⟩ : ByteArray), (⟨#[101, 109, 112, 116, 121]⟩ : ByteArray), (⟨#[119, 105, 100, 116, 104]⟩ : ByteArray), (⟨#[110, 97, 109, 101]⟩ : ByteArray), (⟨#[116, 119, 105, 99, 101]⟩ : ByteArray), (⟨#[99, 111, 108, 115]⟩ : ByteArray), (⟨#[114, 111, 119, 115]⟩ : ByteArray), (⟨#[118, 97, 108, 117, 101]⟩ : ByteArray), (⟨#[108, 105, 110, 101]⟩ : ByteArray), (⟨#[107, 101, 121]⟩ : ByteArray), (⟨#[110, 117, 109, 98, 101, 114]⟩ : ByteArray), (⟨#[114, 97, 110, 103, 101]⟩ : ByteArray), (⟨#[115, 105, 103, 110, 115]⟩ : ByteArray)] : List ByteArray) c = arrw1 (wrap64 (c - 1)) ∧ (arrw1 (wrap64 (c - 1))).size ≤ 100 := by
  have hw : wrap64 (c - 1) = c - 1 := by unfold wrap64; omega
  rw [hw]
  clear hw
  have h : c = 1 ∨ c = 2 ∨ c = 3 ∨ c = 4 ∨ c = 5 ∨ c = 6 ∨ c = 7 ∨ c = 8 ∨ c = 9 ∨ c = 10 ∨ c = 11 ∨ c = 12 ∨ c = 13 ∨ c = 14 := by omega
  rcases h with rfl | rfl | rfl | rfl | rfl | rfl | rfl | rfl | rfl | rfl | rfl | rfl | rfl | rfl <;> exact ⟨rfl, by decide⟩
theorem where_eq (c : Int) (h1 : 1 ≤ c) (h2 : c ≤ 3) : rdOf ByteArray.empty ([(⟨#[]⟩ : ByteArray), (⟨#[116, 97, 98, 108, 101]⟩ : ByteArray), (⟨#[99, 111, 110, 102, 105, 103]⟩ : ByteArray), (⟨#[98, 111, 116, 104]⟩ : ByteArray)] : List ByteArray) c = arrw0 (wrap64 (c - 1)) ∧ (arrw0 (wrap64 (c - 1))).size ≤ 100 := by
  have hw : wrap64 (c - 1) = c - 1 := by unfold wrap64; omega
  rw [hw]
  clear hw
  have h : c = 1 ∨ c = 2 ∨ c = 3 := by omega
  rcases h with rfl | rfl | rfl <;> exact ⟨rfl, by decide⟩
def wordB (c : Int) : ByteArray := if 1 ≤ c ∧ c ≤ 14 then arrw1 (wrap64 (c - 1)) else ⟨#[63]⟩
def whereB (c : Int) : ByteArray := if 1 ≤ c ∧ c ≤ 3 then arrw0 (wrap64 (c - 1)) else ⟨#[63]⟩
def lineB (a w : ByteArray) (r c : Int) : ByteArray := ((((a ++ (⟨#[32]⟩ : ByteArray)) ++ w) ++ (⟨#[32]⟩ : ByteArray)) ++ ba (Lib.itoa r) ++ (⟨#[32]⟩ : ByteArray)) ++ ba (Lib.itoa c)
theorem itoa_short (n : Int) (h : GInt .i64 n) : int64B n ∧ (ba (Lib.itoa n)).size ≤ 21 := by
  have h' := GInt_i64 h
  exact ⟨h', by rw [ba_size]; exact Lib.itoa_length_le n h'.1 h'.2⟩
theorem sp_size : (⟨#[32]⟩ : ByteArray).size = 1 := rfl
theorem q_size : (⟨#[63]⟩ : ByteArray).size = 1 := rfl
theorem spec_j0 (k : Nat) (hk : 20 ≤ k) (hk2 : k ≤ 1000000000) (a : ByteArray) (c r p : Int) (ha : a.size ≤ 100) (hr : GInt .i64 r) (hp : GInt .i64 p) : spec_FaultText.j0 (k + 1) a c r p = some (lineB a (wordB c) r p) := by
  obtain ⟨hr1, hr2⟩ := itoa_short r hr
  obtain ⟨hp1, hp2⟩ := itoa_short p hp
  have er := spec_digits r hr1.1 hr1.2 k hk hk2
  have ep := spec_digits p hp1.1 hp1.2 k hk hk2
  simp only [spec_FaultText.j0, spec_l1In.f]
  unfold wordB lineB
  by_cases h1 : c ≥ 1
  · rw [if_pos h1]
    simp only [Option.bind_some]
    by_cases h2 : c ≤ 14
    · obtain ⟨e, hs⟩ := word_eq c h1 h2
      rw [if_pos (by simp [h2]), if_pos (⟨h1, h2⟩ : 1 ≤ c ∧ c ≤ 14), if_pos (by omega), if_pos (by simp only [List.length_cons, List.length_nil]; omega), e, er, ep]
      simp only [Option.bind_some, ByteArray.size_append, sp_size]
      rw [if_pos (by omega), if_pos (by omega), if_pos (by omega), if_pos (by omega), if_pos (by omega), if_pos (by omega)]
    · rw [if_neg (by simp [h2]), if_neg (by omega : ¬ (1 ≤ c ∧ c ≤ 14)), er, ep]
      simp only [Option.bind_some, ByteArray.size_append, sp_size, q_size]
      rw [if_pos (by omega), if_pos (by omega), if_pos (by omega), if_pos (by omega), if_pos (by omega), if_pos (by omega)]
  · rw [if_neg h1]
    simp only [Option.bind_some]
    rw [if_neg (by decide), if_neg (by omega : ¬ (1 ≤ c ∧ c ≤ 14)), er, ep]
    simp only [Option.bind_some, ByteArray.size_append, sp_size, q_size]
    rw [if_pos (by omega), if_pos (by omega), if_pos (by omega), if_pos (by omega), if_pos (by omega), if_pos (by omega)]
theorem impl_digits (n : Int) (h : int64B n) : impl_Digits.f n = some (ba (Lib.itoa n)) := by
  unfold impl_Digits.f strconv_Itoa_17.f
  rw [if_pos h]
  rfl
theorem impl_j0 (k : Nat) (a : ByteArray) (c r p : Int) (ha : a.size ≤ 100) (hr : GInt .i64 r) (hp : GInt .i64 p) : impl_FaultText.j0 (k + 1) a (⟨#[63]⟩ : ByteArray) c r p = some (lineB a (wordB c) r p) := by
  obtain ⟨hr1, hr2⟩ := itoa_short r hr
  obtain ⟨hp1, hp2⟩ := itoa_short p hp
  simp only [impl_FaultText.j0, impl_within.f]
  unfold wordB lineB
  by_cases h1 : c ≥ 1
  · rw [if_pos h1]
    simp only [Option.bind_some]
    by_cases h2 : c ≤ 14
    · obtain ⟨e, hs⟩ := word_eq c h1 h2
      have hw : wrap64 (c - 1) = c - 1 := by unfold wrap64; omega
      rw [if_pos (by simp [h2]), if_pos (⟨h1, h2⟩ : 1 ≤ c ∧ c ≤ 14), if_pos (by rw [hw]; omega), if_pos (by rw [hw]; omega), impl_digits r hr1, impl_digits p hp1]
      simp only [Option.bind_some, ByteArray.size_append, sp_size]
      rw [if_pos (by omega), if_pos (by omega), if_pos (by omega), if_pos (by omega), if_pos (by omega), if_pos (by omega)]
    · rw [if_neg (by simp [h2]), if_neg (by omega : ¬ (1 ≤ c ∧ c ≤ 14)), impl_digits r hr1, impl_digits p hp1]
      simp only [Option.bind_some, ByteArray.size_append, sp_size, q_size]
      rw [if_pos (by omega), if_pos (by omega), if_pos (by omega), if_pos (by omega), if_pos (by omega), if_pos (by omega)]
  · rw [if_neg h1]
    simp only [Option.bind_some]
    rw [if_neg (by decide), if_neg (by omega : ¬ (1 ≤ c ∧ c ≤ 14)), impl_digits r hr1, impl_digits p hp1]
    simp only [Option.bind_some, ByteArray.size_append, sp_size, q_size]
    rw [if_pos (by omega), if_pos (by omega), if_pos (by omega), if_pos (by omega), if_pos (by omega), if_pos (by omega)]
def textB (w c r p : Int) : ByteArray := if w = 0 then ⟨#[111, 107]⟩ else lineB (whereB w) (wordB c) r p
theorem spec_text (k : Nat) (hk : 20 ≤ k) (hk2 : k ≤ 1000000000) (w c r p : Int) (hr : GInt .i64 r) (hp : GInt .i64 p) : spec_FaultText.f (k + 1) w c r p = some (textB w c r p) := by
  unfold spec_FaultText.f textB
  by_cases h0 : w = 0
  · rw [if_pos h0, if_pos h0]
  rw [if_neg h0, if_neg h0]
  simp only [spec_l1In.f]
  unfold whereB
  by_cases h1 : w ≥ 1
  · rw [if_pos h1]
    simp only [Option.bind_some]
    by_cases h2 : w ≤ 3
    · obtain ⟨e, hs⟩ := where_eq w h1 h2
      rw [if_pos (by simp [h2]), if_pos (⟨h1, h2⟩ : 1 ≤ w ∧ w ≤ 3), if_pos (by omega), if_pos (by simp only [List.length_cons, List.length_nil]; omega), e]
      exact spec_j0 k hk hk2 _ c r p hs hr hp
    · rw [if_neg (by simp [h2]), if_neg (by omega : ¬ (1 ≤ w ∧ w ≤ 3))]
      exact spec_j0 k hk hk2 _ c r p (by decide) hr hp
  · rw [if_neg h1]
    simp only [Option.bind_some]
    rw [if_neg (by decide), if_neg (by omega : ¬ (1 ≤ w ∧ w ≤ 3))]
    exact spec_j0 k hk hk2 _ c r p (by decide) hr hp
theorem impl_text (k : Nat) (w c r p : Int) (hr : GInt .i64 r) (hp : GInt .i64 p) : impl_FaultText.f (k + 1) w c r p = some (textB w c r p) := by
  unfold impl_FaultText.f textB
  by_cases h0 : w = 0
  · rw [if_pos h0, if_pos h0]
  rw [if_neg h0, if_neg h0]
  simp only [impl_within.f]
  unfold whereB
  by_cases h1 : w ≥ 1
  · rw [if_pos h1]
    simp only [Option.bind_some]
    by_cases h2 : w ≤ 3
    · obtain ⟨e, hs⟩ := where_eq w h1 h2
      have hw : wrap64 (w - 1) = w - 1 := by unfold wrap64; omega
      rw [if_pos (by simp [h2]), if_pos (⟨h1, h2⟩ : 1 ≤ w ∧ w ≤ 3), if_pos (by rw [hw]; omega), if_pos (by rw [hw]; omega)]
      exact impl_j0 k _ c r p hs hr hp
    · rw [if_neg (by simp [h2]), if_neg (by omega : ¬ (1 ≤ w ∧ w ≤ 3))]
      exact impl_j0 k _ c r p (by decide) hr hp
  · rw [if_neg h1]
    simp only [Option.bind_some]
    rw [if_neg (by decide), if_neg (by omega : ¬ (1 ≤ w ∧ w ≤ 3))]
    exact impl_j0 k _ c r p (by decide) hr hp
/-! ### The cursor of the draws -/
theorem and255 (n : Int) : Go.bits .and .i64 n 255 = n % 256 := by
  have h255 : (BitVec.ofInt 64 255).toNat = 2 ^ 8 - 1 := by decide
  have key : (BitVec.ofInt 64 n &&& BitVec.ofInt 64 255).toNat = (n % ((2 ^ 64 : Nat) : Int)).toNat % 2 ^ 8 := by
    rw [BitVec.toNat_and, BitVec.toNat_ofInt, h255, Nat.and_two_pow_sub_one_eq_mod]
  show IntKind.i64.wrap ((BitVec.ofInt 64 n &&& BitVec.ofInt 64 255).toNat : Nat) = n % 256
  rw [key, IntKind.wrap_i64]
  omega
/-- A place in the code that is drawn from. -/
def At (l : List Int) (i : Int) : Prop := 0 ≤ i ∧ i ≤ l.length ∧ l.length ≤ 1099511627776
theorem draw_byte (l : List Int) (i h : Int) (hi : At l i) : ∃ b i' h', spec_l1Byte.f l i h = some (b, i', h') ∧ 0 ≤ b ∧ b ≤ 255 ∧ At l i' := by
  obtain ⟨h0, h1, h2⟩ := hi
  unfold spec_l1Byte.f
  by_cases c : i < (l.length : Int)
  · rw [if_pos c, if_pos h0]
    have hw : wrap64 (i + 1) = i + 1 := by unfold wrap64; omega
    refine ⟨_, _, _, rfl, ?_, ?_, ?_⟩
    · rw [and255]; omega
    · rw [and255]; omega
    · rw [hw]; exact ⟨by omega, by omega, h2⟩
  · rw [if_neg c]
    refine ⟨_, _, _, rfl, ?_, ?_, h0, h1, h2⟩
    · rw [and255]; omega
    · rw [and255]; omega
theorem tmod_below (x n : Int) (h0 : 0 ≤ x) (hn : 0 < n) : 0 ≤ Int.tmod x n ∧ Int.tmod x n < n := by
  rw [Int.tmod_eq_emod_of_nonneg h0]
  exact ⟨Int.emod_nonneg _ (by omega), Int.emod_lt_of_pos _ hn⟩
theorem draw_below (l : List Int) (i h n : Int) (hi : At l i) : ∃ b i' h', spec_l1Below.f l i h n = some (b, i', h') ∧ 0 ≤ b ∧ (0 < n → b < n) ∧ At l i' := by
  unfold spec_l1Below.f
  by_cases c : n ≤ 0
  · rw [if_pos c]; exact ⟨0, i, h, rfl, by omega, by omega, hi⟩
  · rw [if_neg c]
    obtain ⟨b1, i1, h1, e1, p1, q1, a1⟩ := draw_byte l i h hi
    by_cases c2 : n ≤ 256
    · rw [if_pos c2, e1]
      simp only [Option.bind_some]
      rw [if_neg (by omega)]
      obtain ⟨r1, r2⟩ := tmod_below b1 n p1 (by omega)
      exact ⟨_, _, _, rfl, r1, fun _ => r2, a1⟩
    · rw [if_neg c2, e1]
      simp only [Option.bind_some]
      obtain ⟨b2, i2, h2, e2, p2, q2, a2⟩ := draw_byte l i1 h1 a1
      rw [e2]
      simp only [Option.bind_some]
      obtain ⟨b3, i3, h3, e3, p3, q3, a3⟩ := draw_byte l i2 h2 a2
      rw [e3]
      simp only [Option.bind_some]
      obtain ⟨b4, i4, h4, e4, p4, q4, a4⟩ := draw_byte l i3 h3 a3
      rw [e4]
      simp only [Option.bind_some]
      rw [if_neg (by omega)]
      obtain ⟨r1, r2⟩ := tmod_below (wrap64 ((wrap64 ((wrap64 ((wrap64 (b1 * 16777216)) + (wrap64 (b2 * 65536)))) + (wrap64 (b3 * 256)))) + b4)) n (by unfold wrap64; omega) (by omega)
      exact ⟨_, _, _, rfl, r1, fun _ => r2, a4⟩
theorem draw_new_loop (d : Nat) : ∀ (k : Nat) (l : List Int) (x i : Int), 0 ≤ i → (4000 - i).toNat ≤ d → d < k → l.length ≤ 1099511627776 → ∃ h, spec_l1New.l0 k l x i = some (l, 0, h) := by
  induction d with
  | zero =>
    intro k l x i h0 hd hk hl
    obtain ⟨k, rfl⟩ : ∃ m, k = m + 1 := ⟨k - 1, by omega⟩
    rw [spec_l1New.l0]
    by_cases c : i < (l.length : Int)
    · rw [if_pos c, if_neg (by omega)]; exact ⟨_, rfl⟩
    · rw [if_neg c]; exact ⟨_, rfl⟩
  | succ d ih =>
    intro k l x i h0 hd hk hl
    obtain ⟨k, rfl⟩ : ∃ m, k = m + 1 := ⟨k - 1, by omega⟩
    rw [spec_l1New.l0]
    by_cases c : i < (l.length : Int)
    · rw [if_pos c]
      by_cases c2 : i < 4000
      · rw [if_pos c2, if_pos h0]
        have hw : wrap64 (i + 1) = i + 1 := by unfold wrap64; omega
        rw [hw]
        exact ih k l _ (i + 1) (by omega) (by omega) (by omega) hl
      · rw [if_neg c2]; exact ⟨_, rfl⟩
    · rw [if_neg c]; exact ⟨_, rfl⟩
theorem draw_new (k : Nat) (l : List Int) (hk : 4001 ≤ k) (hl : l.length ≤ 1099511627776) : ∃ h, spec_l1New.f k l = some (l, 0, h) ∧ At l 0 := by
  obtain ⟨h, e⟩ := draw_new_loop 4000 k l (wrap64 (28507 + (l.length : Int))) 0 (by omega) (by omega) (by omega) hl
  exact ⟨h, e, by omega, by omega, hl⟩
theorem draw_fault (k : Nat) (l : List Int) (hk : 4001 ≤ k) (hl : l.length ≤ 1099511627776) :
    ∃ w c r p, spec_DrawFaultText.f k l = some (w, c, r, p) ∧ -1 ≤ w ∧ w ≤ 4 ∧ -1 ≤ c ∧ c ≤ 15 ∧ 0 ≤ r ∧ r ≤ 4 ∧ 0 ≤ p ∧ p ≤ 4 := by
  unfold spec_DrawFaultText.f
  obtain ⟨h, e0, a0⟩ := draw_new k l hk hl
  rw [e0]
  simp only [Option.bind_some]
  obtain ⟨b1, i1, h1, e1, p1, q1, a1⟩ := draw_below l 0 h 6 a0
  rw [e1]
  simp only [Option.bind_some]
  obtain ⟨b2, i2, h2, e2, p2, q2, a2⟩ := draw_below l i1 h1 17 a1
  rw [e2]
  simp only [Option.bind_some]
  obtain ⟨b3, i3, h3, e3, p3, q3, a3⟩ := draw_below l i2 h2 5 a2
  rw [e3]
  simp only [Option.bind_some]
  obtain ⟨b4, i4, h4, e4, p4, q4, a4⟩ := draw_below l i3 h3 5 a3
  rw [e4]
  simp only [Option.bind_some]
  have w1 : wrap64 (b1 - 1) = b1 - 1 := by have := q1 (by omega); unfold wrap64; omega
  have w2 : wrap64 (b2 - 1) = b2 - 1 := by have := q2 (by omega); unfold wrap64; omega
  rw [w1, w2]
  have := q1 (by omega); have := q2 (by omega); have := q3 (by omega); have := q4 (by omega)
  exact ⟨_, _, _, _, rfl, by omega, by omega, by omega, by omega, by omega, by omega, by omega, by omega⟩
theorem gint (n : Int) (h0 : -1 ≤ n) (h1 : n ≤ 15) : GInt .i64 n := by
  unfold GInt Lit.wf
  simp [IntKind.min, IntKind.max, IntKind.signed, IntKind.bits]
  omega
/-! ### Different faults have different texts -/
theorem split32 {a b x y : List UInt8} (ha : 32 ∉ a) (hb : 32 ∉ b) (h : a ++ 32 :: x = b ++ 32 :: y) : a = b ∧ x = y := by
  induction a generalizing b with
  | nil =>
    cases b with
    | nil => simpa using h
    | cons c b => simp at h; exact absurd (by simp [h.1]) hb
  | cons c a ih =>
    cases b with
    | nil => simp at h; exact absurd (by simp [h.1]) ha
    | cons d b =>
      simp at h
      obtain ⟨rfl, h⟩ := h
      obtain ⟨rfl, rfl⟩ := ih (fun hc => ha (by simp [hc])) (fun hc => hb (by simp [hc])) h
      exact ⟨rfl, rfl⟩
def unWhere (l : List UInt8) : Int := if l = [116, 97, 98, 108, 101] then 1 else if l = [99, 111, 110, 102, 105, 103] then 2 else if l = [98, 111, 116, 104] then 3 else 0
def unWord (l : List UInt8) : Int := if l = [108, 111, 110, 103] then 1 else if l = [113, 117, 111, 116, 101] then 2 else if l = [101, 109, 112, 116, 121] then 3 else if l = [119, 105, 100, 116, 104] then 4 else if l = [110, 97, 109, 101] then 5 else if l = [116, 119, 105, 99, 101] then 6 else if l = [99, 111, 108, 115] then 7 else if l = [114, 111, 119, 115] then 8 else if l = [118, 97, 108, 117, 101] then 9 else if l = [108, 105, 110, 101] then 10 else if l = [107, 101, 121] then 11 else if l = [110, 117, 109, 98, 101, 114] then 12 else if l = [114, 97, 110, 103, 101] then 13 else if l = [115, 105, 103, 110, 115] then 14 else 0
theorem where_un (w : Int) (h1 : 1 ≤ w) (h2 : w ≤ 3) : unWhere (whereB w).data.toList = w ∧ 32 ∉ (whereB w).data.toList := by
  have hw : wrap64 (w - 1) = w - 1 := by unfold wrap64; omega
  unfold whereB
  rw [if_pos ⟨h1, h2⟩, hw]
  clear hw
  have h : w = 1 ∨ w = 2 ∨ w = 3 := by omega
  rcases h with rfl | rfl | rfl <;> exact ⟨by decide, by decide⟩
theorem word_un (c : Int) (h1 : 1 ≤ c) (h2 : c ≤ 14) : unWord (wordB c).data.toList = c ∧ 32 ∉ (wordB c).data.toList := by
  have hw : wrap64 (c - 1) = c - 1 := by unfold wrap64; omega
  unfold wordB
  rw [if_pos ⟨h1, h2⟩, hw]
  clear hw
  have h : c = 1 ∨ c = 2 ∨ c = 3 ∨ c = 4 ∨ c = 5 ∨ c = 6 ∨ c = 7 ∨ c = 8 ∨ c = 9 ∨ c = 10 ∨ c = 11 ∨ c = 12 ∨ c = 13 ∨ c = 14 := by omega
  rcases h with rfl | rfl | rfl | rfl | rfl | rfl | rfl | rfl | rfl | rfl | rfl | rfl | rfl | rfl <;> exact ⟨by decide, by decide⟩
theorem itoa_digit (n : Int) (h0 : 0 ≤ n) (h1 : n ≤ 4) : Lib.itoa n = [UInt8.ofNat (48 + n.toNat)] := by
  unfold Lib.itoa
  rw [if_neg (by omega), Lib.decDigits, dif_pos (by omega)]
theorem digit_inj {a b : Int} (ha : 0 ≤ a) (ha2 : a ≤ 4) (hb : 0 ≤ b) (hb2 : b ≤ 4) (h : UInt8.ofNat (48 + a.toNat) = UInt8.ofNat (48 + b.toNat)) : a = b := by
  have := congrArg UInt8.toNat h
  simp at this
  omega
theorem digit_not32 {a : Int} (ha : 0 ≤ a) (ha2 : a ≤ 4) : 32 ∉ [UInt8.ofNat (48 + a.toNat)] := by
  intro h
  have := List.mem_singleton.1 h
  have := congrArg UInt8.toNat this
  simp at this
  omega
theorem line_list (w c r p : Int) (hr : 0 ≤ r) (hr2 : r ≤ 4) (hp : 0 ≤ p) (hp2 : p ≤ 4) : (lineB (whereB w) (wordB c) r p).data.toList = (whereB w).data.toList ++ 32 :: ((wordB c).data.toList ++ 32 :: ([UInt8.ofNat (48 + r.toNat)] ++ 32 :: [UInt8.ofNat (48 + p.toNat)])) := by
  unfold lineB
  rw [itoa_digit r hr hr2, itoa_digit p hp hp2]
  simp [ByteArray.data_append, ba]
theorem line_inj {w c r p w2 c2 r2 p2 : Int} (hw : 1 ≤ w ∧ w ≤ 3) (hc : 1 ≤ c ∧ c ≤ 14) (hr : 0 ≤ r ∧ r ≤ 4) (hp : 0 ≤ p ∧ p ≤ 4) (hw2 : 1 ≤ w2 ∧ w2 ≤ 3) (hc2 : 1 ≤ c2 ∧ c2 ≤ 14) (hr2 : 0 ≤ r2 ∧ r2 ≤ 4) (hp2 : 0 ≤ p2 ∧ p2 ≤ 4)
    (h : (lineB (whereB w) (wordB c) r p).data.toList = (lineB (whereB w2) (wordB c2) r2 p2).data.toList) : w = w2 ∧ c = c2 ∧ r = r2 ∧ p = p2 := by
  rw [line_list w c r p hr.1 hr.2 hp.1 hp.2, line_list w2 c2 r2 p2 hr2.1 hr2.2 hp2.1 hp2.2] at h
  obtain ⟨ew, nw⟩ := where_un w hw.1 hw.2
  obtain ⟨ew2, nw2⟩ := where_un w2 hw2.1 hw2.2
  obtain ⟨ec, nc⟩ := word_un c hc.1 hc.2
  obtain ⟨ec2, nc2⟩ := word_un c2 hc2.1 hc2.2
  obtain ⟨e1, h⟩ := split32 nw nw2 h
  obtain ⟨e2, h⟩ := split32 nc nc2 h
  obtain ⟨e3, h⟩ := split32 (digit_not32 hr.1 hr.2) (digit_not32 hr2.1 hr2.2) h
  exact ⟨by rw [← ew, e1, ew2], by rw [← ec, e2, ec2], digit_inj hr.1 hr.2 hr2.1 hr2.2 (List.cons.inj e3).1, digit_inj hp.1 hp.2 hp2.1 hp2.2 (List.cons.inj h).1⟩
theorem ok_iff (w c r p : Int) (hr : 0 ≤ r) (hr2 : r ≤ 4) (hp : 0 ≤ p) (hp2 : p ≤ 4) : ((textB w c r p).toList == ([111, 107] : List UInt8)) = (w == 0) := by
  rw [Lib.toList_data]
  unfold textB
  by_cases h : w = 0
  · rw [if_pos h, h]; rfl
  · rw [if_neg h]
    have hm : (32 : UInt8) ∈ (lineB (whereB w) (wordB c) r p).data.toList := by rw [line_list w c r p hr hr2 hp hp2]; simp
    have e1 : ((lineB (whereB w) (wordB c) r p).data.toList == ([111, 107] : List UInt8)) = false := by
      rw [beq_eq_false_iff_ne]
      intro e
      rw [e] at hm
      exact absurd hm (by decide)
    have e2 : (w == 0) = false := by rw [beq_eq_false_iff_ne]; exact h
    rw [e1, e2]

theorem FnFaultText : Go.Proofs.YteoikmbdpofhmaaDoor.fnFaultText.Pure := by
  intro l hG
  refine ⟨5001, ?_⟩
  unfold laws_FnFaultText.f laws_big.f
  simp only [Option.bind_some]
  by_cases hbig : (l.length : Int) > 1048576
  · rw [if_pos (by simpa using hbig)]
  rw [if_neg (by simpa using hbig)]
  obtain ⟨w, c, r, p, e1, hw1, hw2, hc1, hc2, hr1, hr2, hp1, hp2⟩ := draw_fault 5001 l (by omega) (by omega)
  have htail : ∃ l', laws_tail.f l = some l' ∧ l'.length ≤ l.length := by
    unfold laws_tail.f
    by_cases h0 : (l.length : Int) = 0
    · rw [if_pos h0]; exact ⟨l, rfl, Nat.le_refl _⟩
    · rw [if_neg h0, if_pos (by omega)]; exact ⟨l.drop 1, rfl, by rw [List.length_drop]; omega⟩
  obtain ⟨l', et, hl'⟩ := htail
  obtain ⟨w2, c2, r2, p2, e2, hw3, hw4, hc3, hc4, hr3, hr4, hp3, hp4⟩ := draw_fault 5001 l' (by omega) (by omega)
  rw [e1]
  simp only [Option.bind_some]
  rw [et]
  simp only [Option.bind_some]
  rw [e2]
  simp only [Option.bind_some]
  rw [impl_text 5000 w c r p (gint r (by omega) (by omega)) (gint p (by omega) (by omega)), spec_text 5000 (by omega) (by omega) w c r p (gint r (by omega) (by omega)) (gint p (by omega) (by omega))]
  simp only [Option.bind_some]
  rw [if_pos trivial, ok_iff w c r p hr1 hr2 hp1 hp2]
  simp only [laws_FnFaultText.j0]
  rw [if_neg (by simp)]
  by_cases a1 : w < 1
  · rw [if_pos a1]
  rw [if_neg a1]
  by_cases a2 : w > 3
  · rw [if_pos a2]
  rw [if_neg a2]
  by_cases a3 : w2 < 1
  · rw [if_pos a3]
  rw [if_neg a3]
  by_cases a4 : w2 > 3
  · rw [if_pos a4]
  rw [if_neg a4]
  by_cases a5 : c < 1
  · rw [if_pos a5]
  rw [if_neg a5]
  by_cases a6 : c > 14
  · rw [if_pos a6]
  rw [if_neg a6]
  by_cases a7 : c2 < 1
  · rw [if_pos a7]
  rw [if_neg a7]
  by_cases a8 : c2 > 14
  · rw [if_pos a8]
  rw [if_neg a8, impl_text 4999 w2 c2 r2 p2 (gint r2 (by omega) (by omega)) (gint p2 (by omega) (by omega))]
  simp only [Option.bind_some, Lib.toList_data]
  have t1 : textB w c r p = lineB (whereB w) (wordB c) r p := by unfold textB; rw [if_neg (by omega)]
  have t2 : textB w2 c2 r2 p2 = lineB (whereB w2) (wordB c2) r2 p2 := by unfold textB; rw [if_neg (by omega)]
  rw [t1, t2]
  have inj : (lineB (whereB w) (wordB c) r p).data.toList = (lineB (whereB w2) (wordB c2) r2 p2).data.toList → w = w2 ∧ c = c2 ∧ r = r2 ∧ p = p2 :=
    line_inj ⟨by omega, by omega⟩ ⟨by omega, by omega⟩ ⟨hr1, hr2⟩ ⟨hp1, hp2⟩ ⟨by omega, by omega⟩ ⟨by omega, by omega⟩ ⟨hr3, hr4⟩ ⟨hp3, hp4⟩
  by_cases hww : w = w2
  · rw [if_pos hww]
    subst hww
    by_cases hall : c = c2 ∧ r = r2 ∧ p = p2
    · obtain ⟨rfl, rfl, rfl⟩ := hall
      simp
    · have e1 : ((lineB (whereB w) (wordB c) r p).data.toList == (lineB (whereB w) (wordB c2) r2 p2).data.toList) = false := by
        rw [beq_eq_false_iff_ne]
        intro e
        exact hall (inj e).2
      have e2 : (c == c2 && (r == r2 && (p == p2))) = false := by
        rw [Bool.eq_false_iff]
        intro e
        simp at e
        exact hall e
      rw [e1, e2]; rfl
  · rw [if_neg hww]
    have e1 : ((lineB (whereB w) (wordB c) r p).data.toList == (lineB (whereB w2) (wordB c2) r2 p2).data.toList) = false := by
      rw [beq_eq_false_iff_ne]
      intro e
      exact hww (inj e).1
    rw [e1]; rfl

end Go.Proofs.YteoikmbdpofhmaaDoor.Pure
