import Derived.Test.YtcgmdpnhlkbpbaaDoorSaidFnExactReadNode
import Derived.Lib.ItoaLen
namespace Go.Proofs.YtcgmdpnhlkbpbaaDoor.Pure
open Go.RowKit Go.Proofs.YtcgmdpnhlkbpbaaDoorW.PrintWords Go.Proofs.YtcgmdpnhlkbpbaaDoorW.PrintLast Go.Proofs.YtcgmdpnhlkbpbaaDoor.XFnExactReadNode Go.Proofs.YtcgmdpnhlkbpbaaDoor.Opens Go.Proofs.YtcgmdpnhlkbpbaaDoor.fnExactReadNode
set_option linter.unusedVariables false
/-! ### The numeral of the reference -/
def digs (m : Nat) : List UInt8 := if m = 0 then [] else Lib.decDigits m
theorem digs_step (m : Nat) (h : m ≠ 0) : digs m = digs (m / 10) ++ [UInt8.ofNat (48 + m % 10)] := by
  unfold digs
  rw [if_neg h]
  by_cases h9 : m < 10
  · rw [if_pos (by omega), Lib.decDigits, dif_pos h9, Nat.mod_eq_of_lt h9]; rfl
  · rw [if_neg (by omega), Lib.decDigits, dif_neg h9]
def sgn (b : Bool) : List UInt8 := if b = true then [45] else []
def ba (l : List UInt8) : ByteArray := ⟨l.toArray⟩
theorem ba_append (a b : List UInt8) : ba a ++ ba b = ba (a ++ b) := by
  apply ByteArray.ext
  simp [ba, ByteArray.data_append]
theorem ba_size (a : List UInt8) : (ba a).size = a.length := by simp [ba, ByteArray.size]
theorem ba_toList (a : List UInt8) : (ba a).data.toList = a := by simp [ba]
theorem strOfNums_one (c : Int) (h0 : 0 ≤ c) (h1 : c < 256) : strOfNums [c % 256] = ba [UInt8.ofNat c.toNat] := by
  have : c % 256 = c := by omega
  rw [this]
  rfl
theorem spec_digits_loop (k : Nat) : ∀ (x : Int) (b : Bool) (out : List UInt8), x.natAbs < 10 ^ k → -9223372036854775808 ≤ x → x ≤ 9223372036854775807 → out.length + k + 1 ≤ 9223372036854775807 →
    spec_Digits.l0 (k + 1) x b (ba out) = some (ba (sgn b ++ digs x.natAbs ++ out)) := by
  induction k with
  | zero =>
    intro x b out h _ _ hl
    have hx : x = 0 := by simp at h; omega
    subst hx
    simp only [spec_Digits.l0]
    rw [if_pos trivial]
    cases b
    · rw [if_neg (by decide)]; simp [sgn, digs]
    · rw [if_pos rfl, if_pos (by rw [ba_size]; omega)]
      show some (ba [45] ++ ba out) = _
      rw [ba_append]; simp [sgn, digs]
  | succ k ih =>
    intro x b out h h0 h1 hl
    by_cases hx : x = 0
    · subst hx
      simp only [spec_Digits.l0]
      rw [if_pos trivial]
      cases b
      · rw [if_neg (by decide)]; simp [sgn, digs]
      · rw [if_pos rfl, if_pos (by rw [ba_size]; omega)]
        show some (ba [45] ++ ba out) = _
        rw [ba_append]; simp [sgn, digs]
    · have hm : (Int.tdiv x 10).natAbs = x.natAbs / 10 := by
        rw [Int.natAbs_tdiv]; rfl
      have ht : (Int.tmod x 10).natAbs = x.natAbs % 10 := by rw [Int.natAbs_tmod]; rfl
      have hlt : (Int.tdiv x 10).natAbs < 10 ^ k := by rw [hm]; rw [Nat.pow_succ] at h; omega
      have hr := ih (Int.tdiv x 10) b (UInt8.ofNat (48 + x.natAbs % 10) :: out) hlt (by omega) (by omega) (by simp only [List.length_cons]; omega)
      have hw : wrap64 (Int.tdiv x 10) = Int.tdiv x 10 := by unfold wrap64; omega
      have hd := digs_step x.natAbs (by omega)
      have hfin : some (ba (sgn b ++ digs (Int.tdiv x 10).natAbs ++ (UInt8.ofNat (48 + x.natAbs % 10) :: out))) = some (ba (sgn b ++ digs x.natAbs ++ out)) := by
        rw [hm, hd]; simp
      rw [spec_Digits.l0, if_neg hx]
      by_cases hn : Int.tmod x 10 < 0
      · rw [if_pos hn]
        have hc : (wrap64 (48 + (wrap64 (-(Int.tmod x 10))))) = 48 + ((x.natAbs % 10 : Nat) : Int) := by unfold wrap64; omega
        simp only [Option.bind_some]
        rw [hc, strOfNums_one _ (by omega) (by omega), ba_append, if_pos (by simp only [ba_size, List.length_singleton]; omega), hw]
        rw [show (48 + ((x.natAbs % 10 : Nat) : Int)).toNat = 48 + x.natAbs % 10 by omega]
        exact hr.trans hfin
      · rw [if_neg hn]
        have hc : (wrap64 (48 + (Int.tmod x 10))) = 48 + ((x.natAbs % 10 : Nat) : Int) := by unfold wrap64; omega
        simp only [Option.bind_some]
        rw [hc, strOfNums_one _ (by omega) (by omega), ba_append, if_pos (by simp only [ba_size, List.length_singleton]; omega), hw]
        rw [show (48 + ((x.natAbs % 10 : Nat) : Int)).toNat = 48 + x.natAbs % 10 by omega]
        exact hr.trans hfin
/-- The reference's numeral is the library's. -/
theorem spec_digits (n : Int) (h0 : -9223372036854775808 ≤ n) (h1 : n ≤ 9223372036854775807) (k : Nat) (hk : 20 ≤ k) (hk2 : k ≤ 1000000000) : spec_Digits.f k n = some (ba (Lib.itoa n)) := by
  unfold spec_Digits.f
  by_cases hn : n = 0
  · subst hn
    rw [if_pos rfl]
    unfold Lib.itoa
    rw [if_neg (by decide), Lib.decDigits, dif_pos (by decide)]
    rfl
  · rw [if_neg hn]
    obtain ⟨j, rfl⟩ : ∃ j, k = j + 1 := ⟨k - 1, by omega⟩
    have hp : (10 : Nat) ^ 19 ≤ 10 ^ j := Nat.pow_le_pow_right (by omega) (by omega)
    have := spec_digits_loop j n (decide (n < 0)) [] (by omega) h0 h1 (by simp only [List.length_nil]; omega)
    rw [show (⟨#[]⟩ : ByteArray) = ba [] from rfl, this]
    congr 2
    unfold Lib.itoa digs sgn
    by_cases hneg : n < 0
    · simp [hneg, hn]
    · simp [hneg, hn]
      congr 1
      omega
/-! ### Numerals and their texts -/
def isDig (c : UInt8) : Prop := 48 ≤ c.toNat ∧ c.toNat ≤ 57
def valL (a : Nat) (l : List UInt8) : Nat := l.foldl (fun a c => 10 * a + (c.toNat - 48)) a
theorem valL_cons (a : Nat) (c : UInt8) (l : List UInt8) : valL a (c :: l) = valL (10 * a + (c.toNat - 48)) l := by
  unfold valL
  rw [List.foldl_cons]
theorem valL_append (a : Nat) (p l : List UInt8) : valL a (p ++ l) = valL (valL a p) l := by unfold valL; rw [List.foldl_append]
theorem valL_ge : ∀ (l : List UInt8) (a : Nat), a ≤ valL a l
  | [], a => Nat.le_refl _
  | c :: l, a => by rw [valL_cons]; exact Nat.le_trans (by omega) (valL_ge l _)
theorem toNat_ofNat48 (d : Nat) (h : d < 10) : (UInt8.ofNat (48 + d)).toNat = 48 + d := by
  rw [UInt8.toNat_ofNat']; omega
theorem decDigits_dig : ∀ (u : Nat), ∀ c ∈ Lib.decDigits u, isDig c := by
  intro u
  induction u using Nat.strongRecOn with
  | ind u ih =>
    intro c hc
    rw [Lib.decDigits] at hc
    by_cases h : u < 10
    · rw [dif_pos h] at hc
      simp only [List.mem_singleton] at hc
      subst hc
      unfold isDig
      rw [toNat_ofNat48 u h]; omega
    · rw [dif_neg h] at hc
      rcases List.mem_append.1 hc with h1 | h1
      · exact ih (u / 10) (by omega) c h1
      · simp only [List.mem_singleton] at h1
        subst h1
        unfold isDig
        rw [toNat_ofNat48 _ (Nat.mod_lt _ (by decide))]; omega
theorem decDigits_val : ∀ (u : Nat), valL 0 (Lib.decDigits u) = u := by
  intro u
  induction u using Nat.strongRecOn with
  | ind u ih =>
    rw [Lib.decDigits]
    by_cases h : u < 10
    · rw [dif_pos h]
      show 10 * 0 + ((UInt8.ofNat (48 + u)).toNat - 48) = u
      rw [toNat_ofNat48 u h]; omega
    · rw [dif_neg h, valL_append, ih (u / 10) (by omega)]
      show 10 * (u / 10) + ((UInt8.ofNat (48 + u % 10)).toNat - 48) = u
      rw [toNat_ofNat48 _ (Nat.mod_lt _ (by decide))]; omega
theorem decDigits_ne (u : Nat) : Lib.decDigits u ≠ [] := by
  rw [Lib.decDigits]
  by_cases h : u < 10
  · rw [dif_pos h]; exact List.cons_ne_nil _ _
  · rw [dif_neg h]; exact List.append_ne_nil_of_right_ne_nil _ (List.cons_ne_nil _ _)
/-- What stands in a numeral: digits, and perhaps a sign. -/
theorem itoa_chars (n : Int) (c : UInt8) (hc : c ∈ Lib.itoa n) : c.toNat = 45 ∨ isDig c := by
  unfold Lib.itoa at hc
  split at hc
  · rcases List.mem_cons.1 hc with rfl | h
    · left; rfl
    · right; exact decDigits_dig _ c h
  · right; exact decDigits_dig _ c hc
theorem itoa_ne (n : Int) : Lib.itoa n ≠ [] := by
  unfold Lib.itoa
  split
  · exact List.cons_ne_nil _ _
  · exact decDigits_ne _
theorem itoa_len (n : Int) (h : int64B n) : (Lib.itoa n).length ≤ 21 := Lib.itoa_length_le n h.1 h.2
theorem impl_digits (n : Int) (h : int64B n) : impl_Digits.f n = some (ba (Lib.itoa n)) := by
  unfold impl_Digits.f
  rw [itoa_val n h]
  rfl
theorem ba_inj {a b : List UInt8} (h : (ba a).toList = (ba b).toList) : a = b := by
  have h2 : ba a = ba b := by
    have := congrArg (fun l => l) h
    exact ByteArray.ext (by
      have e1 : (ba a).toList = (ba a).data.toList := by simp [ByteArray.toList_eq]
      have e2 : (ba b).toList = (ba b).data.toList := by simp [ByteArray.toList_eq]
      rw [e1, e2] at h
      exact Array.toList_inj.mp h)
  have := congrArg (fun x => x.data.toList) h2
  simpa [ba] using this
theorem toList_eq_iff (s t : ByteArray) : s.toList = t.toList ↔ s = t := by
  constructor
  · intro h
    obtain ⟨⟨a⟩⟩ := s; obtain ⟨⟨b⟩⟩ := t
    have := ba_inj (a := a) (b := b) h
    rw [this]
  · rintro rfl; rfl
theorem ba_of (s : ByteArray) : ∃ l, s = ba l := ⟨s.data.toList, by cases s; rfl⟩
/-! ### strconv.Atoi of a numeral -/
theorem parse_val : ∀ (l : List UInt8) (a : Nat), (∀ c ∈ l, isDig c) → valL a l ≤ 9223372036854775808 → Lib.parseUint10 a l = .ok (valL a l)
  | [], a, _, _ => rfl
  | c :: l, a, hd, hv => by
    obtain ⟨h1, h2⟩ := hd c (List.mem_cons_self ..)
    rw [valL_cons] at hv
    have hg := valL_ge l (10 * a + (c.toNat - 48))
    simp only [Lib.parseUint10]
    rw [if_pos ⟨h1, h2⟩, if_neg (by omega), if_neg (by omega), valL_cons, show a * 10 + (c.toNat - 48) = 10 * a + (c.toNat - 48) by omega]
    exact parse_val l _ (fun x hx => hd x (List.mem_cons_of_mem _ hx)) hv
theorem atoi_itoa (n : Int) (h : int64B n) : Lib.atoiAll (Lib.itoa n) = .ok n := by
  obtain ⟨h0, h1⟩ := h
  unfold Lib.itoa
  by_cases hn : n < 0
  · rw [if_pos hn, Lib.atoiAll_minus]
    unfold Lib.parseMag
    rw [if_neg (decDigits_ne _), parse_val _ 0 (decDigits_dig _) (by rw [decDigits_val]; omega), decDigits_val]
    unfold Lib.signed
    simp only
    split
    · omega
    · congr 1; omega
  · rw [if_neg hn]
    cases hc : Lib.decDigits n.toNat with
    | nil => exact absurd hc (decDigits_ne _)
    | cons c r =>
      have hd := decDigits_dig n.toNat c (by rw [hc]; exact List.mem_cons_self ..)
      obtain ⟨d1, d2⟩ := hd
      rw [Lib.atoiAll_plain c r (by omega) (by omega), ← hc]
      unfold Lib.parseMag
      rw [if_neg (decDigits_ne _), parse_val _ 0 (decDigits_dig _) (by rw [decDigits_val]; omega), decDigits_val]
      unfold Lib.signless
      simp only
      split
      · omega
      · congr 1; omega
theorem impl_intText_itoa (n : Int) (h : int64B n) : impl_IntText.f (ba (Lib.itoa n)) = some (n, true) := by
  unfold impl_IntText.f
  rw [if_pos (by rw [ba_size]; have := itoa_len n h; omega), show (ba (Lib.itoa n)).data.toList = Lib.itoa n from ba_toList _, atoi_itoa n h]
  simp only
  rw [impl_digits n h]
  simp only [Option.bind_some, if_true]
theorem impl_intText_some (s : ByteArray) (hs : s.size ≤ 281474976710656) : ∃ n ok, impl_IntText.f s = some (n, ok) ∧ int64B n := by
  unfold impl_IntText.f
  rw [if_pos hs]
  have hz : int64B 0 := by constructor <;> omega
  cases hc : Lib.atoiAll s.data.toList with
  | ok v =>
    have hb : int64B v := Lib.atoiAll_bounds hc
    simp only [impl_digits v hb, Option.bind_some]
    split
    · exact ⟨_, _, rfl, hb⟩
    · exact ⟨_, _, rfl, hz⟩
  | _ => exact ⟨_, _, rfl, hz⟩
/-! ### The reference's reading of a numeral -/
theorem bt_ba (p : List UInt8) (c : UInt8) (r : List UInt8) : bt (ba (p ++ c :: r)) (p.length : Int) = (c.toNat : Int) := by
  unfold bt
  rw [dif_pos (by rw [ba_size]; simp)]
  simp [ba, ByteArray.getElem_eq_getElem_data]
theorem wrap64_B (x : Int) : int64B (wrap64 x) := by unfold int64B wrap64; constructor <;> omega
theorem spec_end (k : Nat) (hk : 20 ≤ k) (hk2 : k ≤ 1000000000) (s : ByteArray) (x4 x5 : Int) (h5 : int64B x5) :
    ∃ n ok, (if x4 = 0 then (if x5 = (-9223372036854775808) then (some (0, false)) else ((spec_Digits.f k (wrap64 (-x5))).bind fun t107 => (if t107.toList = s.toList then (some (wrap64 (-x5), true)) else (some (0, false))))) else ((spec_Digits.f k x5).bind fun t108 => (if t108.toList = s.toList then (some (x5, true)) else (some (0, false))))) = some ((n : Int), (ok : Bool)) ∧ int64B n := by
  have hz : int64B 0 := by constructor <;> omega
  have hw := wrap64_B (-x5)
  rw [spec_digits _ hw.1 hw.2 k hk hk2, spec_digits _ h5.1 h5.2 k hk hk2]
  simp only [Option.bind_some]
  split
  · split
    · exact ⟨_, _, rfl, hz⟩
    · split
      · exact ⟨_, _, rfl, hw⟩
      · exact ⟨_, _, rfl, hz⟩
  · split
    · exact ⟨_, _, rfl, h5⟩
    · exact ⟨_, _, rfl, hz⟩
theorem spec_intText_loop (s : ByteArray) (x4 : Int) : ∀ (m k : Nat) (x5 x6 : Int), int64B x5 → 0 ≤ x6 → x6 + m = s.size → s.size ≤ 1000000000 → 2 * m + 21 ≤ k → k ≤ 1000000000 → ∃ n ok, spec_IntText.l0 k s x4 x5 x6 = some (n, ok) ∧ int64B n := by
  intro m
  have hz : int64B 0 := by constructor <;> omega
  induction m with
  | zero =>
    intro k x5 x6 h5 h6 hs hs2 hk hk2
    obtain ⟨j, rfl⟩ : ∃ j, k = j + 1 := ⟨k - 1, by omega⟩
    rw [spec_IntText.l0, if_neg (by omega)]
    exact spec_end j (by omega) (by omega) s x4 x5 h5
  | succ m ih =>
    intro k x5 x6 h5 h6 hs hs2 hk hk2
    obtain ⟨j, rfl⟩ : ∃ j, k = j + 2 := ⟨k - 2, by omega⟩
    have hj : ∀ b, ∃ n ok, spec_IntText.j3 (j + 1) s x4 x5 x6 b = some (n, ok) ∧ int64B n := by
      intro b
      rw [spec_IntText.j3]
      split
      · exact ⟨_, _, rfl, hz⟩
      · try rw [if_pos h6]
        rw [if_pos (by omega)]
        split
        · exact ⟨_, _, rfl, hz⟩
        · rw [show wrap64 (x6 + 1) = x6 + 1 by unfold wrap64; omega]
          exact ih j _ _ (wrap64_B _) (by omega) (by omega) hs2 (by omega) (by omega)
    rw [spec_IntText.l0, if_pos (by omega), if_pos h6]
    split
    · exact hj _
    · exact hj _
theorem spec_intText_some (s : ByteArray) (k : Nat) (hk : 100 ≤ k) (hk2 : k ≤ 1000000000) : ∃ n ok, spec_IntText.f k s = some (n, ok) ∧ int64B n := by
  have hz : int64B 0 := by constructor <;> omega
  obtain ⟨j, rfl⟩ : ∃ j, k = j + 2 := ⟨k - 2, by omega⟩
  unfold spec_IntText.f
  by_cases h1 : (s.size : Int) < 1
  · rw [if_pos h1, spec_IntText.j0, if_pos rfl]; exact ⟨_, _, rfl, hz⟩
  · rw [if_neg h1, spec_IntText.j0]
    by_cases h2 : (s.size : Int) > 20
    · rw [if_pos (by simp [h2])]; exact ⟨_, _, rfl, hz⟩
    · rw [if_neg (by simp [h2]), if_pos (by omega)]
      split
      · rw [spec_IntText.j1]; exact spec_intText_loop s 1 (s.size - 1) j 0 1 hz (by omega) (by omega) (by omega) (by omega) (by omega)
      · rw [spec_IntText.j1]; exact spec_intText_loop s 0 s.size j 0 0 hz (by omega) (by omega) (by omega) (by omega) (by omega)
/-- The loop over digits. -/
theorem spec_intText_digits (x4 : Int) (end_ : Int × Bool) : ∀ (r p q : List UInt8) (k : Nat), (∀ c ∈ r, isDig c) → valL (valL 0 q) r ≤ 9223372036854775808 → (p ++ r).length ≤ 100 → 2 * r.length + 21 ≤ k → k ≤ 1000000000 →
    (∀ j, 20 ≤ j → j ≤ 1000000000 → spec_IntText.l0 (j + 1) (ba (p ++ r)) x4 (-(valL (valL 0 q) r : Int)) ((p ++ r).length : Int) = some end_) →
    spec_IntText.l0 k (ba (p ++ r)) x4 (-(valL 0 q : Int)) (p.length : Int) = some end_ := by
  intro r
  induction r with
  | nil =>
    intro p q k _ _ _ hk hk2 he
    obtain ⟨j, rfl⟩ : ∃ j, k = j + 1 := ⟨k - 1, by omega⟩
    have := he j (by simp at hk; omega) (by omega)
    simp only [List.append_nil] at this ⊢
    exact this
  | cons c r ih =>
    intro p q k hd hv hl hk hk2 he
    obtain ⟨h1, h2⟩ := hd c (List.mem_cons_self ..)
    simp only [List.length_cons, List.length_append] at hk hl
    obtain ⟨j, rfl⟩ : ∃ j, k = j + 2 := ⟨k - 2, by omega⟩
    have hv0 : valL (10 * valL 0 q + (c.toNat - 48)) r ≤ 9223372036854775808 := hv
    have hg := valL_ge r (10 * valL 0 q + (c.toNat - 48))
    have hb := bt_ba p c r
    rw [spec_IntText.l0, if_pos (by rw [ba_size]; simp only [List.length_append, List.length_cons]; omega), if_pos (by omega), hb, if_neg (by omega)]
    rw [show (decide ((c.toNat : Int) > 57)) = false from decide_eq_false (by omega)]
    rw [spec_IntText.j3, if_neg (by decide), if_pos (by omega), if_pos (by rw [ba_size]; simp only [List.length_append, List.length_cons]; omega), hb]
    have hm : ((c.toNat : Int) - 48) % 256 = (c.toNat : Int) - 48 := by omega
    rw [hm]
    have ht : Int.tdiv (-9223372036854775808 + ((c.toNat : Int) - 48)) 10 = -((9223372036854775808 - ((c.toNat : Int) - 48)) / 10) := by
      rw [show (-9223372036854775808 + ((c.toNat : Int) - 48)) = -(9223372036854775808 - ((c.toNat : Int) - 48)) by omega, Int.neg_tdiv, Int.tdiv_eq_ediv_of_nonneg (by omega)]
    rw [ht, if_neg (by unfold wrap64; omega)]
    rw [show wrap64 (wrap64 (10 * -(valL 0 q : Int)) - ((c.toNat : Int) - 48)) = -((valL 0 (q ++ [c]) : Nat) : Int) by
      rw [valL_append]; show _ = -((10 * valL 0 q + (c.toNat - 48) : Nat) : Int); unfold wrap64; omega]
    rw [show wrap64 ((p.length : Int) + 1) = ((p ++ [c]).length : Int) by simp only [List.length_append, List.length_singleton]; unfold wrap64; omega]
    have ih2 := ih (p ++ [c]) (q ++ [c]) j (fun x hx => hd x (List.mem_cons_of_mem _ hx)) (by rw [valL_append]; exact hv0) (by simp only [List.length_append, List.length_singleton]; omega) (by omega) (by omega)
    rw [show (p ++ [c]) ++ r = p ++ c :: r by simp] at ih2
    refine ih2 (fun j2 hj hj2 => ?_)
    have := he j2 hj hj2
    rw [valL_append]
    exact this
theorem dig_len : ∀ (k u : Nat), 1 ≤ k → u < 10 ^ k → (Lib.decDigits u).length ≤ k := by
  intro k
  induction k with
  | zero => intro u h _; omega
  | succ k ih =>
    intro u _ hu
    rw [Lib.decDigits]
    by_cases h : u < 10
    · rw [dif_pos h]; simp
    · rw [dif_neg h]
      simp only [List.length_append, List.length_singleton]
      rw [Nat.pow_succ] at hu
      have hk : 1 ≤ k := by
        rcases Nat.eq_zero_or_pos k with rfl | hk
        · simp at hu; omega
        · exact hk
      have := ih (u / 10) hk (by omega)
      omega
theorem dig_len19 (u : Nat) (h : u ≤ 9223372036854775808) : (Lib.decDigits u).length ≤ 19 := dig_len 19 u (by decide) (Nat.lt_of_le_of_lt h (by decide))
theorem spec_intText_itoa (n : Int) (h : int64B n) (k : Nat) (hk : 100 ≤ k) (hk2 : k ≤ 1000000000) : spec_IntText.f k (ba (Lib.itoa n)) = some (n, true) := by
  obtain ⟨h0, h1⟩ := h
  have hlen := itoa_len n ⟨h0, h1⟩
  obtain ⟨j, rfl⟩ : ∃ j, k = j + 2 := ⟨k - 2, by omega⟩
  have hne := itoa_ne n
  have hpos : 0 < (Lib.itoa n).length := List.length_pos_iff.2 hne
  have hl20 : (Lib.itoa n).length ≤ 20 := by
    unfold Lib.itoa
    split
    · rw [List.length_cons]
      have := dig_len19 n.natAbs (by omega)
      omega
    · have := dig_len19 n.toNat (by omega)
      omega
  unfold spec_IntText.f
  rw [if_neg (by rw [ba_size]; omega), spec_IntText.j0, if_neg (by rw [ba_size]; simp; omega), if_pos (by rw [ba_size]; omega)]
  by_cases hn : n < 0
  · have e : Lib.itoa n = [45] ++ Lib.decDigits n.natAbs := by unfold Lib.itoa; rw [if_pos hn]; rfl
    have hb : bt (ba (Lib.itoa n)) 0 = 45 := by rw [e]; exact bt_ba [] 45 _
    rw [if_pos hb, spec_IntText.j1]
    have hl : ([45] ++ Lib.decDigits n.natAbs).length ≤ 20 := by rw [← e]; exact hl20
    have hl' : (Lib.decDigits n.natAbs).length ≤ 19 := by simp only [List.length_append, List.length_singleton] at hl; omega
    have := spec_intText_digits 1 (n, true) (Lib.decDigits n.natAbs) [45] [] j (decDigits_dig _) (by show valL 0 _ ≤ _; rw [decDigits_val]; omega) (by omega) (by omega) (by omega) (fun i hi hi2 => by
      have hv : valL (valL 0 []) (Lib.decDigits n.natAbs) = n.natAbs := decDigits_val _
      rw [hv, spec_IntText.l0, if_neg (by rw [ba_size]; omega), if_neg (by decide), show -(n.natAbs : Int) = n by omega, spec_digits n h0 h1 i hi hi2]
      simp only [Option.bind_some]
      rw [← e, if_pos rfl])
    rw [← e] at this
    exact this
  · have e : Lib.itoa n = [] ++ Lib.decDigits n.toNat := by unfold Lib.itoa; rw [if_neg hn]; rfl
    have hb : bt (ba (Lib.itoa n)) 0 ≠ 45 := by
      cases hc : Lib.itoa n with
      | nil => exact absurd hc hne
      | cons c r =>
        have hd := decDigits_dig n.toNat c (by rw [List.nil_append] at e; rw [← e, hc]; exact List.mem_cons_self ..)
        rw [show bt (ba (c :: r)) 0 = (c.toNat : Int) from bt_ba [] c r]
        unfold isDig at hd
        omega
    rw [if_neg hb, spec_IntText.j1]
    have hl : ([] ++ Lib.decDigits n.toNat).length ≤ 20 := by rw [← e]; exact hl20
    have hl' : (Lib.decDigits n.toNat).length ≤ 20 := by simpa using hl
    have := spec_intText_digits 0 (n, true) (Lib.decDigits n.toNat) [] [] j (decDigits_dig _) (by show valL 0 _ ≤ _; rw [decDigits_val]; omega) (by omega) (by omega) (by omega) (fun i hi hi2 => by
      have hv : valL (valL 0 []) (Lib.decDigits n.toNat) = n.toNat := decDigits_val _
      rw [hv, spec_IntText.l0, if_neg (by rw [ba_size]; omega), if_pos rfl, if_neg (by omega), show wrap64 (-(-(n.toNat : Int))) = n by unfold wrap64; omega, spec_digits n h0 h1 i hi hi2]
      simp only [Option.bind_some]
      rw [← e, if_pos rfl])
    rw [← e] at this
    exact this
/-! ### Cutting at a byte -/
theorem ba_extract (l : List UInt8) (i j : Nat) : (ba l).extract i j = ba ((l.drop i).take (j - i)) := by
  apply ByteArray.ext
  simp [ba, ByteArray.data_extract, List.extract_eq_take_drop]
theorem spec_until_hit (c : UInt8) (r : List UInt8) : ∀ (p q : List UInt8) (k : Nat), c ∉ p → (q ++ p ++ c :: r).length ≤ 1000000000 → p.length + 1 ≤ k →
    spec_l25Until.l0 k (ba (q ++ p ++ c :: r)) (c.toNat : Int) (q.length : Int) = some (ba (q ++ p), ba r, true) := by
  intro p
  induction p with
  | nil =>
    intro q k _ hl hk
    obtain ⟨j, rfl⟩ : ∃ j, k = j + 1 := ⟨k - 1, by simp at hk; omega⟩
    simp only [List.append_nil] at hl ⊢
    simp only [List.length_append, List.length_cons] at hl
    have hs : (ba (q ++ c :: r)).size = q.length + (r.length + 1) := by rw [ba_size]; simp
    rw [spec_l25Until.l0, if_pos (by rw [hs]; omega), if_pos (by omega), bt_ba q c r, if_pos rfl, if_pos (by rw [hs]; omega), show wrap64 ((q.length : Int) + 1) = ((q.length + 1 : Nat) : Int) by unfold wrap64; omega, if_pos (by omega), if_pos (by rw [hs]; omega)]
    rw [ba_extract, ba_extract, ba_size]
    simp [List.drop_append]
    rw [List.drop_eq_nil_of_le (by omega), List.nil_append, List.take_of_length_le (by omega)]
  | cons x p ih =>
    intro q k hn hl hk
    obtain ⟨j, rfl⟩ : ∃ j, k = j + 1 := ⟨k - 1, by simp at hk; omega⟩
    have hx : x ≠ c := fun h => hn (by rw [h]; exact List.mem_cons_self ..)
    have e : q ++ (x :: p) ++ c :: r = q ++ x :: (p ++ c :: r) := by simp
    have e2 : q ++ (x :: p) ++ c :: r = (q ++ [x]) ++ p ++ c :: r := by simp
    have hs : (ba (q ++ (x :: p) ++ c :: r)).size = q.length + (p.length + 1) + (r.length + 1) := by rw [ba_size]; simp; omega
    simp only [List.length_append, List.length_cons] at hl
    have hb : bt (ba (q ++ (x :: p) ++ c :: r)) (q.length : Int) = (x.toNat : Int) := by rw [e]; exact bt_ba q x _
    rw [spec_l25Until.l0, if_pos (by rw [hs]; omega), if_pos (by omega), hb, if_neg (fun h => hx (UInt8.toNat_inj.1 (by omega))), show wrap64 ((q.length : Int) + 1) = ((q ++ [x]).length : Int) by simp only [List.length_append, List.length_singleton]; unfold wrap64; omega]
    have := ih (q ++ [x]) j (fun h => hn (List.mem_cons_of_mem _ h)) (by simp only [List.length_append, List.length_cons, List.length_nil]; omega) (by simp only [List.length_cons] at hk; omega)
    rw [e2, this]
    simp
theorem spec_until_cut (p r : List UInt8) (c : UInt8) (k : Nat) (hn : c ∉ p) (hl : (p ++ c :: r).length ≤ 1000000000) (hk : p.length + 1 ≤ k) :
    spec_l25Until.f k (ba (p ++ c :: r)) (c.toNat : Int) = some (ba p, ba r, true) := by
  have := spec_until_hit c r p [] k hn (by simpa using hl) hk
  simpa [spec_l25Until.f] using this
theorem spec_until_loop (s : ByteArray) (c : Int) (hs2 : s.size ≤ 1000000000) : ∀ (m k : Nat) (x : Int), 0 ≤ x → x + m = s.size → m + 1 ≤ k → ∃ a b ok, spec_l25Until.l0 k s c x = some (a, b, ok) ∧ a.size ≤ s.size ∧ b.size ≤ s.size := by
  intro m
  induction m with
  | zero =>
    intro k x h0 hx hk
    obtain ⟨j, rfl⟩ : ∃ j, k = j + 1 := ⟨k - 1, by omega⟩
    rw [spec_l25Until.l0, if_neg (by omega)]
    exact ⟨_, _, _, rfl, Nat.zero_le _, Nat.zero_le _⟩
  | succ m ih =>
    intro k x h0 hx hk
    obtain ⟨j, rfl⟩ : ∃ j, k = j + 1 := ⟨k - 1, by omega⟩
    rw [spec_l25Until.l0, if_pos (by omega), if_pos h0, show wrap64 (x + 1) = x + 1 by unfold wrap64; omega]
    split
    · rw [if_pos (by omega), if_pos (by omega), if_pos (by omega)]
      exact ⟨_, _, _, rfl, by rw [ByteArray.size_extract]; omega, by rw [ByteArray.size_extract]; omega⟩
    · exact ih j (x + 1) (by omega) (by omega) (by omega)
theorem spec_until_some (s : ByteArray) (c : Int) (k : Nat) (hs2 : s.size ≤ 1000000000) (hk : s.size + 1 ≤ k) : ∃ a b ok, spec_l25Until.f k s c = some (a, b, ok) ∧ a.size ≤ s.size ∧ b.size ≤ s.size :=
  spec_until_loop s c hs2 s.size k 0 (by omega) (by omega) hk
theorem cut_hit (p r : List UInt8) (c : UInt8) (hn : c ∉ p) : Lib.cut (p ++ c :: r) [c] = (p, r, true) := by
  have hi : Lib.index (p ++ c :: r) [c] = (p.length : Int) := by
    refine Lib.index_first (by simp) ?_ (fun j hj => ?_)
    · unfold Lib.occAt; simp
    · unfold Lib.occAt
      rw [List.drop_append_of_le_length (by omega)]
      cases hd : p.drop j with
      | nil =>
        have := congrArg List.length hd
        simp at this; omega
      | cons y t =>
        have hy : y ∈ p := List.mem_of_mem_drop (by rw [hd]; exact List.mem_cons_self ..)
        have : y ≠ c := fun h => hn (h ▸ hy)
        simp [List.isPrefixOf, beq_eq_false_iff_ne.2 (Ne.symm this)]
  unfold Lib.cut
  rw [hi, if_pos (by omega)]
  simp
theorem impl_cut (p r : List UInt8) (c : UInt8) (hn : c ∉ p) (hl : (p ++ c :: r).length ≤ 1000000000) : strings_Cut.f (ba (p ++ c :: r)) (ba [c]) = some (ba p, ba r, true) := by
  unfold strings_Cut.f
  rw [if_pos (by rw [ba_size]; omega), show (ba (p ++ c :: r)).data.toList = p ++ c :: r from ba_toList _, show (ba [c]).data.toList = [c] from ba_toList _, cut_hit p r c hn]
  rfl
theorem impl_cut_some (s t : ByteArray) (hs : s.size ≤ 1000000000) : ∃ a b ok, strings_Cut.f s t = some (a, b, ok) ∧ a.size ≤ s.size ∧ b.size ≤ s.size := by
  unfold strings_Cut.f
  rw [if_pos (by omega)]
  refine ⟨_, _, _, rfl, ?_, ?_⟩
  · show (Lib.cut s.data.toList t.data.toList).1.toArray.size ≤ s.data.size
    unfold Lib.cut
    split
    · simp; omega
    · simp
  · show (Lib.cut s.data.toList t.data.toList).2.1.toArray.size ≤ s.data.size
    unfold Lib.cut
    split
    · simp
    · simp
/-! ### The text of a node -/
def okInner (f c l r v : Int) : Prop := 0 ≤ f ∧ f ≤ 3 ∧ -2147483647 ≤ c ∧ c ≤ 2147483647 ∧ 1 ≤ l ∧ l ≤ 30 ∧ 1 ≤ r ∧ r ≤ 30 ∧ v = 0
instance (f c l r v : Int) : Decidable (okInner f c l r v) := by unfold okInner; exact inferInstance
def innerT (f c l r : Int) : List UInt8 := Lib.itoa f ++ 60 :: (Lib.itoa c ++ 58 :: (Lib.itoa l ++ 44 :: Lib.itoa r))
def nodeT (f c l r v : Int) : List UInt8 :=
  if f = -1 then (if c = 0 ∧ l = 0 ∧ r = 0 then 61 :: Lib.itoa v else [])
  else if okInner f c l r v then innerT f c l r else []
theorem small_B (x : Int) (h : -2147483648 ≤ x) (h2 : x ≤ 2147483647) : int64B x := by unfold int64B; omega
theorem nodeT_len (f c l r v : Int) (hv : int64B v) : (nodeT f c l r v).length ≤ 200 := by
  unfold nodeT
  split
  · split
    · have := itoa_len v hv
      simp only [List.length_cons]; omega
    · simp
  · split
    · rename_i h
      obtain ⟨a1, a2, a3, a4, a5, a6, a7, a8, a9⟩ := h
      have e1 := itoa_len f (small_B f (by omega) (by omega))
      have e2 := itoa_len c (small_B c (by omega) (by omega))
      have e3 := itoa_len l (small_B l (by omega) (by omega))
      have e4 := itoa_len r (small_B r (by omega) (by omega))
      unfold innerT
      simp only [List.length_append, List.length_cons]; omega
    · simp
theorem innerT_eq (f c l r : Int) : ((((((ba (Lib.itoa f) ++ (⟨#[60]⟩ : ByteArray)) ++ ba (Lib.itoa c)) ++ (⟨#[58]⟩ : ByteArray)) ++ ba (Lib.itoa l)) ++ (⟨#[44]⟩ : ByteArray)) ++ ba (Lib.itoa r)) = ba (innerT f c l r) := by
  rw [show (⟨#[60]⟩ : ByteArray) = ba [60] from rfl, show (⟨#[58]⟩ : ByteArray) = ba [58] from rfl, show (⟨#[44]⟩ : ByteArray) = ba [44] from rfl]
  simp only [ba_append]
  unfold innerT
  simp
theorem b1_size (c : UInt8) : (⟨#[c]⟩ : ByteArray).size = 1 := rfl
theorem impl_nodeText_j0 (k : Nat) (f c l r v : Int) (h : okInner f c l r v) : impl_NodeText.j0 (k + 1) false f c l r v = some (ba (innerT f c l r)) := by
  obtain ⟨a1, a2, a3, a4, a5, a6, a7, a8, a9⟩ := h
  have e1 := small_B f (by omega) (by omega)
  have e2 := small_B c (by omega) (by omega)
  have e3 := small_B l (by omega) (by omega)
  have e4 := small_B r (by omega) (by omega)
  have l1 := itoa_len f e1; have l2 := itoa_len c e2; have l3 := itoa_len l e3; have l4 := itoa_len r e4
  rw [impl_NodeText.j0, if_neg (by decide), impl_digits f e1, impl_digits c e2, impl_digits l e3, impl_digits r e4]
  simp only [Option.bind_some, ByteArray.size_append, b1_size, ba_size]
  rw [if_pos (by omega), if_pos (by omega), if_pos (by omega), if_pos (by omega), if_pos (by omega), if_pos (by omega), innerT_eq]
theorem spec_nodeText_j0 (k : Nat) (hk : 20 ≤ k) (hk2 : k ≤ 1000000000) (f c l r v : Int) (h : okInner f c l r v) : spec_NodeText.j0 (k + 1) false f c l r v = some (ba (innerT f c l r)) := by
  obtain ⟨a1, a2, a3, a4, a5, a6, a7, a8, a9⟩ := h
  have e1 := small_B f (by omega) (by omega)
  have e2 := small_B c (by omega) (by omega)
  have e3 := small_B l (by omega) (by omega)
  have e4 := small_B r (by omega) (by omega)
  have l1 := itoa_len f e1; have l2 := itoa_len c e2; have l3 := itoa_len l e3; have l4 := itoa_len r e4
  rw [spec_NodeText.j0, if_neg (by decide), spec_digits f e1.1 e1.2 k hk hk2, spec_digits c e2.1 e2.2 k hk hk2, spec_digits l e3.1 e3.2 k hk hk2, spec_digits r e4.1 e4.2 k hk hk2]
  simp only [Option.bind_some, ByteArray.size_append, b1_size, ba_size]
  rw [if_pos (by omega), if_pos (by omega), if_pos (by omega), if_pos (by omega), if_pos (by omega), if_pos (by omega), innerT_eq]
theorem leaf_bool (f c l r : Int) (hf : f = -1) : (!(f == (-1)) || (!(c == 0) || (!(l == 0) || (!(r == 0))))) = !decide (c = 0 ∧ l = 0 ∧ r = 0) := by
  subst hf
  rw [Bool.eq_iff_iff]
  simp
theorem impl_nodeText (k : Nat) (hk : 1 ≤ k) (f c l r v : Int) (hv : int64B v) : impl_NodeText.f k f c l r v = some (ba (nodeT f c l r v)) := by
  obtain ⟨j, rfl⟩ : ∃ j, k = j + 1 := ⟨k - 1, by omega⟩
  have lv := itoa_len v hv
  have hT : ∀ x : Int, impl_NodeText.j0 (j + 1) true f c l r x = some (ba []) := fun x => by rw [impl_NodeText.j0, if_pos rfl]; rfl
  unfold impl_NodeText.f impl_isLeaf.f
  simp only [Option.bind_some]
  unfold nodeT
  by_cases hf : f = -1
  · rw [if_pos (beq_iff_eq.2 hf), if_pos hf, leaf_bool f c l r hf, impl_digits v hv]
    by_cases h2 : c = 0 ∧ l = 0 ∧ r = 0
    · rw [if_neg (by simp [h2]), if_pos h2]
      simp only [Option.bind_some]
      rw [if_pos (by rw [ba_size]; omega), show (⟨#[61]⟩ : ByteArray) = ba [61] from rfl, ba_append]; rfl
    · rw [if_pos (by simp only [h2, decide_false, Bool.not_false]), if_neg h2]; rfl
  · rw [if_neg (by simp [hf]), if_neg hf]
    simp only [impl_within.f, impl_isDecimal.f, hT]
    by_cases h : okInner f c l r v
    · rw [if_pos h]
      have h' := h
      obtain ⟨a1, a2, a3, a4, a5, a6, a7, a8, a9⟩ := h
      simp only [ge_iff_le, a1, a2, a3, a4, a5, a6, a7, a8, decide_true, if_true, Option.bind_some]
      rw [show (v != 0) = false by simp [a9]]
      exact impl_nodeText_j0 j f c l r v h'
    · rw [if_neg h]
      have hz : ∀ b, b = true ∨ (v = 0 ∧ b = false) → ¬ (b = false ∧ okInner f c l r v) := fun b _ hb => h hb.2
      by_cases a1 : 0 ≤ f <;> by_cases a2 : f ≤ 3 <;> simp only [ge_iff_le, a1, a2, decide_true, decide_false, if_true, if_false, Option.bind_some, Bool.false_eq_true, ba] <;> try rfl
      by_cases a3 : -2147483647 ≤ c <;> by_cases a4 : c ≤ 2147483647 <;> simp only [a3, a4, decide_true, decide_false, if_true, if_false, Option.bind_some, Bool.false_eq_true] <;> try rfl
      by_cases a5 : 1 ≤ l <;> by_cases a6 : l ≤ 30 <;> simp only [a5, a6, decide_true, decide_false, if_true, if_false, Option.bind_some, Bool.false_eq_true] <;> try rfl
      by_cases a7 : 1 ≤ r <;> by_cases a8 : r ≤ 30 <;> simp only [a7, a8, decide_true, decide_false, if_true, if_false, Option.bind_some, Bool.false_eq_true] <;> try rfl
      have a9 : v ≠ 0 := fun h9 => h ⟨a1, a2, a3, a4, a5, a6, a7, a8, h9⟩
      rw [show (v != 0) = true by simp [a9], hT]
      rfl
theorem spec_nodeText (k : Nat) (hk : 21 ≤ k) (hk2 : k ≤ 1000000000) (f c l r v : Int) (hv : int64B v) : spec_NodeText.f k f c l r v = some (ba (nodeT f c l r v)) := by
  obtain ⟨j, rfl⟩ : ∃ j, k = j + 1 := ⟨k - 1, by omega⟩
  have lv := itoa_len v hv
  have hT : ∀ x : Int, spec_NodeText.j0 (j + 1) true f c l r x = some (ba []) := fun x => by rw [spec_NodeText.j0, if_pos rfl]; rfl
  unfold spec_NodeText.f spec_l17Inner.f
  simp only [Option.bind_some]
  unfold nodeT
  by_cases hf : f = -1
  · rw [if_neg (by simp [hf]), if_pos hf, leaf_bool f c l r hf, spec_digits v hv.1 hv.2 _ (by omega) hk2]
    by_cases h2 : c = 0 ∧ l = 0 ∧ r = 0
    · rw [if_neg (by simp [h2]), if_pos h2]
      simp only [Option.bind_some]
      rw [if_pos (by rw [ba_size]; omega), show (⟨#[61]⟩ : ByteArray) = ba [61] from rfl, ba_append]; rfl
    · rw [if_pos (by simp only [h2, decide_false, Bool.not_false]), if_neg h2]; rfl
  · rw [if_pos (by simp [hf]), if_neg hf]
    simp only [spec_l1In.f, spec_l6Value.f, hT]
    by_cases h : okInner f c l r v
    · rw [if_pos h]
      have h' := h
      obtain ⟨a1, a2, a3, a4, a5, a6, a7, a8, a9⟩ := h
      simp only [ge_iff_le, a1, a2, a3, a4, a5, a6, a7, a8, decide_true, if_true, Option.bind_some]
      rw [show (v != 0) = false by simp [a9]]
      exact spec_nodeText_j0 j (by omega) (by omega) f c l r v h'
    · rw [if_neg h]
      by_cases a1 : 0 ≤ f <;> by_cases a2 : f ≤ 3 <;> simp only [ge_iff_le, a1, a2, decide_true, decide_false, if_true, if_false, Option.bind_some, Bool.false_eq_true, ba] <;> try rfl
      by_cases a3 : -2147483647 ≤ c <;> by_cases a4 : c ≤ 2147483647 <;> simp only [a3, a4, decide_true, decide_false, if_true, if_false, Option.bind_some, Bool.false_eq_true] <;> try rfl
      by_cases a5 : 1 ≤ l <;> by_cases a6 : l ≤ 30 <;> simp only [a5, a6, decide_true, decide_false, if_true, if_false, Option.bind_some, Bool.false_eq_true] <;> try rfl
      by_cases a7 : 1 ≤ r <;> by_cases a8 : r ≤ 30 <;> simp only [a7, a8, decide_true, decide_false, if_true, if_false, Option.bind_some, Bool.false_eq_true] <;> try rfl
      have a9 : v ≠ 0 := fun h9 => h ⟨a1, a2, a3, a4, a5, a6, a7, a8, h9⟩
      rw [show (v != 0) = true by simp [a9], hT]
      rfl
/-! ### Reading a node -/
theorem not_in_itoa (n : Int) (c : UInt8) (h : c.toNat ≠ 45) (h2 : ¬ isDig c) : c ∉ Lib.itoa n := fun hm => by
  rcases itoa_chars n c hm with h3 | h3
  · exact h h3
  · exact h2 h3
theorem empty_iff (s : ByteArray) : (s.toList = ([] : List UInt8)) ↔ s = ba [] := by
  rw [← toList_eq_iff, show (ba []).toList = [] by simp [ByteArray.toList_eq, ba]]
/-- What both readings give back. -/
def good (s : ByteArray) (q : Int × Int × Int × Int × Int × Bool) : Prop :=
  (q.2.2.2.2.2 = true → ba (nodeT q.1 q.2.1 q.2.2.1 q.2.2.2.1 q.2.2.2.2.1) = s ∧ s ≠ ba []) ∧ (q.2.2.2.2.2 = false → q = (0, 0, 0, 0, 0, false)) ∧
  int64B q.1 ∧ int64B q.2.1 ∧ int64B q.2.2.1 ∧ int64B q.2.2.2.1 ∧ int64B q.2.2.2.2.1
theorem zero_B : int64B 0 := by constructor <;> omega
theorem m1_B : int64B (-1) := by constructor <;> omega
theorem good_zero (s : ByteArray) : good s (0, 0, 0, 0, 0, false) := ⟨fun h => (by cases h), fun _ => rfl, zero_B, zero_B, zero_B, zero_B, zero_B⟩
theorem good_tail (s : ByteArray) (f c l r v : Int) (hf : int64B f) (hc : int64B c) (hl : int64B l) (hr : int64B r) (hv : int64B v) (t : ByteArray) (ht : t = ba (nodeT f c l r v)) :
    ∃ q, (if s.toList = ([] : List UInt8) then (some (0, 0, 0, 0, 0, false)) else (if t.toList = s.toList then (some (f, c, l, r, v, true)) else (some (0, 0, 0, 0, 0, false)))) = some q ∧ good s q := by
  by_cases h0 : s.toList = ([] : List UInt8)
  · rw [if_pos h0]; exact ⟨_, rfl, good_zero s⟩
  · rw [if_neg h0]
    by_cases h1 : t.toList = s.toList
    · rw [if_pos h1]
      refine ⟨_, rfl, fun _ => ⟨?_, fun h => h0 ((empty_iff s).2 h)⟩, fun h => (by cases h), hf, hc, hl, hr, hv⟩
      rw [← ht]; exact (toList_eq_iff t s).1 h1
    · rw [if_neg h1]; exact ⟨_, rfl, good_zero s⟩
theorem impl_read_some (s : ByteArray) (hs : s.size ≤ 1048576) (k : Nat) (hk : 1 ≤ k) : ∃ q, impl_ReadNode.f k s = some q ∧ good s q := by
  unfold impl_ReadNode.f strings_CutPrefix.f
  simp only [Option.bind_some]
  by_cases hp : Lib.hasPrefix s.data.toList (⟨#[61]⟩ : ByteArray).data.toList = true
  · rw [if_pos hp]
    have hsz : (⟨(Lib.trimPrefix s.data.toList (⟨#[61]⟩ : ByteArray).data.toList).toArray⟩ : ByteArray).size ≤ 281474976710656 := by
      show (Lib.trimPrefix s.data.toList _).toArray.size ≤ _
      have h2 : s.data.size ≤ 1048576 := hs
      unfold Lib.trimPrefix
      split <;> simp <;> omega
    obtain ⟨n, ok, e, hn⟩ := impl_intText_some _ hsz
    rw [e]
    simp only [Option.bind_some]
    rw [impl_nodeText k hk (-1) 0 0 0 n hn]
    simp only [Option.bind_some]
    exact good_tail s (-1) 0 0 0 n m1_B zero_B zero_B zero_B hn _ rfl
  · rw [if_neg hp]
    obtain ⟨a, b, o, e1, ha, hb⟩ := impl_cut_some s (⟨#[60]⟩ : ByteArray) (by omega)
    rw [e1]; simp only [Option.bind_some]
    obtain ⟨a2, b2, o2, e2, ha2, hb2⟩ := impl_cut_some b (⟨#[58]⟩ : ByteArray) (by omega)
    rw [e2]; simp only [Option.bind_some]
    obtain ⟨a3, b3, o3, e3, ha3, hb3⟩ := impl_cut_some b2 (⟨#[44]⟩ : ByteArray) (by omega)
    rw [e3]; simp only [Option.bind_some]
    obtain ⟨n1, k1, f1, g1⟩ := impl_intText_some a (by omega)
    obtain ⟨n2, k2, f2, g2⟩ := impl_intText_some a2 (by omega)
    obtain ⟨n3, k3, f3, g3⟩ := impl_intText_some a3 (by omega)
    obtain ⟨n4, k4, f4, g4⟩ := impl_intText_some b3 (by omega)
    rw [f1, f2, f3, f4]; simp only [Option.bind_some]
    rw [impl_nodeText k hk n1 n2 n3 n4 0 zero_B]
    simp only [Option.bind_some]
    exact good_tail s n1 n2 n3 n4 0 g1 g2 g3 g4 zero_B _ rfl
theorem nodeT_cases (f c l r v : Int) (h : nodeT f c l r v ≠ []) : (f = -1 ∧ c = 0 ∧ l = 0 ∧ r = 0 ∧ nodeT f c l r v = 61 :: Lib.itoa v) ∨ (okInner f c l r v ∧ nodeT f c l r v = innerT f c l r) := by
  unfold nodeT at h ⊢
  by_cases hf : f = -1
  · rw [if_pos hf] at h ⊢
    by_cases h2 : c = 0 ∧ l = 0 ∧ r = 0
    · rw [if_pos h2]; exact Or.inl ⟨hf, h2.1, h2.2.1, h2.2.2, rfl⟩
    · rw [if_neg h2] at h; exact absurd rfl h
  · rw [if_neg hf] at h ⊢
    by_cases h2 : okInner f c l r v
    · rw [if_pos h2]; exact Or.inr ⟨h2, rfl⟩
    · rw [if_neg h2] at h; exact absurd rfl h
theorem innerT_head (f c l r : Int) : ∃ x t, innerT f c l r = x :: t ∧ x ≠ 61 := by
  unfold innerT
  cases hi : Lib.itoa f with
  | nil => exact absurd hi (itoa_ne f)
  | cons x t =>
    refine ⟨x, _, rfl, fun h => ?_⟩
    rcases itoa_chars f x (by rw [hi]; exact List.mem_cons_self ..) with h2 | h2
    · rw [h] at h2; exact absurd h2 (by decide)
    · rw [h] at h2; unfold isDig at h2; exact absurd h2.2 (by decide)
theorem innerT_len (f c l r v : Int) (h : okInner f c l r v) : (innerT f c l r).length ≤ 100 := by
  obtain ⟨a1, a2, a3, a4, a5, a6, a7, a8, a9⟩ := h
  have e1 := itoa_len f (small_B f (by omega) (by omega))
  have e2 := itoa_len c (small_B c (by omega) (by omega))
  have e3 := itoa_len l (small_B l (by omega) (by omega))
  have e4 := itoa_len r (small_B r (by omega) (by omega))
  unfold innerT
  simp only [List.length_append, List.length_cons]; omega
theorem lit_toList (c : UInt8) : (⟨#[c]⟩ : ByteArray).data.toList = [c] := rfl
theorem read_end (s t : ByteArray) (q : Int × Int × Int × Int × Int × Bool) (h : t = s) (h0 : s ≠ ba []) : (if s.toList = ([] : List UInt8) then (some (0, 0, 0, 0, 0, false)) else (if t.toList = s.toList then some q else (some (0, 0, 0, 0, 0, false)))) = some q := by
  rw [if_neg (fun h => h0 ((empty_iff s).1 h)), if_pos (by rw [h])]
theorem impl_read_hit (f c l r v : Int) (hv : int64B v) (k : Nat) (hk : 1 ≤ k) (h : nodeT f c l r v ≠ []) : impl_ReadNode.f k (ba (nodeT f c l r v)) = some (f, c, l, r, v, true) := by
  have hne : ba (nodeT f c l r v) ≠ ba [] := fun e => h (by have := congrArg (fun x => x.data.toList) e; simpa [ba] using this)
  unfold impl_ReadNode.f strings_CutPrefix.f
  simp only [Option.bind_some]
  rcases nodeT_cases f c l r v h with ⟨rfl, rfl, rfl, rfl, e⟩ | ⟨ho, e⟩
  · have e1 : (ba (nodeT (-1) 0 0 0 v)).data.toList = 61 :: Lib.itoa v := by rw [e]; exact ba_toList _
    have hp : Lib.hasPrefix (61 :: Lib.itoa v) [61] = true := by simp [Lib.hasPrefix]
    have ht : Lib.trimPrefix (61 :: Lib.itoa v) [61] = Lib.itoa v := by unfold Lib.trimPrefix; rw [if_pos hp]; rfl
    rw [e1, if_pos hp, ht, show (⟨(Lib.itoa v).toArray⟩ : ByteArray) = ba (Lib.itoa v) from rfl, impl_intText_itoa v hv]
    simp only [Option.bind_some]
    rw [impl_nodeText k hk (-1) 0 0 0 v hv]
    simp only [Option.bind_some]
    first | exact read_end _ _ _ rfl hne | (rw [if_neg (fun h => hne ((empty_iff _).1 h)), if_pos trivial])
  · have ho' := ho
    obtain ⟨a1, a2, a3, a4, a5, a6, a7, a8, a9⟩ := ho
    have hlen := innerT_len f c l r v ho'
    have e1 : (ba (nodeT f c l r v)).data.toList = innerT f c l r := by rw [e]; exact ba_toList _
    obtain ⟨x, t, hx, hx2⟩ := innerT_head f c l r
    have hp : Lib.hasPrefix (innerT f c l r) [61] = false := by rw [hx]; simp [Lib.hasPrefix, List.isPrefixOf, beq_eq_false_iff_ne.2 (Ne.symm hx2)]
    rw [e1, if_neg (by rw [hp]; decide), e]
    have nd : ∀ (n : Int) (y : UInt8), y = 60 ∨ y = 58 ∨ y = 44 → y ∉ Lib.itoa n := fun n y hy => not_in_itoa n y (by rcases hy with rfl | rfl | rfl <;> decide) (by rcases hy with rfl | rfl | rfl <;> (unfold isDig; decide))
    have hlen' := hlen
    unfold innerT at hlen'
    simp only [List.length_append, List.length_cons] at hlen'
    have c1 : strings_Cut.f (ba (innerT f c l r)) (⟨#[60]⟩ : ByteArray) = some (ba (Lib.itoa f), ba (Lib.itoa c ++ 58 :: (Lib.itoa l ++ 44 :: Lib.itoa r)), true) := impl_cut _ _ 60 (nd f 60 (Or.inl rfl)) (by simp only [List.length_append, List.length_cons]; omega)
    have c2 : strings_Cut.f (ba (Lib.itoa c ++ 58 :: (Lib.itoa l ++ 44 :: Lib.itoa r))) (⟨#[58]⟩ : ByteArray) = some (ba (Lib.itoa c), ba (Lib.itoa l ++ 44 :: Lib.itoa r), true) := impl_cut _ _ 58 (nd c 58 (Or.inr (Or.inl rfl))) (by simp only [List.length_append, List.length_cons]; omega)
    have c3 : strings_Cut.f (ba (Lib.itoa l ++ 44 :: Lib.itoa r)) (⟨#[44]⟩ : ByteArray) = some (ba (Lib.itoa l), ba (Lib.itoa r), true) := impl_cut _ _ 44 (nd l 44 (Or.inr (Or.inr rfl))) (by simp only [List.length_append, List.length_cons]; omega)
    rw [c1]; simp only [Option.bind_some]
    rw [c2]; simp only [Option.bind_some]
    rw [c3]; simp only [Option.bind_some]
    rw [impl_intText_itoa f (small_B f (by omega) (by omega)), impl_intText_itoa c (small_B c (by omega) (by omega)), impl_intText_itoa l (small_B l (by omega) (by omega)), impl_intText_itoa r (small_B r (by omega) (by omega))]
    simp only [Option.bind_some]
    subst a9
    rw [impl_nodeText k hk f c l r 0 zero_B]
    simp only [Option.bind_some]
    rw [← e]
    first | exact read_end _ _ _ rfl hne | (rw [if_neg (fun h => hne ((empty_iff _).1 h)), if_pos trivial])
theorem spec_number_some (s : ByteArray) (k : Nat) (hk : 100 ≤ k) (hk2 : k ≤ 1000000000) : ∃ n ok, spec_Number.f k s = some (n, ok) ∧ int64B n := by
  obtain ⟨n, ok, e, hn⟩ := spec_intText_some s k hk hk2
  unfold spec_Number.f spec_l1In.f
  rw [e]
  simp only [Option.bind_some]
  split
  · split
    · simp only [Option.bind_some]
      split
      · exact ⟨_, _, rfl, hn⟩
      · exact ⟨_, _, rfl, zero_B⟩
    · exact ⟨_, _, rfl, zero_B⟩
  · exact ⟨_, _, rfl, zero_B⟩
theorem spec_number_itoa (n : Int) (h0 : 0 ≤ n) (h1 : n ≤ 999999999) (k : Nat) (hk : 100 ≤ k) (hk2 : k ≤ 1000000000) : spec_Number.f k (ba (Lib.itoa n)) = some (n, true) := by
  unfold spec_Number.f spec_l1In.f
  rw [spec_intText_itoa n (by unfold int64B; omega) k hk hk2]
  simp only [Option.bind_some, if_true]
  rw [if_pos h0]
  simp [h1]
theorem bt_head (s : ByteArray) (c : UInt8) (t : List UInt8) (h : s.data.toList = c :: t) : bt s 0 = (c.toNat : Int) := by
  have : s = ba (c :: t) := by rw [← h]; cases s; rfl
  rw [this]; exact bt_ba [] c t
theorem spec_read_j1 (k : Nat) (hk : 200 ≤ k) (hk2 : k ≤ 1000000000) (s a b x y : ByteArray) (bad : Bool) : ∃ q, spec_ReadNode.j1 (k + 1) s a b x y bad (-1) 0 0 0 0 = some q ∧ good s q := by
  rw [spec_ReadNode.j1]
  split
  · exact ⟨_, rfl, good_zero s⟩
  · obtain ⟨n1, k1, f1, g1⟩ := spec_number_some a k (by omega) hk2
    obtain ⟨n2, k2, f2, g2⟩ := spec_intText_some b k (by omega) hk2
    obtain ⟨n3, k3, f3, g3⟩ := spec_number_some x k (by omega) hk2
    obtain ⟨n4, k4, f4, g4⟩ := spec_number_some y k (by omega) hk2
    rw [f1, f2, f3, f4]; simp only [Option.bind_some]
    rw [spec_nodeText k (by omega) hk2 n1 n2 n3 n4 0 zero_B]
    simp only [Option.bind_some]
    exact good_tail s n1 n2 n3 n4 0 g1 g2 g3 g4 zero_B _ rfl
theorem spec_read_j0 (s : ByteArray) (b : Bool) (hs : s.size ≤ 1048576) (hb : b = true → 1 ≤ s.size) (k : Nat) (hk : 1048700 ≤ k) (hk2 : k + 1 ≤ 1000000000) : ∃ q, spec_ReadNode.j0 (k + 2) s b (-1) 0 0 0 0 = some q ∧ good s q := by
  rw [spec_ReadNode.j0]
  split
  · rename_i h
    rw [if_pos (by have := hb h; omega)]
    obtain ⟨n, ok, e, hn⟩ := spec_intText_some (s.extract 1 s.size) (k + 1) (by omega) (by omega)
    rw [e]; simp only [Option.bind_some]
    rw [spec_nodeText (k + 1) (by omega) (by omega) (-1) 0 0 0 n hn]
    simp only [Option.bind_some]
    exact good_tail s (-1) 0 0 0 n m1_B zero_B zero_B zero_B hn _ rfl
  · obtain ⟨a, b1, o, e1, ha, hb⟩ := spec_until_some s 60 (k + 1) (by omega) (by omega)
    rw [e1]; simp only [Option.bind_some]
    obtain ⟨a2, b2, o2, e2, ha2, hb2⟩ := spec_until_some b1 58 (k + 1) (by omega) (by omega)
    rw [e2]; simp only [Option.bind_some]
    obtain ⟨a3, b3, o3, e3, ha3, hb3⟩ := spec_until_some b2 44 (k + 1) (by omega) (by omega)
    rw [e3]; simp only [Option.bind_some]
    split
    · split
      · exact spec_read_j1 k (by omega) (by omega) _ _ _ _ _ _
      · exact spec_read_j1 k (by omega) (by omega) _ _ _ _ _ _
    · exact spec_read_j1 k (by omega) (by omega) _ _ _ _ _ _
theorem spec_read_some (s : ByteArray) (hs : s.size ≤ 1048576) (k : Nat) (hk : 1048700 ≤ k) (hk2 : k + 1 ≤ 1000000000) : ∃ q, spec_ReadNode.f (k + 2) s = some q ∧ good s q := by
  unfold spec_ReadNode.f
  by_cases h : (s.size : Int) > 0
  · rw [if_pos h, if_pos (by omega)]
    exact spec_read_j0 s _ hs (fun _ => by omega) k hk hk2
  · rw [if_neg h]
    exact spec_read_j0 s false hs (fun h => by cases h) k hk hk2
theorem spec_read_hit (f c l r v : Int) (hv : int64B v) (k : Nat) (hk : 1048700 ≤ k) (hk2 : k + 1 ≤ 1000000000) (h : nodeT f c l r v ≠ []) : spec_ReadNode.f (k + 2) (ba (nodeT f c l r v)) = some (f, c, l, r, v, true) := by
  have hne : ba (nodeT f c l r v) ≠ ba [] := fun e => h (by have := congrArg (fun x => x.data.toList) e; simpa [ba] using this)
  unfold spec_ReadNode.f
  have hpos : 0 < (nodeT f c l r v).length := List.length_pos_iff.2 h
  rw [if_pos (by rw [ba_size]; omega), if_pos (by rw [ba_size]; omega), spec_ReadNode.j0]
  rcases nodeT_cases f c l r v h with ⟨rfl, rfl, rfl, rfl, e⟩ | ⟨ho, e⟩
  · have hb : bt (ba (nodeT (-1) 0 0 0 v)) 0 = 61 := by rw [e]; exact bt_ba [] 61 _
    have hx : (ba (nodeT (-1) 0 0 0 v)).extract 1 (ba (nodeT (-1) 0 0 0 v)).size = ba (Lib.itoa v) := by
      rw [e, ba_size, ba_extract]; simp
    rw [if_pos (by rw [hb]; rfl), if_pos (by rw [ba_size]; omega), hx, spec_intText_itoa v hv (k + 1) (by omega) (by omega)]
    simp only [Option.bind_some]
    rw [spec_nodeText (k + 1) (by omega) (by omega) (-1) 0 0 0 v hv]
    simp only [Option.bind_some]
    first | exact read_end _ _ _ rfl hne | (rw [if_neg (fun h => hne ((empty_iff _).1 h)), if_pos trivial])
  · have ho' := ho
    obtain ⟨a1, a2, a3, a4, a5, a6, a7, a8, a9⟩ := ho
    have hlen := innerT_len f c l r v ho'
    obtain ⟨x, t, hx, hx2⟩ := innerT_head f c l r
    have hb : bt (ba (nodeT f c l r v)) 0 = (x.toNat : Int) := by rw [e, hx]; exact bt_ba [] x t
    have hx3 : ¬ ((x.toNat : Int) = 61) := fun h => hx2 (UInt8.toNat_inj.1 (by have : (61 : UInt8).toNat = 61 := rfl; omega))
    rw [if_neg (by rw [hb]; simpa using hx3), e]
    have nd : ∀ (n : Int) (y : UInt8), y = 60 ∨ y = 58 ∨ y = 44 → y ∉ Lib.itoa n := fun n y hy => not_in_itoa n y (by rcases hy with rfl | rfl | rfl <;> decide) (by rcases hy with rfl | rfl | rfl <;> (unfold isDig; decide))
    have hlen' := hlen
    unfold innerT at hlen'
    simp only [List.length_append, List.length_cons] at hlen'
    have c1 : spec_l25Until.f (k + 1) (ba (innerT f c l r)) 60 = some (ba (Lib.itoa f), ba (Lib.itoa c ++ 58 :: (Lib.itoa l ++ 44 :: Lib.itoa r)), true) := spec_until_cut _ _ 60 (k + 1) (nd f 60 (Or.inl rfl)) (by simp only [List.length_append, List.length_cons]; omega) (by omega)
    have c2 : spec_l25Until.f (k + 1) (ba (Lib.itoa c ++ 58 :: (Lib.itoa l ++ 44 :: Lib.itoa r))) 58 = some (ba (Lib.itoa c), ba (Lib.itoa l ++ 44 :: Lib.itoa r), true) := spec_until_cut _ _ 58 (k + 1) (nd c 58 (Or.inr (Or.inl rfl))) (by simp only [List.length_append, List.length_cons]; omega) (by omega)
    have c3 : spec_l25Until.f (k + 1) (ba (Lib.itoa l ++ 44 :: Lib.itoa r)) 44 = some (ba (Lib.itoa l), ba (Lib.itoa r), true) := spec_until_cut _ _ 44 (k + 1) (nd l 44 (Or.inr (Or.inr rfl))) (by simp only [List.length_append, List.length_cons]; omega) (by omega)
    rw [c1]; simp only [Option.bind_some]
    rw [c2]; simp only [Option.bind_some]
    rw [c3]; simp only [Option.bind_some, if_true, Bool.not_true]
    rw [spec_ReadNode.j1, if_neg (by decide)]
    rw [spec_number_itoa f a1 (by omega) k (by omega) (by omega), spec_intText_itoa c (small_B c (by omega) (by omega)) k (by omega) (by omega), spec_number_itoa l (by omega) (by omega) k (by omega) (by omega), spec_number_itoa r (by omega) (by omega) k (by omega) (by omega)]
    simp only [Option.bind_some]
    subst a9
    rw [spec_nodeText k (by omega) (by omega) f c l r 0 zero_B]
    simp only [Option.bind_some]
    rw [← e]
    first | exact read_end _ _ _ rfl hne | (rw [if_neg (fun h => hne ((empty_iff _).1 h)), if_pos trivial])
/-- The two readings are one. -/
theorem read_same (s : ByteArray) (hs : s.size ≤ 1048576) (k : Nat) (hk : 1048700 ≤ k) (hk2 : k + 1 ≤ 1000000000) : ∃ q, spec_ReadNode.f (k + 2) s = some q ∧ impl_ReadNode.f (k + 2) s = some q ∧ good s q := by
  obtain ⟨q, e, g⟩ := spec_read_some s hs k hk hk2
  obtain ⟨q2, e2, g2⟩ := impl_read_some s hs (k + 2) (by omega)
  obtain ⟨f, c, l, r, v, ok⟩ := q
  obtain ⟨f2, c2, l2, r2, v2, ok2⟩ := q2
  refine ⟨_, e, ?_, g⟩
  cases ok with
  | true =>
    obtain ⟨h1, h2⟩ := g.1 rfl
    have hv : int64B v := g.2.2.2.2.2.2
    have hne : nodeT f c l r v ≠ [] := fun h => h2 (by rw [← h1]; show ba (nodeT f c l r v) = _; rw [h])
    have := impl_read_hit f c l r v hv (k + 2) (by omega) hne
    rw [show ba (nodeT f c l r v) = s from h1] at this
    exact this
  | false =>
    cases ok2 with
    | true =>
      obtain ⟨h1, h2⟩ := g2.1 rfl
      have hv : int64B v2 := g2.2.2.2.2.2.2
      have hne : nodeT f2 c2 l2 r2 v2 ≠ [] := fun h => h2 (by rw [← h1]; show ba (nodeT f2 c2 l2 r2 v2) = _; rw [h])
      have := spec_read_hit f2 c2 l2 r2 v2 hv k hk hk2 hne
      rw [show ba (nodeT f2 c2 l2 r2 v2) = s from h1, e] at this
      cases this
    | false => rw [e2, g.2.1 rfl, g2.2.1 rfl]
theorem FnExactReadNode : Go.Proofs.YtcgmdpnhlkbpbaaDoor.fnExactReadNode.Pure := by
  intro a0 _
  refine ⟨1048702, ?_⟩
  unfold laws_FnExactReadNode.f
  by_cases h : (a0.size : Int) > 1048576
  · rw [if_pos h]
  · rw [if_neg h]
    obtain ⟨⟨f, c, l, r, v, ok⟩, e1, e2, _⟩ := read_same a0 (by omega) 1048700 (by omega) (by omega)
    rw [e1, e2]
    simp only [Option.bind_some, laws_eqNode.f, if_true]
    cases ok <;> rfl

end Go.Proofs.YtcgmdpnhlkbpbaaDoor.Pure
