/- The pure statement of FnNodeText: a node's text is the same in the program and in the reference, it reads back as the node exactly if it is not empty, and what reads as a node has that node's text. Conditions: none. -/
import Derived.Test.YtcgmdpnhlkbpbaaDoorVFnNodeTextSaid
import Derived.Lib.ItoaLen
import Derived.Laws.BitsLemmas
namespace Go.Proofs.YtcgmdpnhlkbpbaaDoor.Pure
open Go.RowKit Go.Proofs.YtcgmdpnhlkbpbaaDoorW.PrintWords Go.Proofs.YtcgmdpnhlkbpbaaDoorW.PrintLast Go.Proofs.YtcgmdpnhlkbpbaaDoor.XFnNodeText Go.Proofs.YtcgmdpnhlkbpbaaDoor.Opens Go.Proofs.YtcgmdpnhlkbpbaaDoor.fnNodeText
set_option linter.unusedVariables false
def digs (m : Nat) : List UInt8 := if m = 0 then [] else Lib.decDigits m
theorem digs_step (m : Nat) (h : m ≠ 0) : digs m = digs (m / 10) ++ [UInt8.ofNat (48 + m % 10)] := by
  unfold digs
  rw [if_neg h]
  by_cases h9 : m < 10
  · rw [if_pos (by omega), Lib.decDigits, dif_pos h9, Nat.mod_eq_of_lt h9]; rfl
  · rw [if_neg (by omega), Lib.decDigits, dif_neg h9]
def sgn (b : Bool) : List UInt8 := if b = true then [45] else []
def ba (l : List UInt8) : ByteArray := ⟨l.toArray⟩
theorem ba_append (a b : List UInt8) : ba a ++ ba b = ba (a ++ b) := by
  apply ByteArray.ext
  simp [ba, ByteArray.data_append]
theorem ba_size (a : List UInt8) : (ba a).size = a.length := by simp [ba, ByteArray.size]
theorem ba_toList (a : List UInt8) : (ba a).data.toList = a := by simp [ba]
theorem strOfNums_one (c : Int) (h0 : 0 ≤ c) (h1 : c < 256) : strOfNums [c % 256] = ba [UInt8.ofNat c.toNat] := by
  have : c % 256 = c := by omega
  rw [this]
  rfl
theorem spec_digits_loop (k : Nat) : ∀ (x : Int) (b : Bool) (out : List UInt8), x.natAbs < 10 ^ k → -9223372036854775808 ≤ x → x ≤ 9223372036854775807 → out.length + k + 1 ≤ 9223372036854775807 →
    spec_Digits.l0 (k + 1) x b (ba out) = some (ba (sgn b ++ digs x.natAbs ++ out)) := by
  induction k with
  | zero =>
    intro x b out h _ _ hl
    have hx : x = 0 := by simp at h; omega
    subst hx
    simp only [spec_Digits.l0]
    rw [if_pos trivial]
    cases b
    · rw [if_neg (by decide)]; simp [sgn, digs]
    · rw [if_pos rfl, if_pos (by rw [ba_size]; omega)]
      show some (ba [45] ++ ba out) = _
      rw [ba_append]; simp [sgn, digs]
  | succ k ih =>
    intro x b out h h0 h1 hl
    by_cases hx : x = 0
    · subst hx
      simp only [spec_Digits.l0]
      rw [if_pos trivial]
      cases b
      · rw [if_neg (by decide)]; simp [sgn, digs]
      · rw [if_pos rfl, if_pos (by rw [ba_size]; omega)]
        show some (ba [45] ++ ba out) = _
        rw [ba_append]; simp [sgn, digs]
    · have hm : (Int.tdiv x 10).natAbs = x.natAbs / 10 := by
        rw [Int.natAbs_tdiv]; rfl
      have ht : (Int.tmod x 10).natAbs = x.natAbs % 10 := by rw [Int.natAbs_tmod]; rfl
      have hlt : (Int.tdiv x 10).natAbs < 10 ^ k := by rw [hm]; rw [Nat.pow_succ] at h; omega
      have hr := ih (Int.tdiv x 10) b (UInt8.ofNat (48 + x.natAbs % 10) :: out) hlt (by omega) (by omega) (by simp only [List.length_cons]; omega)
      have hw : wrap64 (Int.tdiv x 10) = Int.tdiv x 10 := by unfold wrap64; omega
      have hd := digs_step x.natAbs (by omega)
      have hfin : some (ba (sgn b ++ digs (Int.tdiv x 10).natAbs ++ (UInt8.ofNat (48 + x.natAbs % 10) :: out))) = some (ba (sgn b ++ digs x.natAbs ++ out)) := by
        rw [hm, hd]; simp
      rw [spec_Digits.l0, if_neg hx]
      by_cases hn : Int.tmod x 10 < 0
      · rw [if_pos hn]
        have hc : (wrap64 (48 + (wrap64 (-(Int.tmod x 10))))) = 48 + ((x.natAbs % 10 : Nat) : Int) := by unfold wrap64; omega
        simp only [Option.bind_some]
        rw [hc, strOfNums_one _ (by omega) (by omega), ba_append, if_pos (by simp only [ba_size, List.length_singleton]; omega), hw]
        rw [show (48 + ((x.natAbs % 10 : Nat) : Int)).toNat = 48 + x.natAbs % 10 by omega]
        exact hr.trans hfin
      · rw [if_neg hn]
        have hc : (wrap64 (48 + (Int.tmod x 10))) = 48 + ((x.natAbs % 10 : Nat) : Int) := by unfold wrap64; omega
        simp only [Option.bind_some]
        rw [hc, strOfNums_one _ (by omega) (by omega), ba_append, if_pos (by simp only [ba_size, List.length_singleton]; omega), hw]
        rw [show (48 + ((x.natAbs % 10 : Nat) : Int)).toNat = 48 + x.natAbs % 10 by omega]
        exact hr.trans hfin
theorem spec_digits (n : Int) (h0 : -9223372036854775808 ≤ n) (h1 : n ≤ 9223372036854775807) (k : Nat) (hk : 20 ≤ k) (hk2 : k ≤ 1000000000) : spec_Digits.f k n = some (ba (Lib.itoa n)) := by
  unfold spec_Digits.f
  by_cases hn : n = 0
  · subst hn
    rw [if_pos rfl]
    unfold Lib.itoa
    rw [if_neg (by decide), Lib.decDigits, dif_pos (by decide)]
    rfl
  · rw [if_neg hn]
    obtain ⟨j, rfl⟩ : ∃ j, k = j + 1 := ⟨k - 1, by omega⟩
    have hp : (10 : Nat) ^ 19 ≤ 10 ^ j := Nat.pow_le_pow_right (by omega) (by omega)
    have := spec_digits_loop j n (decide (n < 0)) [] (by omega) h0 h1 (by simp only [List.length_nil]; omega)
    rw [show (⟨#[]⟩ : ByteArray) = ba [] from rfl, this]
    congr 2
    unfold Lib.itoa digs sgn
    by_cases hneg : n < 0
    · simp [hneg, hn]
    · simp [hneg, hn]
      congr 1
      omega
def isDig (c : UInt8) : Prop := 48 ≤ c.toNat ∧ c.toNat ≤ 57
def valL (a : Nat) (l : List UInt8) : Nat := l.foldl (fun a c => 10 * a + (c.toNat - 48)) a
theorem valL_cons (a : Nat) (c : UInt8) (l : List UInt8) : valL a (c :: l) = valL (10 * a + (c.toNat - 48)) l := by
  unfold valL
  rw [List.foldl_cons]
theorem valL_append (a : Nat) (p l : List UInt8) : valL a (p ++ l) = valL (valL a p) l := by unfold valL; rw [List.foldl_append]
theorem valL_ge : ∀ (l : List UInt8) (a : Nat), a ≤ valL a l
  | [], a => Nat.le_refl _
  | c :: l, a => by rw [valL_cons]; exact Nat.le_trans (by omega) (valL_ge l _)
theorem toNat_ofNat48 (d : Nat) (h : d < 10) : (UInt8.ofNat (48 + d)).toNat = 48 + d := by
  rw [UInt8.toNat_ofNat']; omega
theorem decDigits_dig : ∀ (u : Nat), ∀ c ∈ Lib.decDigits u, isDig c := by
  intro u
  induction u using Nat.strongRecOn with
  | ind u ih =>
    intro c hc
    rw [Lib.decDigits] at hc
    by_cases h : u < 10
    · rw [dif_pos h] at hc
      simp only [List.mem_singleton] at hc
      subst hc
      unfold isDig
      rw [toNat_ofNat48 u h]; omega
    · rw [dif_neg h] at hc
      rcases List.mem_append.1 hc with h1 | h1
      · exact ih (u / 10) (by omega) c h1
      · simp only [List.mem_singleton] at h1
        subst h1
        unfold isDig
        rw [toNat_ofNat48 _ (Nat.mod_lt _ (by decide))]; omega
theorem decDigits_val : ∀ (u : Nat), valL 0 (Lib.decDigits u) = u := by
  intro u
  induction u using Nat.strongRecOn with
  | ind u ih =>
    rw [Lib.decDigits]
    by_cases h : u < 10
    · rw [dif_pos h]
      show 10 * 0 + ((UInt8.ofNat (48 + u)).toNat - 48) = u
      rw [toNat_ofNat48 u h]; omega
    · rw [dif_neg h, valL_append, ih (u / 10) (by omega)]
      show 10 * (u / 10) + ((UInt8.ofNat (48 + u % 10)).toNat - 48) = u
      rw [toNat_ofNat48 _ (Nat.mod_lt _ (by decide))]; omega
theorem decDigits_ne (u : Nat) : Lib.decDigits u ≠ [] := by
  rw [Lib.decDigits]
  by_cases h : u < 10
  · rw [dif_pos h]; exact List.cons_ne_nil _ _
  · rw [dif_neg h]; exact List.append_ne_nil_of_right_ne_nil _ (List.cons_ne_nil _ _)
theorem itoa_chars (n : Int) (c : UInt8) (hc : c ∈ Lib.itoa n) : c.toNat = 45 ∨ isDig c := by
  unfold Lib.itoa at hc
  split at hc
  · rcases List.mem_cons.1 hc with rfl | h
    · left; rfl
    · right; exact decDigits_dig _ c h
  · right; exact decDigits_dig _ c hc
theorem itoa_ne (n : Int) : Lib.itoa n ≠ [] := by
  unfold Lib.itoa
  split
  · exact List.cons_ne_nil _ _
  · exact decDigits_ne _
theorem itoa_len (n : Int) (h : int64B n) : (Lib.itoa n).length ≤ 21 := Lib.itoa_length_le n h.1 h.2
theorem impl_digits (n : Int) (h : int64B n) : impl_Digits.f n = some (ba (Lib.itoa n)) := by
  unfold impl_Digits.f
  rw [itoa_val n h]
  rfl
theorem ba_inj {a b : List UInt8} (h : (ba a).toList = (ba b).toList) : a = b := by
  have h2 : ba a = ba b := by
    have := congrArg (fun l => l) h
    exact ByteArray.ext (by
      have e1 : (ba a).toList = (ba a).data.toList := by simp [ByteArray.toList_eq]
      have e2 : (ba b).toList = (ba b).data.toList := by simp [ByteArray.toList_eq]
      rw [e1, e2] at h
      exact Array.toList_inj.mp h)
  have := congrArg (fun x => x.data.toList) h2
  simpa [ba] using this
theorem toList_eq_iff (s t : ByteArray) : s.toList = t.toList ↔ s = t := by
  constructor
  · intro h
    obtain ⟨⟨a⟩⟩ := s; obtain ⟨⟨b⟩⟩ := t
    have := ba_inj (a := a) (b := b) h
    rw [this]
  · rintro rfl; rfl
theorem parse_val : ∀ (l : List UInt8) (a : Nat), (∀ c ∈ l, isDig c) → valL a l ≤ 9223372036854775808 → Lib.parseUint10 a l = .ok (valL a l)
  | [], a, _, _ => rfl
  | c :: l, a, hd, hv => by
    obtain ⟨h1, h2⟩ := hd c (List.mem_cons_self ..)
    rw [valL_cons] at hv
    have hg := valL_ge l (10 * a + (c.toNat - 48))
    simp only [Lib.parseUint10]
    rw [if_pos ⟨h1, h2⟩, if_neg (by omega), if_neg (by omega), valL_cons, show a * 10 + (c.toNat - 48) = 10 * a + (c.toNat - 48) by omega]
    exact parse_val l _ (fun x hx => hd x (List.mem_cons_of_mem _ hx)) hv
theorem atoi_itoa (n : Int) (h : int64B n) : Lib.atoiAll (Lib.itoa n) = .ok n := by
  obtain ⟨h0, h1⟩ := h
  unfold Lib.itoa
  by_cases hn : n < 0
  · rw [if_pos hn, Lib.atoiAll_minus]
    unfold Lib.parseMag
    rw [if_neg (decDigits_ne _), parse_val _ 0 (decDigits_dig _) (by rw [decDigits_val]; omega), decDigits_val]
    unfold Lib.signed
    simp only
    split
    · omega
    · congr 1; omega
  · rw [if_neg hn]
    cases hc : Lib.decDigits n.toNat with
    | nil => exact absurd hc (decDigits_ne _)
    | cons c r =>
      have hd := decDigits_dig n.toNat c (by rw [hc]; exact List.mem_cons_self ..)
      obtain ⟨d1, d2⟩ := hd
      rw [Lib.atoiAll_plain c r (by omega) (by omega), ← hc]
      unfold Lib.parseMag
      rw [if_neg (decDigits_ne _), parse_val _ 0 (decDigits_dig _) (by rw [decDigits_val]; omega), decDigits_val]
      unfold Lib.signless
      simp only
      split
      · omega
      · congr 1; omega
theorem impl_intText_itoa (n : Int) (h : int64B n) : impl_IntText.f (ba (Lib.itoa n)) = some (n, true) := by
  unfold impl_IntText.f
  rw [if_pos (by rw [ba_size]; have := itoa_len n h; omega), show (ba (Lib.itoa n)).data.toList = Lib.itoa n from ba_toList _, atoi_itoa n h]
  simp only
  rw [impl_digits n h]
  simp only [Option.bind_some, if_true]
theorem impl_intText_some (s : ByteArray) (hs : s.size ≤ 281474976710656) : ∃ n ok, impl_IntText.f s = some (n, ok) ∧ int64B n := by
  unfold impl_IntText.f
  rw [if_pos hs]
  have hz : int64B 0 := by constructor <;> omega
  cases hc : Lib.atoiAll s.data.toList with
  | ok v =>
    have hb : int64B v := Lib.atoiAll_bounds hc
    simp only [impl_digits v hb, Option.bind_some]
    split
    · exact ⟨_, _, rfl, hb⟩
    · exact ⟨_, _, rfl, hz⟩
  | _ => exact ⟨_, _, rfl, hz⟩
theorem cut_hit (p r : List UInt8) (c : UInt8) (hn : c ∉ p) : Lib.cut (p ++ c :: r) [c] = (p, r, true) := by
  have hi : Lib.index (p ++ c :: r) [c] = (p.length : Int) := by
    refine Lib.index_first (by simp) ?_ (fun j hj => ?_)
    · unfold Lib.occAt; simp
    · unfold Lib.occAt
      rw [List.drop_append_of_le_length (by omega)]
      cases hd : p.drop j with
      | nil =>
        have := congrArg List.length hd
        simp at this; omega
      | cons y t =>
        have hy : y ∈ p := List.mem_of_mem_drop (by rw [hd]; exact List.mem_cons_self ..)
        have : y ≠ c := fun h => hn (h ▸ hy)
        simp [List.isPrefixOf, beq_eq_false_iff_ne.2 (Ne.symm this)]
  unfold Lib.cut
  rw [hi, if_pos (by omega)]
  simp
theorem impl_cut (p r : List UInt8) (c : UInt8) (hn : c ∉ p) (hl : (p ++ c :: r).length ≤ 1000000000) : strings_Cut.f (ba (p ++ c :: r)) (ba [c]) = some (ba p, ba r, true) := by
  unfold strings_Cut.f
  rw [if_pos (by rw [ba_size]; omega), show (ba (p ++ c :: r)).data.toList = p ++ c :: r from ba_toList _, show (ba [c]).data.toList = [c] from ba_toList _, cut_hit p r c hn]
  rfl
theorem impl_cut_some (s t : ByteArray) (hs : s.size ≤ 1000000000) : ∃ a b ok, strings_Cut.f s t = some (a, b, ok) ∧ a.size ≤ s.size ∧ b.size ≤ s.size := by
  unfold strings_Cut.f
  rw [if_pos (by omega)]
  refine ⟨_, _, _, rfl, ?_, ?_⟩
  · show (Lib.cut s.data.toList t.data.toList).1.toArray.size ≤ s.data.size
    unfold Lib.cut
    split
    · simp; omega
    · simp
  · show (Lib.cut s.data.toList t.data.toList).2.1.toArray.size ≤ s.data.size
    unfold Lib.cut
    split
    · simp
    · simp
def okInner (f c l r v : Int) : Prop := 0 ≤ f ∧ f ≤ 3 ∧ -2147483647 ≤ c ∧ c ≤ 2147483647 ∧ 1 ≤ l ∧ l ≤ 30 ∧ 1 ≤ r ∧ r ≤ 30 ∧ v = 0
instance (f c l r v : Int) : Decidable (okInner f c l r v) := by unfold okInner; exact inferInstance
def innerT (f c l r : Int) : List UInt8 := Lib.itoa f ++ 60 :: (Lib.itoa c ++ 58 :: (Lib.itoa l ++ 44 :: Lib.itoa r))
def nodeT (f c l r v : Int) : List UInt8 :=
  if f = -1 then (if c = 0 ∧ l = 0 ∧ r = 0 then 61 :: Lib.itoa v else [])
  else if okInner f c l r v then innerT f c l r else []
theorem small_B (x : Int) (h : -2147483648 ≤ x) (h2 : x ≤ 2147483647) : int64B x := by unfold int64B; omega
theorem nodeT_len (f c l r v : Int) (hv : int64B v) : (nodeT f c l r v).length ≤ 200 := by
  unfold nodeT
  split
  · split
    · have := itoa_len v hv
      simp only [List.length_cons]; omega
    · simp
  · split
    · rename_i h
      obtain ⟨a1, a2, a3, a4, a5, a6, a7, a8, a9⟩ := h
      have e1 := itoa_len f (small_B f (by omega) (by omega))
      have e2 := itoa_len c (small_B c (by omega) (by omega))
      have e3 := itoa_len l (small_B l (by omega) (by omega))
      have e4 := itoa_len r (small_B r (by omega) (by omega))
      unfold innerT
      simp only [List.length_append, List.length_cons]; omega
    · simp
theorem innerT_eq (f c l r : Int) : ((((((ba (Lib.itoa f) ++ (⟨#[60]⟩ : ByteArray)) ++ ba (Lib.itoa c)) ++ (⟨#[58]⟩ : ByteArray)) ++ ba (Lib.itoa l)) ++ (⟨#[44]⟩ : ByteArray)) ++ ba (Lib.itoa r)) = ba (innerT f c l r) := by
  rw [show (⟨#[60]⟩ : ByteArray) = ba [60] from rfl, show (⟨#[58]⟩ : ByteArray) = ba [58] from rfl, show (⟨#[44]⟩ : ByteArray) = ba [44] from rfl]
  simp only [ba_append]
  unfold innerT
  simp
theorem b1_size (c : UInt8) : (⟨#[c]⟩ : ByteArray).size = 1 := rfl
theorem impl_nodeText_j0 (k : Nat) (f c l r v : Int) (h : okInner f c l r v) : impl_NodeText.j0 (k + 1) false f c l r v = some (ba (innerT f c l r)) := by
  obtain ⟨a1, a2, a3, a4, a5, a6, a7, a8, a9⟩ := h
  have e1 := small_B f (by omega) (by omega)
  have e2 := small_B c (by omega) (by omega)
  have e3 := small_B l (by omega) (by omega)
  have e4 := small_B r (by omega) (by omega)
  have l1 := itoa_len f e1; have l2 := itoa_len c e2; have l3 := itoa_len l e3; have l4 := itoa_len r e4
  rw [impl_NodeText.j0, if_neg (by decide), impl_digits f e1, impl_digits c e2, impl_digits l e3, impl_digits r e4]
  simp only [Option.bind_some, ByteArray.size_append, b1_size, ba_size]
  rw [if_pos (by omega), if_pos (by omega), if_pos (by omega), if_pos (by omega), if_pos (by omega), if_pos (by omega), innerT_eq]
theorem spec_nodeText_j0 (k : Nat) (hk : 20 ≤ k) (hk2 : k ≤ 1000000000) (f c l r v : Int) (h : okInner f c l r v) : spec_NodeText.j0 (k + 1) false f c l r v = some (ba (innerT f c l r)) := by
  obtain ⟨a1, a2, a3, a4, a5, a6, a7, a8, a9⟩ := h
  have e1 := small_B f (by omega) (by omega)
  have e2 := small_B c (by omega) (by omega)
  have e3 := small_B l (by omega) (by omega)
  have e4 := small_B r (by omega) (by omega)
  have l1 := itoa_len f e1; have l2 := itoa_len c e2; have l3 := itoa_len l e3; have l4 := itoa_len r e4
  rw [spec_NodeText.j0, if_neg (by decide), spec_digits f e1.1 e1.2 k hk hk2, spec_digits c e2.1 e2.2 k hk hk2, spec_digits l e3.1 e3.2 k hk hk2, spec_digits r e4.1 e4.2 k hk hk2]
  simp only [Option.bind_some, ByteArray.size_append, b1_size, ba_size]
  rw [if_pos (by omega), if_pos (by omega), if_pos (by omega), if_pos (by omega), if_pos (by omega), if_pos (by omega), innerT_eq]
theorem leaf_bool (f c l r : Int) (hf : f = -1) : (!(f == (-1)) || (!(c == 0) || (!(l == 0) || (!(r == 0))))) = !decide (c = 0 ∧ l = 0 ∧ r = 0) := by
  subst hf
  rw [Bool.eq_iff_iff]
  simp
theorem impl_nodeText (k : Nat) (hk : 1 ≤ k) (f c l r v : Int) (hv : int64B v) : impl_NodeText.f k f c l r v = some (ba (nodeT f c l r v)) := by
  obtain ⟨j, rfl⟩ : ∃ j, k = j + 1 := ⟨k - 1, by omega⟩
  have lv := itoa_len v hv
  have hT : ∀ x : Int, impl_NodeText.j0 (j + 1) true f c l r x = some (ba []) := fun x => by rw [impl_NodeText.j0, if_pos rfl]; rfl
  unfold impl_NodeText.f impl_isLeaf.f
  simp only [Option.bind_some]
  unfold nodeT
  by_cases hf : f = -1
  · rw [if_pos (beq_iff_eq.2 hf), if_pos hf, leaf_bool f c l r hf, impl_digits v hv]
    by_cases h2 : c = 0 ∧ l = 0 ∧ r = 0
    · rw [if_neg (by simp [h2]), if_pos h2]
      simp only [Option.bind_some]
      rw [if_pos (by rw [ba_size]; omega), show (⟨#[61]⟩ : ByteArray) = ba [61] from rfl, ba_append]; rfl
    · rw [if_pos (by simp only [h2, decide_false, Bool.not_false]), if_neg h2]; rfl
  · rw [if_neg (by simp [hf]), if_neg hf]
    simp only [impl_within.f, impl_isDecimal.f, hT]
    by_cases h : okInner f c l r v
    · rw [if_pos h]
      have h' := h
      obtain ⟨a1, a2, a3, a4, a5, a6, a7, a8, a9⟩ := h
      simp only [ge_iff_le, a1, a2, a3, a4, a5, a6, a7, a8, decide_true, if_true, Option.bind_some]
      rw [show (v != 0) = false by simp [a9]]
      exact impl_nodeText_j0 j f c l r v h'
    · rw [if_neg h]
      have hz : ∀ b, b = true ∨ (v = 0 ∧ b = false) → ¬ (b = false ∧ okInner f c l r v) := fun b _ hb => h hb.2
      by_cases a1 : 0 ≤ f <;> by_cases a2 : f ≤ 3 <;> simp only [ge_iff_le, a1, a2, decide_true, decide_false, if_true, if_false, Option.bind_some, Bool.false_eq_true, ba] <;> try rfl
      by_cases a3 : -2147483647 ≤ c <;> by_cases a4 : c ≤ 2147483647 <;> simp only [a3, a4, decide_true, decide_false, if_true, if_false, Option.bind_some, Bool.false_eq_true] <;> try rfl
      by_cases a5 : 1 ≤ l <;> by_cases a6 : l ≤ 30 <;> simp only [a5, a6, decide_true, decide_false, if_true, if_false, Option.bind_some, Bool.false_eq_true] <;> try rfl
      by_cases a7 : 1 ≤ r <;> by_cases a8 : r ≤ 30 <;> simp only [a7, a8, decide_true, decide_false, if_true, if_false, Option.bind_some, Bool.false_eq_true] <;> try rfl
      have a9 : v ≠ 0 := fun h9 => h ⟨a1, a2, a3, a4, a5, a6, a7, a8, h9⟩
      rw [show (v != 0) = true by simp [a9], hT]
      rfl
theorem spec_nodeText (k : Nat) (hk : 21 ≤ k) (hk2 : k ≤ 1000000000) (f c l r v : Int) (hv : int64B v) : spec_NodeText.f k f c l r v = some (ba (nodeT f c l r v)) := by
  obtain ⟨j, rfl⟩ : ∃ j, k = j + 1 := ⟨k - 1, by omega⟩
  have lv := itoa_len v hv
  have hT : ∀ x : Int, spec_NodeText.j0 (j + 1) true f c l r x = some (ba []) := fun x => by rw [spec_NodeText.j0, if_pos rfl]; rfl
  unfold spec_NodeText.f spec_l17Inner.f
  simp only [Option.bind_some]
  unfold nodeT
  by_cases hf : f = -1
  · rw [if_neg (by simp [hf]), if_pos hf, leaf_bool f c l r hf, spec_digits v hv.1 hv.2 _ (by omega) hk2]
    by_cases h2 : c = 0 ∧ l = 0 ∧ r = 0
    · rw [if_neg (by simp [h2]), if_pos h2]
      simp only [Option.bind_some]
      rw [if_pos (by rw [ba_size]; omega), show (⟨#[61]⟩ : ByteArray) = ba [61] from rfl, ba_append]; rfl
    · rw [if_pos (by simp only [h2, decide_false, Bool.not_false]), if_neg h2]; rfl
  · rw [if_pos (by simp [hf]), if_neg hf]
    simp only [spec_l1In.f, spec_l6Value.f, hT]
    by_cases h : okInner f c l r v
    · rw [if_pos h]
      have h' := h
      obtain ⟨a1, a2, a3, a4, a5, a6, a7, a8, a9⟩ := h
      simp only [ge_iff_le, a1, a2, a3, a4, a5, a6, a7, a8, decide_true, if_true, Option.bind_some]
      rw [show (v != 0) = false by simp [a9]]
      exact spec_nodeText_j0 j (by omega) (by omega) f c l r v h'
    · rw [if_neg h]
      by_cases a1 : 0 ≤ f <;> by_cases a2 : f ≤ 3 <;> simp only [ge_iff_le, a1, a2, decide_true, decide_false, if_true, if_false, Option.bind_some, Bool.false_eq_true, ba] <;> try rfl
      by_cases a3 : -2147483647 ≤ c <;> by_cases a4 : c ≤ 2147483647 <;> simp only [a3, a4, decide_true, decide_false, if_true, if_false, Option.bind_some, Bool.false_eq_true] <;> try rfl
      by_cases a5 : 1 ≤ l <;> by_cases a6 : l ≤ 30 <;> simp only [a5, a6, decide_true, decide_false, if_true, if_false, Option.bind_some, Bool.false_eq_true] <;> try rfl
      by_cases a7 : 1 ≤ r <;> by_cases a8 : r ≤ 30 <;> simp only [a7, a8, decide_true, decide_false, if_true, if_false, Option.bind_some, Bool.false_eq_true] <;> try rfl
      have a9 : v ≠ 0 := fun h9 => h ⟨a1, a2, a3, a4, a5, a6, a7, a8, h9⟩
      rw [show (v != 0) = true by simp [a9], hT]
      rfl
theorem not_in_itoa (n : Int) (c : UInt8) (h : c.toNat ≠ 45) (h2 : ¬ isDig c) : c ∉ Lib.itoa n := fun hm => by
  rcases itoa_chars n c hm with h3 | h3
  · exact h h3
  · exact h2 h3
theorem empty_iff (s : ByteArray) : (s.toList = ([] : List UInt8)) ↔ s = ba [] := by
  rw [← toList_eq_iff, show (ba []).toList = [] by simp [ByteArray.toList_eq, ba]]
def good (s : ByteArray) (q : Int × Int × Int × Int × Int × Bool) : Prop :=
  (q.2.2.2.2.2 = true → ba (nodeT q.1 q.2.1 q.2.2.1 q.2.2.2.1 q.2.2.2.2.1) = s ∧ s ≠ ba []) ∧ (q.2.2.2.2.2 = false → q = (0, 0, 0, 0, 0, false)) ∧
  int64B q.1 ∧ int64B q.2.1 ∧ int64B q.2.2.1 ∧ int64B q.2.2.2.1 ∧ int64B q.2.2.2.2.1
theorem zero_B : int64B 0 := by constructor <;> omega
theorem m1_B : int64B (-1) := by constructor <;> omega
theorem good_zero (s : ByteArray) : good s (0, 0, 0, 0, 0, false) := ⟨fun h => (by cases h), fun _ => rfl, zero_B, zero_B, zero_B, zero_B, zero_B⟩
theorem good_tail (s : ByteArray) (f c l r v : Int) (hf : int64B f) (hc : int64B c) (hl : int64B l) (hr : int64B r) (hv : int64B v) (t : ByteArray) (ht : t = ba (nodeT f c l r v)) :
    ∃ q, (if s.toList = ([] : List UInt8) then (some (0, 0, 0, 0, 0, false)) else (if t.toList = s.toList then (some (f, c, l, r, v, true)) else (some (0, 0, 0, 0, 0, false)))) = some q ∧ good s q := by
  by_cases h0 : s.toList = ([] : List UInt8)
  · rw [if_pos h0]; exact ⟨_, rfl, good_zero s⟩
  · rw [if_neg h0]
    by_cases h1 : t.toList = s.toList
    · rw [if_pos h1]
      refine ⟨_, rfl, fun _ => ⟨?_, fun h => h0 ((empty_iff s).2 h)⟩, fun h => (by cases h), hf, hc, hl, hr, hv⟩
      rw [← ht]; exact (toList_eq_iff t s).1 h1
    · rw [if_neg h1]; exact ⟨_, rfl, good_zero s⟩
theorem impl_read_some (s : ByteArray) (hs : s.size ≤ 1048576) (k : Nat) (hk : 1 ≤ k) : ∃ q, impl_ReadNode.f k s = some q ∧ good s q := by
  unfold impl_ReadNode.f strings_CutPrefix.f
  simp only [Option.bind_some]
  by_cases hp : Lib.hasPrefix s.data.toList (⟨#[61]⟩ : ByteArray).data.toList = true
  · rw [if_pos hp]
    have hsz : (⟨(Lib.trimPrefix s.data.toList (⟨#[61]⟩ : ByteArray).data.toList).toArray⟩ : ByteArray).size ≤ 281474976710656 := by
      show (Lib.trimPrefix s.data.toList _).toArray.size ≤ _
      have h2 : s.data.size ≤ 1048576 := hs
      unfold Lib.trimPrefix
      split <;> simp <;> omega
    obtain ⟨n, ok, e, hn⟩ := impl_intText_some _ hsz
    rw [e]
    simp only [Option.bind_some]
    rw [impl_nodeText k hk (-1) 0 0 0 n hn]
    simp only [Option.bind_some]
    exact good_tail s (-1) 0 0 0 n m1_B zero_B zero_B zero_B hn _ rfl
  · rw [if_neg hp]
    obtain ⟨a, b, o, e1, ha, hb⟩ := impl_cut_some s (⟨#[60]⟩ : ByteArray) (by omega)
    rw [e1]; simp only [Option.bind_some]
    obtain ⟨a2, b2, o2, e2, ha2, hb2⟩ := impl_cut_some b (⟨#[58]⟩ : ByteArray) (by omega)
    rw [e2]; simp only [Option.bind_some]
    obtain ⟨a3, b3, o3, e3, ha3, hb3⟩ := impl_cut_some b2 (⟨#[44]⟩ : ByteArray) (by omega)
    rw [e3]; simp only [Option.bind_some]
    obtain ⟨n1, k1, f1, g1⟩ := impl_intText_some a (by omega)
    obtain ⟨n2, k2, f2, g2⟩ := impl_intText_some a2 (by omega)
    obtain ⟨n3, k3, f3, g3⟩ := impl_intText_some a3 (by omega)
    obtain ⟨n4, k4, f4, g4⟩ := impl_intText_some b3 (by omega)
    rw [f1, f2, f3, f4]; simp only [Option.bind_some]
    rw [impl_nodeText k hk n1 n2 n3 n4 0 zero_B]
    simp only [Option.bind_some]
    exact good_tail s n1 n2 n3 n4 0 g1 g2 g3 g4 zero_B _ rfl
theorem nodeT_cases (f c l r v : Int) (h : nodeT f c l r v ≠ []) : (f = -1 ∧ c = 0 ∧ l = 0 ∧ r = 0 ∧ nodeT f c l r v = 61 :: Lib.itoa v) ∨ (okInner f c l r v ∧ nodeT f c l r v = innerT f c l r) := by
  unfold nodeT at h ⊢
  by_cases hf : f = -1
  · rw [if_pos hf] at h ⊢
    by_cases h2 : c = 0 ∧ l = 0 ∧ r = 0
    · rw [if_pos h2]; exact Or.inl ⟨hf, h2.1, h2.2.1, h2.2.2, rfl⟩
    · rw [if_neg h2] at h; exact absurd rfl h
  · rw [if_neg hf] at h ⊢
    by_cases h2 : okInner f c l r v
    · rw [if_pos h2]; exact Or.inr ⟨h2, rfl⟩
    · rw [if_neg h2] at h; exact absurd rfl h
theorem innerT_head (f c l r : Int) : ∃ x t, innerT f c l r = x :: t ∧ x ≠ 61 := by
  unfold innerT
  cases hi : Lib.itoa f with
  | nil => exact absurd hi (itoa_ne f)
  | cons x t =>
    refine ⟨x, _, rfl, fun h => ?_⟩
    rcases itoa_chars f x (by rw [hi]; exact List.mem_cons_self ..) with h2 | h2
    · rw [h] at h2; exact absurd h2 (by decide)
    · rw [h] at h2; unfold isDig at h2; exact absurd h2.2 (by decide)
theorem innerT_len (f c l r v : Int) (h : okInner f c l r v) : (innerT f c l r).length ≤ 100 := by
  obtain ⟨a1, a2, a3, a4, a5, a6, a7, a8, a9⟩ := h
  have e1 := itoa_len f (small_B f (by omega) (by omega))
  have e2 := itoa_len c (small_B c (by omega) (by omega))
  have e3 := itoa_len l (small_B l (by omega) (by omega))
  have e4 := itoa_len r (small_B r (by omega) (by omega))
  unfold innerT
  simp only [List.length_append, List.length_cons]; omega
theorem read_end (s t : ByteArray) (q : Int × Int × Int × Int × Int × Bool) (h : t = s) (h0 : s ≠ ba []) : (if s.toList = ([] : List UInt8) then (some (0, 0, 0, 0, 0, false)) else (if t.toList = s.toList then some q else (some (0, 0, 0, 0, 0, false)))) = some q := by
  rw [if_neg (fun h => h0 ((empty_iff s).1 h)), if_pos (by rw [h])]
theorem impl_read_hit (f c l r v : Int) (hv : int64B v) (k : Nat) (hk : 1 ≤ k) (h : nodeT f c l r v ≠ []) : impl_ReadNode.f k (ba (nodeT f c l r v)) = some (f, c, l, r, v, true) := by
  have hne : ba (nodeT f c l r v) ≠ ba [] := fun e => h (by have := congrArg (fun x => x.data.toList) e; simpa [ba] using this)
  unfold impl_ReadNode.f strings_CutPrefix.f
  simp only [Option.bind_some]
  rcases nodeT_cases f c l r v h with ⟨rfl, rfl, rfl, rfl, e⟩ | ⟨ho, e⟩
  · have e1 : (ba (nodeT (-1) 0 0 0 v)).data.toList = 61 :: Lib.itoa v := by rw [e]; exact ba_toList _
    have hp : Lib.hasPrefix (61 :: Lib.itoa v) [61] = true := by simp [Lib.hasPrefix]
    have ht : Lib.trimPrefix (61 :: Lib.itoa v) [61] = Lib.itoa v := by unfold Lib.trimPrefix; rw [if_pos hp]; rfl
    rw [e1, if_pos hp, ht, show (⟨(Lib.itoa v).toArray⟩ : ByteArray) = ba (Lib.itoa v) from rfl, impl_intText_itoa v hv]
    simp only [Option.bind_some]
    rw [impl_nodeText k hk (-1) 0 0 0 v hv]
    simp only [Option.bind_some]
    first | exact read_end _ _ _ rfl hne | (rw [if_neg (fun h => hne ((empty_iff _).1 h)), if_pos trivial])
  · have ho' := ho
    obtain ⟨a1, a2, a3, a4, a5, a6, a7, a8, a9⟩ := ho
    have hlen := innerT_len f c l r v ho'
    have e1 : (ba (nodeT f c l r v)).data.toList = innerT f c l r := by rw [e]; exact ba_toList _
    obtain ⟨x, t, hx, hx2⟩ := innerT_head f c l r
    have hp : Lib.hasPrefix (innerT f c l r) [61] = false := by rw [hx]; simp [Lib.hasPrefix, List.isPrefixOf, beq_eq_false_iff_ne.2 (Ne.symm hx2)]
    rw [e1, if_neg (by rw [hp]; decide), e]
    have nd : ∀ (n : Int) (y : UInt8), y = 60 ∨ y = 58 ∨ y = 44 → y ∉ Lib.itoa n := fun n y hy => not_in_itoa n y (by rcases hy with rfl | rfl | rfl <;> decide) (by rcases hy with rfl | rfl | rfl <;> (unfold isDig; decide))
    have hlen' := hlen
    unfold innerT at hlen'
    simp only [List.length_append, List.length_cons] at hlen'
    have c1 : strings_Cut.f (ba (innerT f c l r)) (⟨#[60]⟩ : ByteArray) = some (ba (Lib.itoa f), ba (Lib.itoa c ++ 58 :: (Lib.itoa l ++ 44 :: Lib.itoa r)), true) := impl_cut _ _ 60 (nd f 60 (Or.inl rfl)) (by simp only [List.length_append, List.length_cons]; omega)
    have c2 : strings_Cut.f (ba (Lib.itoa c ++ 58 :: (Lib.itoa l ++ 44 :: Lib.itoa r))) (⟨#[58]⟩ : ByteArray) = some (ba (Lib.itoa c), ba (Lib.itoa l ++ 44 :: Lib.itoa r), true) := impl_cut _ _ 58 (nd c 58 (Or.inr (Or.inl rfl))) (by simp only [List.length_append, List.length_cons]; omega)
    have c3 : strings_Cut.f (ba (Lib.itoa l ++ 44 :: Lib.itoa r)) (⟨#[44]⟩ : ByteArray) = some (ba (Lib.itoa l), ba (Lib.itoa r), true) := impl_cut _ _ 44 (nd l 44 (Or.inr (Or.inr rfl))) (by simp only [List.length_append, List.length_cons]; omega)
    rw [c1]; simp only [Option.bind_some]
    rw [c2]; simp only [Option.bind_some]
    rw [c3]; simp only [Option.bind_some]
    rw [impl_intText_itoa f (small_B f (by omega) (by omega)), impl_intText_itoa c (small_B c (by omega) (by omega)), impl_intText_itoa l (small_B l (by omega) (by omega)), impl_intText_itoa r (small_B r (by omega) (by omega))]
    simp only [Option.bind_some]
    subst a9
    rw [impl_nodeText k hk f c l r 0 zero_B]
    simp only [Option.bind_some]
    rw [← e]
    first | exact read_end _ _ _ rfl hne | (rw [if_neg (fun h => hne ((empty_iff _).1 h)), if_pos trivial])
theorem and255 (n : Int) : Go.bits .and .i64 n 255 = n % 256 := by
  have h255 : (BitVec.ofInt 64 255).toNat = 2 ^ 8 - 1 := by decide
  have key : (BitVec.ofInt 64 n &&& BitVec.ofInt 64 255).toNat = (n % ((2 ^ 64 : Nat) : Int)).toNat % 2 ^ 8 := by
    rw [BitVec.toNat_and, BitVec.toNat_ofInt, h255, Nat.and_two_pow_sub_one_eq_mod]
  show IntKind.i64.wrap ((BitVec.ofInt 64 n &&& BitVec.ofInt 64 255).toNat : Nat) = n % 256
  rw [key, IntKind.wrap_i64]
  omega
def At (l : List Int) (i : Int) : Prop := 0 ≤ i ∧ i ≤ l.length ∧ l.length ≤ 1099511627776
theorem draw_byte (l : List Int) (i h : Int) (hi : At l i) : ∃ b i' h', spec_l1Byte.f l i h = some (b, i', h') ∧ 0 ≤ b ∧ b ≤ 255 ∧ At l i' := by
  obtain ⟨h0, h1, h2⟩ := hi
  unfold spec_l1Byte.f
  by_cases c : i < (l.length : Int)
  · rw [if_pos c, if_pos h0]
    have hw : wrap64 (i + 1) = i + 1 := by unfold wrap64; omega
    refine ⟨_, _, _, rfl, ?_, ?_, ?_⟩
    · rw [and255]; omega
    · rw [and255]; omega
    · rw [hw]; exact ⟨by omega, by omega, h2⟩
  · rw [if_neg c]
    refine ⟨_, _, _, rfl, ?_, ?_, h0, h1, h2⟩
    · rw [and255]; omega
    · rw [and255]; omega
theorem tmod_below (x n : Int) (h0 : 0 ≤ x) (hn : 0 < n) : 0 ≤ Int.tmod x n ∧ Int.tmod x n < n := by
  rw [Int.tmod_eq_emod_of_nonneg h0]
  exact ⟨Int.emod_nonneg _ (by omega), Int.emod_lt_of_pos _ hn⟩
theorem draw_below (l : List Int) (i h n : Int) (hi : At l i) : ∃ b i' h', spec_l1Below.f l i h n = some (b, i', h') ∧ 0 ≤ b ∧ (0 < n → b < n) ∧ At l i' := by
  unfold spec_l1Below.f
  by_cases c : n ≤ 0
  · rw [if_pos c]; exact ⟨0, i, h, rfl, by omega, by omega, hi⟩
  · rw [if_neg c]
    obtain ⟨b1, i1, h1, e1, p1, q1, a1⟩ := draw_byte l i h hi
    by_cases c2 : n ≤ 256
    · rw [if_pos c2, e1]
      simp only [Option.bind_some]
      rw [if_neg (by omega)]
      obtain ⟨r1, r2⟩ := tmod_below b1 n p1 (by omega)
      exact ⟨_, _, _, rfl, r1, fun _ => r2, a1⟩
    · rw [if_neg c2, e1]
      simp only [Option.bind_some]
      obtain ⟨b2, i2, h2, e2, p2, q2, a2⟩ := draw_byte l i1 h1 a1
      rw [e2]
      simp only [Option.bind_some]
      obtain ⟨b3, i3, h3, e3, p3, q3, a3⟩ := draw_byte l i2 h2 a2
      rw [e3]
      simp only [Option.bind_some]
      obtain ⟨b4, i4, h4, e4, p4, q4, a4⟩ := draw_byte l i3 h3 a3
      rw [e4]
      simp only [Option.bind_some]
      rw [if_neg (by omega)]
      obtain ⟨r1, r2⟩ := tmod_below (wrap64 ((wrap64 ((wrap64 ((wrap64 (b1 * 16777216)) + (wrap64 (b2 * 65536)))) + (wrap64 (b3 * 256)))) + b4)) n (by unfold wrap64; omega) (by omega)
      exact ⟨_, _, _, rfl, r1, fun _ => r2, a4⟩
theorem draw_new_loop (d : Nat) : ∀ (k : Nat) (l : List Int) (x i : Int), 0 ≤ i → (4000 - i).toNat ≤ d → d < k → l.length ≤ 1099511627776 → ∃ h, spec_l1New.l0 k l x i = some (l, 0, h) := by
  induction d with
  | zero =>
    intro k l x i h0 hd hk hl
    obtain ⟨k, rfl⟩ : ∃ m, k = m + 1 := ⟨k - 1, by omega⟩
    rw [spec_l1New.l0]
    by_cases c : i < (l.length : Int)
    · rw [if_pos c, if_neg (by omega)]; exact ⟨_, rfl⟩
    · rw [if_neg c]; exact ⟨_, rfl⟩
  | succ d ih =>
    intro k l x i h0 hd hk hl
    obtain ⟨k, rfl⟩ : ∃ m, k = m + 1 := ⟨k - 1, by omega⟩
    rw [spec_l1New.l0]
    by_cases c : i < (l.length : Int)
    · rw [if_pos c]
      by_cases c2 : i < 4000
      · rw [if_pos c2, if_pos h0]
        have hw : wrap64 (i + 1) = i + 1 := by unfold wrap64; omega
        rw [hw]
        exact ih k l _ (i + 1) (by omega) (by omega) (by omega) hl
      · rw [if_neg c2]; exact ⟨_, rfl⟩
    · rw [if_neg c]; exact ⟨_, rfl⟩
theorem draw_new (k : Nat) (l : List Int) (hk : 4001 ≤ k) (hl : l.length ≤ 1099511627776) : ∃ h, spec_l1New.f k l = some (l, 0, h) ∧ At l 0 := by
  obtain ⟨h, e⟩ := draw_new_loop 4000 k l (wrap64 (28507 + (l.length : Int))) 0 (by omega) (by omega) (by omega) hl
  exact ⟨h, e, by omega, by omega, hl⟩
theorem wnext (j n : Nat) (h : j < n) (hn : n ≤ 1099511627776) : wrap64 ((j : Int) + 1) = ((j + 1 : Nat) : Int) := by unfold wrap64; omega
theorem rd_nat (l : List Int) (j : Nat) : rd l (j : Int) = l.getD j 0 := by unfold rd; rw [Int.toNat_natCast]
theorem rdOf_nat {α : Type} (d : α) (l : List α) (j : Nat) : rdOf d l (j : Int) = l.getD j d := by unfold rdOf; rw [Int.toNat_natCast]
def innerB (x : S23) : Bool := x.f0 != (-1)
theorem inner_f (x : S23) : spec_l17Inner.f x.f0 x.f1 x.f2 x.f3 x.f4 = some (innerB x) := rfl
theorem rdn (l : List S23) (j : Nat) : rd_T23 l (j : Int) = l.getD j z23 := by unfold rd_T23; rw [Int.toNat_natCast]
theorem int_nat {i : Int} (h : 0 ≤ i) : ∃ j : Nat, i = (j : Int) := ⟨i.toNat, (Int.toNat_of_nonneg h).symm⟩
def node64 (x : S23) : Prop := int64B x.f0 ∧ int64B x.f1 ∧ int64B x.f2 ∧ int64B x.f3 ∧ int64B x.f4
theorem wrap64_B' (x : Int) : int64B (wrap64 x) := by unfold int64B wrap64; constructor <;> omega
theorem z64 : node64 z23 := by unfold node64 z23 int64B; simp
theorem getD64 (t : List S23) (h : ∀ x ∈ t, node64 x) (j : Nat) : node64 (t.getD j z23) := by
  rw [List.getD_eq_getElem?_getD]
  cases e : t[j]? with
  | none => exact z64
  | some x => exact h x (List.mem_of_getElem? e)
theorem set64 (t : List S23) (h : ∀ x ∈ t, node64 x) (j : Nat) (v : S23) (hv : node64 v) : ∀ x ∈ t.set j v, node64 x := by
  intro x hx
  rcases List.mem_or_eq_of_mem_set hx with h1 | h1
  · exact h x h1
  · rw [h1]; exact hv
theorem leaves_loop (t : List S23) (ht : t.length ≤ 1048576) : ∀ d j (acc : List Int), j + d = t.length → acc.length ≤ j → (∀ x ∈ acc, 0 ≤ x ∧ x < (t.length : Int)) →
    ∃ r, Ev (fun k => spec_LeavesOf.l0 k acc (j : Int) t) r ∧ (∀ x ∈ r, 0 ≤ x ∧ x < (t.length : Int)) ∧ r.length ≤ t.length ∧ (acc ≠ [] → r ≠ []) ∧ ((∃ i, j ≤ i ∧ i < t.length ∧ innerB (t.getD i z23) = false) → r ≠ []) := by
  intro d
  induction d with
  | zero =>
    intro j acc hj ha hx
    refine ⟨acc, ⟨1, fun k hk => ?_⟩, hx, by omega, id, fun ⟨i, h1, h2, _⟩ => by omega⟩
    obtain ⟨m, rfl⟩ : ∃ m, k = m + 1 := ⟨k - 1, by omega⟩
    dsimp only
    rw [spec_LeavesOf.l0, if_neg (by omega)]
  | succ d ih =>
    intro j acc hj ha hx
    by_cases hi : innerB (t.getD j z23) = true
    · obtain ⟨r, hr, h1, h2, h3, h4⟩ := ih (j + 1) acc (by omega) (by omega) hx
      refine ⟨r, hr.step (fun k => ?_), h1, h2, h3, fun ⟨i, a, b, c⟩ => h4 ⟨i, ?_, b, c⟩⟩
      · rw [spec_LeavesOf.l0, if_pos (by omega), if_pos (by omega), rdn, inner_f]
        simp only [Option.bind_some]
        rw [if_pos hi, wnext j t.length (by omega) (by omega)]
      · rcases Nat.lt_or_ge j i with h | h
        · exact h
        · have : i = j := by omega
          subst this; rw [hi] at c; cases c
    · obtain ⟨r, hr, h1, h2, h3, h4⟩ := ih (j + 1) (acc ++ [(j : Int)]) (by omega) (by simp; omega) (fun x hx2 => by
        rcases List.mem_append.1 hx2 with h | h
        · exact hx x h
        · have := List.mem_singleton.1 h; omega)
      refine ⟨r, hr.step (fun k => ?_), h1, h2, fun _ => h3 (by simp), fun _ => h3 (by simp)⟩
      rw [spec_LeavesOf.l0, if_pos (by omega), if_pos (by omega), rdn, inner_f]
      simp only [Option.bind_some]
      rw [if_neg hi, if_pos (by omega), wnext j t.length (by omega) (by omega)]
theorem leaves (t : List S23) (ht : t.length ≤ 1048576) : ∃ r, Ev (fun k => spec_LeavesOf.f k t) r ∧ (∀ x ∈ r, 0 ≤ x ∧ x < (t.length : Int)) ∧ r.length ≤ t.length ∧ ((∃ i, i < t.length ∧ innerB (t.getD i z23) = false) → r ≠ []) := by
  obtain ⟨r, h, h1, h2, _, h4⟩ := leaves_loop t ht t.length 0 [] (by omega) (by simp) (by simp)
  exact ⟨r, h, h1, h2, fun ⟨i, a, b⟩ => h4 ⟨i, by omega, a, b⟩⟩
def isUp (x : S23) (v : Int) : Bool := innerB x && (x.f2 == v || x.f3 == v)
theorem up_loop (t : List S23) (ht : t.length ≤ 1048576) (v : Int) : ∀ d j, j + d = t.length → ∃ r, Ev (fun k => spec_l17Up.l0 k v (j : Int) t) r ∧ (r = -1 ∧ (∀ i, j ≤ i → i < t.length → isUp (t.getD i z23) v = false) ∨ ∃ i : Nat, r = (i : Int) ∧ j ≤ i ∧ i < t.length ∧ isUp (t.getD i z23) v = true ∧ ∀ q, j ≤ q → q < i → isUp (t.getD q z23) v = false) := by
  intro d
  induction d with
  | zero =>
    intro j hj
    refine ⟨-1, ⟨1, fun k hk => ?_⟩, .inl ⟨rfl, fun i h1 h2 => by omega⟩⟩
    obtain ⟨m, rfl⟩ : ∃ m, k = m + 1 := ⟨k - 1, by omega⟩
    dsimp only
    rw [spec_l17Up.l0, if_neg (by omega)]
  | succ d ih =>
    intro j hj
    have hw := wnext j t.length (by omega) (by omega)
    have start : ∀ k, isUp (t.getD j z23) v = true → spec_l17Up.l0 (k + 1) v (j : Int) t = some (j : Int) := fun k h => by
      unfold isUp at h
      rw [Bool.and_eq_true, Bool.or_eq_true, beq_iff_eq, beq_iff_eq] at h
      rw [spec_l17Up.l0, if_pos (by omega), if_pos (by omega), rdn, inner_f]
      simp only [Option.bind_some]
      rw [if_pos h.1]
      by_cases h2 : (t.getD j z23).f2 = v
      · rw [if_pos h2]
      · rw [if_neg h2, if_pos (h.2.resolve_left h2)]
    have go : ∀ k, isUp (t.getD j z23) v = false → spec_l17Up.l0 (k + 1) v (j : Int) t = spec_l17Up.l0 k v ((j + 1 : Nat) : Int) t := fun k h => by
      unfold isUp at h
      rw [spec_l17Up.l0, if_pos (by omega), if_pos (by omega), rdn, inner_f]
      simp only [Option.bind_some]
      by_cases h1 : innerB (t.getD j z23) = true
      · rw [h1, Bool.true_and, Bool.or_eq_false_iff, beq_eq_false_iff_ne, beq_eq_false_iff_ne] at h
        rw [if_pos h1, if_neg h.1, if_neg h.2, hw]
      · rw [if_neg h1, hw]
    by_cases hu : isUp (t.getD j z23) v = true
    · refine ⟨(j : Int), ⟨1, fun k hk => ?_⟩, .inr ⟨j, rfl, Nat.le_refl _, by omega, hu, fun q h1 h2 => by omega⟩⟩
      obtain ⟨m, rfl⟩ : ∃ m, k = m + 1 := ⟨k - 1, by omega⟩
      exact start m hu
    · have hu := Bool.eq_false_iff.2 hu
      obtain ⟨r, hr, hd⟩ := ih (j + 1) (by omega)
      refine ⟨r, hr.step (fun k => go k hu), ?_⟩
      rcases hd with ⟨e, h⟩ | ⟨i, e, h1, h2, h3, h4⟩
      · exact .inl ⟨e, fun i a b => by
          rcases Nat.eq_or_lt_of_le a with rfl | a
          · exact hu
          · exact h i a b⟩
      · exact .inr ⟨i, e, by omega, h2, h3, fun q a b => by
          rcases Nat.eq_or_lt_of_le a with rfl | a
          · exact hu
          · exact h4 q a b⟩
theorem up (t : List S23) (ht : t.length ≤ 1048576) (v : Int) : ∃ r, Ev (fun k => spec_l17Up.f k t v) r ∧ (r = -1 ∧ (∀ i, i < t.length → isUp (t.getD i z23) v = false) ∨ ∃ i : Nat, r = (i : Int) ∧ i < t.length ∧ isUp (t.getD i z23) v = true ∧ ∀ q, q < i → isUp (t.getD q z23) v = false) := by
  obtain ⟨r, h, hd⟩ := up_loop t ht v t.length 0 (by omega)
  refine ⟨r, h, ?_⟩
  rcases hd with ⟨e, h⟩ | ⟨i, e, _, h2, h3, h4⟩
  · exact .inl ⟨e, fun i a => h i (by omega) a⟩
  · exact .inr ⟨i, e, h2, h3, fun q a => h4 q (by omega) a⟩
theorem level_loop (t : List S23) (ht : t.length ≤ 1048576) : ∀ d (n v : Int), (32 - n).toNat ≤ d → 0 ≤ n → n ≤ 32 → ∃ r, Ev (fun k => spec_LevelOf.l0 k v n t) r ∧ -1 ≤ r ∧ r ≤ 31 := by
  intro d
  induction d with
  | zero =>
    intro n v h h0 h1
    refine ⟨-1, ⟨1, fun k hk => ?_⟩, by omega, by omega⟩
    obtain ⟨m, rfl⟩ : ∃ m, k = m + 1 := ⟨k - 1, by omega⟩
    dsimp only
    rw [spec_LevelOf.l0, if_neg (by omega)]
  | succ d ih =>
    intro n v h h0 h1
    by_cases c : n ≤ 31
    · obtain ⟨u, ⟨K, hu⟩, _⟩ := up t ht v
      by_cases c2 : u < 0
      · refine ⟨n, ⟨K + 1, fun k hk => ?_⟩, by omega, by omega⟩
        obtain ⟨m, rfl⟩ : ∃ m, k = m + 1 := ⟨k - 1, by omega⟩
        dsimp only
        rw [spec_LevelOf.l0, if_pos c, show spec_l17Up.f m t v = some u from hu m (by omega)]
        simp only [Option.bind_some]
        rw [if_pos c2]
      · obtain ⟨r, ⟨K2, hr⟩, hb⟩ := ih (n + 1) u (by omega) (by omega) (by omega)
        refine ⟨r, ⟨max K K2 + 1, fun k hk => ?_⟩, hb⟩
        obtain ⟨m, rfl⟩ : ∃ m, k = m + 1 := ⟨k - 1, by omega⟩
        dsimp only
        rw [spec_LevelOf.l0, if_pos c, show spec_l17Up.f m t v = some u from hu m (by omega)]
        simp only [Option.bind_some]
        rw [if_neg c2, show wrap64 (n + 1) = n + 1 by unfold wrap64; omega]
        exact hr m (by omega)
    · refine ⟨-1, ⟨1, fun k hk => ?_⟩, by omega, by omega⟩
      obtain ⟨m, rfl⟩ : ∃ m, k = m + 1 := ⟨k - 1, by omega⟩
      dsimp only
      rw [spec_LevelOf.l0, if_neg c]
theorem l1in (a lo hi : Int) : spec_l1In.f a lo hi = some (decide (lo ≤ a ∧ a ≤ hi)) := by
  unfold spec_l1In.f
  by_cases h : a ≥ lo
  · rw [if_pos h]; congr 1; rw [decide_eq_decide]; exact ⟨fun x => ⟨h, x⟩, fun x => x.2⟩
  · rw [if_neg h]; congr 1; symm; rw [decide_eq_false_iff_not]; exact fun x => h x.1
theorem level (t : List S23) (ht : t.length ≤ 1048576) (v : Int) : ∃ r, Ev (fun k => spec_LevelOf.f k t v) r ∧ -1 ≤ r ∧ r ≤ 31 := by
  unfold spec_LevelOf.f
  simp only [l1in, Option.bind_some]
  by_cases c : decide (0 ≤ v ∧ v ≤ wrap64 ((t.length : Int) - 1)) = true
  · obtain ⟨r, hr, hb⟩ := level_loop t ht 32 0 v (by omega) (by omega) (by omega)
    exact ⟨r, hr.congr (fun k => by rw [if_pos c]), hb⟩
  · exact ⟨-1, ⟨0, fun k _ => by dsimp only; rw [if_neg c]⟩, by omega, by omega⟩
theorem depth_loop (t : List S23) (ht : t.length ≤ 1048576) : ∀ d j (m : Int), j + d = t.length → ∃ r, Ev (fun k => spec_DepthOf.l0 k m (j : Int) t) r := by
  intro d
  induction d with
  | zero =>
    intro j m hj
    refine ⟨m, 1, fun k hk => ?_⟩
    obtain ⟨q, rfl⟩ : ∃ q, k = q + 1 := ⟨k - 1, by omega⟩
    dsimp only
    rw [spec_DepthOf.l0, if_neg (by omega)]
  | succ d ih =>
    intro j m hj
    obtain ⟨v, ⟨K, hv⟩, _⟩ := level t ht (j : Int)
    obtain ⟨r, K2, hr⟩ := ih (j + 1) (if m > v then m else v) (by omega)
    refine ⟨r, max K K2 + 1, fun k hk => ?_⟩
    obtain ⟨q, rfl⟩ : ∃ q, k = q + 1 := ⟨k - 1, by omega⟩
    dsimp only
    rw [spec_DepthOf.l0, if_pos (by omega), show spec_LevelOf.f q t (j : Int) = some v from hv q (by omega)]
    simp only [Option.bind_some]
    rw [show spec_l1Max.f m v = some (if m > v then m else v) by unfold spec_l1Max.f; split <;> rfl]
    simp only [Option.bind_some]
    rw [wnext j t.length (by omega) (by omega)]
    exact hr q (by omega)
theorem depth (t : List S23) (ht : t.length ≤ 1048576) : ∃ r, Ev (fun k => spec_DepthOf.f k t) r := depth_loop t ht t.length 0 (-1) (by omega)
def Kids (t : List S23) (i : Nat) : Prop := innerB (t.getD i z23) = true → (i : Int) < (t.getD i z23).f2 ∧ (t.getD i z23).f3 = (t.getD i z23).f2 + 1 ∧ (t.getD i z23).f3 < (t.length : Int)
theorem shape_bad (x1 x5 x6 : Int) (t : List S23) (k : Nat) : spec_l17Shape.j1 (k + 1) x1 x5 x6 true t = some false := by rw [spec_l17Shape.j1, if_pos rfl]
theorem shape_loop (t : List S23) (ht : t.length ≤ 1048576) (x1 : Int) : ∀ d j (next : Int), j + d = t.length → 0 ≤ next → next ≤ 2 * j + 1 →
    ∃ b, Ev (fun k => spec_l17Shape.l0 k x1 next (j : Int) t) b ∧ (b = true → next ≤ t.length ∧ ∀ i, j ≤ i → i < t.length → Kids t i) := by
  intro d
  induction d with
  | zero =>
    intro j next hj h0 h1
    refine ⟨next == (t.length : Int), ⟨1, fun k hk => ?_⟩, fun h => ⟨by rw [beq_iff_eq] at h; omega, fun i a b => by omega⟩⟩
    obtain ⟨q, rfl⟩ : ∃ q, k = q + 1 := ⟨k - 1, by omega⟩
    dsimp only
    rw [spec_l17Shape.l0, if_neg (by omega)]
  | succ d ih =>
    intro j next hj h0 h1
    have fail : (∀ k, spec_l17Shape.l0 (k + 2) x1 next (j : Int) t = some false) → ∃ b, Ev (fun k => spec_l17Shape.l0 k x1 next (j : Int) t) b ∧ (b = true → next ≤ t.length ∧ ∀ i, j ≤ i → i < t.length → Kids t i) := fun h =>
      ⟨false, ⟨2, fun k hk => by obtain ⟨q, rfl⟩ : ∃ q, k = q + 2 := ⟨k - 2, by omega⟩; exact h q⟩, fun h => by cases h⟩
    by_cases hi : innerB (t.getD j z23) = true
    · have here := ()
      by_cases c1 : decide (0 ≤ (t.getD j z23).f0 ∧ (t.getD j z23).f0 ≤ wrap64 (x1 - 1)) = true
      · by_cases c2 : decide (-2147483647 ≤ (t.getD j z23).f1 ∧ (t.getD j z23).f1 ≤ 2147483647) = true
        · by_cases c3 : (t.getD j z23).f4 = 0
          · by_cases c4 : (t.getD j z23).f2 = next
            · by_cases c5 : (t.getD j z23).f3 = wrap64 (next + 1)
              · by_cases c6 : (t.getD j z23).f2 ≤ (j : Int)
                · exact fail (fun k => by rw [spec_l17Shape.l0, if_pos (by omega), if_pos (by omega), rdn, inner_f]; simp only [Option.bind_some]; rw [if_pos hi]; simp only [l1in, spec_l6Value.f, Option.bind_some]; rw [if_pos c1, if_pos c2, if_pos c3, if_pos c4, if_pos c5, decide_eq_true c6, shape_bad])
                · obtain ⟨b, ⟨K, hb⟩, hk⟩ := ih (j + 1) (next + 2) (by omega) (by omega) (by omega)
                  refine ⟨b, ⟨K + 2, fun k hk => ?_⟩, fun h => ?_⟩
                  · obtain ⟨q, rfl⟩ : ∃ q, k = q + 2 := ⟨k - 2, by omega⟩
                    dsimp only
                    rw [spec_l17Shape.l0, if_pos (by omega), if_pos (by omega), rdn, inner_f]; simp only [Option.bind_some]; rw [if_pos hi]; simp only [l1in, spec_l6Value.f, Option.bind_some]; rw [if_pos c1, if_pos c2, if_pos c3, if_pos c4, if_pos c5, decide_eq_false c6, spec_l17Shape.j1, if_neg (by decide), wnext j t.length (by omega) (by omega), show wrap64 (next + 2) = next + 2 by unfold wrap64; omega]
                    exact hb q (by omega)
                  · obtain ⟨h2, h3⟩ := hk h
                    have hw : wrap64 (next + 1) = next + 1 := by unfold wrap64; omega
                    refine ⟨by omega, fun i a b => ?_⟩
                    rcases Nat.eq_or_lt_of_le a with rfl | a
                    · intro _; rw [hw] at c5; omega
                    · exact h3 i a b
              · exact fail (fun k => by rw [spec_l17Shape.l0, if_pos (by omega), if_pos (by omega), rdn, inner_f]; simp only [Option.bind_some]; rw [if_pos hi]; simp only [l1in, spec_l6Value.f, Option.bind_some]; rw [if_pos c1, if_pos c2, if_pos c3, if_pos c4, if_neg c5, shape_bad])
            · exact fail (fun k => by rw [spec_l17Shape.l0, if_pos (by omega), if_pos (by omega), rdn, inner_f]; simp only [Option.bind_some]; rw [if_pos hi]; simp only [l1in, spec_l6Value.f, Option.bind_some]; rw [if_pos c1, if_pos c2, if_pos c3, if_neg c4, shape_bad])
          · exact fail (fun k => by rw [spec_l17Shape.l0, if_pos (by omega), if_pos (by omega), rdn, inner_f]; simp only [Option.bind_some]; rw [if_pos hi]; simp only [l1in, spec_l6Value.f, Option.bind_some]; rw [if_pos c1, if_pos c2, if_neg c3, shape_bad])
        · exact fail (fun k => by rw [spec_l17Shape.l0, if_pos (by omega), if_pos (by omega), rdn, inner_f]; simp only [Option.bind_some]; rw [if_pos hi]; simp only [l1in, spec_l6Value.f, Option.bind_some]; rw [if_pos c1, if_neg c2, shape_bad])
      · exact fail (fun k => by rw [spec_l17Shape.l0, if_pos (by omega), if_pos (by omega), rdn, inner_f]; simp only [Option.bind_some]; rw [if_pos hi]; simp only [l1in, spec_l6Value.f, Option.bind_some]; rw [if_neg c1, shape_bad])
    · have here := ()
      by_cases c1 : (!((t.getD j z23).f0 == (-1)) || (!((t.getD j z23).f1 == 0) || (!((t.getD j z23).f2 == 0) || (!((t.getD j z23).f3 == 0))))) = true
      · exact fail (fun k => by rw [spec_l17Shape.l0, if_pos (by omega), if_pos (by omega), rdn, inner_f]; simp only [Option.bind_some]; rw [if_neg hi]; simp only [spec_l14Leaf.f, l1in, Option.bind_some]; rw [if_pos c1])
      · by_cases c2 : decide (-1099511627776 ≤ (t.getD j z23).f4 ∧ (t.getD j z23).f4 ≤ 1099511627776) = true
        · obtain ⟨b, ⟨K, hb⟩, hk⟩ := ih (j + 1) next (by omega) (by omega) (by omega)
          refine ⟨b, ⟨K + 1, fun k hk => ?_⟩, fun h => ?_⟩
          · obtain ⟨q, rfl⟩ : ∃ q, k = q + 1 := ⟨k - 1, by omega⟩
            dsimp only
            rw [spec_l17Shape.l0, if_pos (by omega), if_pos (by omega), rdn, inner_f]; simp only [Option.bind_some]; rw [if_neg hi]; simp only [spec_l14Leaf.f, l1in, Option.bind_some]; rw [if_neg c1, if_pos c2, wnext j t.length (by omega) (by omega)]
            exact hb q (by omega)
          · obtain ⟨h2, h3⟩ := hk h
            refine ⟨h2, fun i a b => ?_⟩
            rcases Nat.eq_or_lt_of_le a with rfl | a
            · intro h4; exact absurd h4 hi
            · exact h3 i a b
        · exact fail (fun k => by rw [spec_l17Shape.l0, if_pos (by omega), if_pos (by omega), rdn, inner_f]; simp only [Option.bind_some]; rw [if_neg hi]; simp only [spec_l14Leaf.f, l1in, Option.bind_some]; rw [if_neg c1, if_neg c2])
theorem shape (t : List S23) (ht : t.length ≤ 1048576) (x1 : Int) : ∃ b, Ev (fun k => spec_l17Shape.f k t x1) b ∧ (b = true → ∀ i, i < t.length → Kids t i) := by
  obtain ⟨b, h, hb⟩ := shape_loop t ht x1 t.length 0 1 (by omega) (by omega) (by omega)
  exact ⟨b, h, fun h2 i hi => (hb h2).2 i (by omega) hi⟩
theorem up_less (t : List S23) (hk : ∀ i, i < t.length → Kids t i) (v : Int) (i : Nat) (hi : i < t.length) (h : isUp (t.getD i z23) v = true) : (i : Int) < v ∧ v < (t.length : Int) := by
  unfold isUp at h
  rw [Bool.and_eq_true, Bool.or_eq_true, beq_iff_eq, beq_iff_eq] at h
  have h1 := h.1
  have h2 := h.2
  have h3 := hk i hi h.1
  omega
theorem ways_way (t : List S23) (ht : t.length ≤ 1048576) (hk : ∀ i, i < t.length → Kids t i) (j : Nat) (hj : j < t.length) (next : ∃ b, Ev (fun k => spec_l17Ways.l0 k (wrap64 ((j : Int) + 1)) t) b) :
    ∀ d (x4 x5 : Int), (x5 + 1).toNat ≤ d → -1 ≤ x5 → x5 < (t.length : Int) → ∃ b, Ev (fun k => spec_l17Ways.l1 k (j : Int) x4 x5 t) b := by
  have hneg : ∀ x4 x5 : Int, x5 < 0 → ∃ b, Ev (fun k => spec_l17Ways.l1 k (j : Int) x4 x5 t) b := by
    intro x4 x5 c
    obtain ⟨b, K, hb⟩ := next
    refine ⟨b, K + 1, fun k hk => ?_⟩
    obtain ⟨q, rfl⟩ : ∃ q, k = q + 1 := ⟨k - 1, by omega⟩
    dsimp only
    rw [spec_l17Ways.l1, if_neg (by omega)]
    exact hb q (by omega)
  intro d
  induction d with
  | zero => intro x4 x5 h h0 _; exact hneg x4 x5 (by omega)
  | succ d ih =>
    intro x4 x5 hd h0 h1
    by_cases c : x5 ≥ 0
    · obtain ⟨p, rfl⟩ := int_nat c
      have head : ∃ bad : Bool, ∀ k, spec_l17Ways.l1 (k + 1) (j : Int) x4 (p : Int) t = if bad = true then some false else ((spec_l17Up.f k t (p : Int)).bind fun u => spec_l17Ways.l1 k (j : Int) (p : Int) u t) :=
        ⟨_, fun k => by rw [spec_l17Ways.l1, if_pos (by omega), if_pos (by omega)]⟩
      obtain ⟨bad, head⟩ := head
      cases bad with
      | true =>
        refine ⟨false, 1, fun k hk => ?_⟩
        obtain ⟨q, rfl⟩ : ∃ q, k = q + 1 := ⟨k - 1, by omega⟩
        dsimp only
        rw [head, if_pos rfl]
      | false =>
        obtain ⟨u, ⟨K, hu⟩, hd2⟩ := up t ht (p : Int)
        have hlt : (u + 1).toNat ≤ d ∧ -1 ≤ u ∧ u < (t.length : Int) := by
          rcases hd2 with ⟨e, _⟩ | ⟨i, e, h2, h3, _⟩
          · omega
          · have := up_less t hk (p : Int) i h2 h3
            omega
        obtain ⟨b, K2, hb⟩ := ih (p : Int) u hlt.1 hlt.2.1 hlt.2.2
        refine ⟨b, max K K2 + 1, fun k hk => ?_⟩
        obtain ⟨q, rfl⟩ : ∃ q, k = q + 1 := ⟨k - 1, by omega⟩
        dsimp only
        rw [head, if_neg (by decide), show spec_l17Up.f q t (p : Int) = some u from hu q (by omega)]
        exact hb q (by omega)
    · exact hneg x4 x5 (by omega)
theorem ways_loop (t : List S23) (ht : t.length ≤ 1048576) (hk : ∀ i, i < t.length → Kids t i) : ∀ d j, j + d = t.length → ∃ b, Ev (fun k => spec_l17Ways.l0 k (j : Int) t) b := by
  intro d
  induction d with
  | zero =>
    intro j hj
    refine ⟨true, 1, fun k hk => ?_⟩
    obtain ⟨q, rfl⟩ : ∃ q, k = q + 1 := ⟨k - 1, by omega⟩
    dsimp only
    rw [spec_l17Ways.l0, if_neg (by omega)]
  | succ d ih =>
    intro j hj
    obtain ⟨b, K, hb⟩ := ih (j + 1) (by omega)
    rw [← wnext j t.length (by omega) (by omega)] at hb
    by_cases hi : innerB (t.getD j z23) = true
    · obtain ⟨u, ⟨K1, hu⟩, hd⟩ := up t ht (j : Int)
      have hlt : -1 ≤ u ∧ u < (t.length : Int) := by
        rcases hd with ⟨e, _⟩ | ⟨i, e, h2, _⟩ <;> omega
      obtain ⟨b2, K2, hb2⟩ := ways_way t ht hk j (by omega) ⟨b, K, hb⟩ (u + 1).toNat (j : Int) u (Nat.le_refl _) hlt.1 hlt.2
      refine ⟨b2, max K1 K2 + 1, fun k hk => ?_⟩
      obtain ⟨q, rfl⟩ : ∃ q, k = q + 1 := ⟨k - 1, by omega⟩
      dsimp only
      rw [spec_l17Ways.l0, if_pos (by omega), if_pos (by omega), rdn, if_pos (show ((t.getD j z23).f0 != (-1)) = true from hi), show spec_l17Up.f q t (j : Int) = some u from hu q (by omega)]
      exact hb2 q (by omega)
    · refine ⟨b, K + 1, fun k hk => ?_⟩
      obtain ⟨q, rfl⟩ : ∃ q, k = q + 1 := ⟨k - 1, by omega⟩
      dsimp only
      rw [spec_l17Ways.l0, if_pos (by omega), if_pos (by omega), rdn, if_neg (show ¬ ((t.getD j z23).f0 != (-1)) = true from hi)]
      exact hb q (by omega)
theorem ways (t : List S23) (ht : t.length ≤ 1048576) (hk : ∀ i, i < t.length → Kids t i) : ∃ b, Ev (fun k => spec_l17Ways.f k t) b := ways_loop t ht hk t.length 0 (by omega)
def Wf (t : List S23) : Prop := 1 ≤ t.length ∧ t.length ≤ 31 ∧ (∀ i, i < t.length → Kids t i) ∧ ∀ x ∈ t, node64 x
theorem tree_ok (t : List S23) (ht : t.length ≤ 1048576) (a : Int) : ∃ b, Ev (fun k => spec_TreeOk.f k t a) b ∧ (b = true → 1 ≤ t.length ∧ t.length ≤ 31 ∧ ∀ i, i < t.length → Kids t i) := by
  unfold spec_TreeOk.f
  simp only [l1in, Option.bind_some]
  by_cases c1 : decide (1 ≤ (t.length : Int) ∧ (t.length : Int) ≤ 31) = true
  · have c1' := of_decide_eq_true c1
    by_cases c2 : decide (0 ≤ a ∧ a ≤ 4) = true
    · obtain ⟨b1, ⟨K1, e1⟩, h1⟩ := shape t ht a
      cases b1 with
      | false =>
        refine ⟨false, ⟨K1, fun k hk => ?_⟩, fun h => by cases h⟩
        dsimp only
        rw [if_pos c1, if_pos c2, show spec_l17Shape.f k t a = some false from e1 k hk]
        rfl
      | true =>
        obtain ⟨d, K2, e2⟩ := depth t ht
        obtain ⟨b3, K3, e3⟩ := ways t ht (h1 rfl)
        by_cases c3 : d ≤ 4
        · refine ⟨b3, ⟨max K1 (max K2 K3), fun k hk => ?_⟩, fun _ => ⟨by omega, by omega, h1 rfl⟩⟩
          dsimp only
          rw [if_pos c1, if_pos c2, show spec_l17Shape.f k t a = some true from e1 k (by omega)]
          simp only [Option.bind_some, if_true]
          rw [show spec_DepthOf.f k t = some d from e2 k (by omega)]
          simp only [Option.bind_some]
          rw [if_pos c3, show spec_l17Ways.f k t = some b3 from e3 k (by omega)]
          rfl
        · refine ⟨false, ⟨max K1 K2, fun k hk => ?_⟩, fun h => by cases h⟩
          dsimp only
          rw [if_pos c1, if_pos c2, show spec_l17Shape.f k t a = some true from e1 k (by omega)]
          simp only [Option.bind_some, if_true]
          rw [show spec_DepthOf.f k t = some d from e2 k (by omega)]
          simp only [Option.bind_some]
          rw [if_neg c3]
    · exact ⟨false, ⟨0, fun k _ => by dsimp only; rw [if_pos c1, if_neg c2]⟩, fun h => by cases h⟩
  · exact ⟨false, ⟨0, fun k _ => by dsimp only; rw [if_neg c1]⟩, fun h => by cases h⟩
theorem tree_ok' (t : List S23) (ht : t.length ≤ 17179869184) (a : Int) : ∃ b, Ev (fun k => spec_TreeOk.f k t a) b ∧ (b = true → 1 ≤ t.length ∧ t.length ≤ 31 ∧ ∀ i, i < t.length → Kids t i) := by
  by_cases h : t.length ≤ 1048576
  · exact tree_ok t h a
  · refine ⟨false, ⟨0, fun k _ => ?_⟩, fun h => by cases h⟩
    unfold spec_TreeOk.f
    simp only [l1in, Option.bind_some]
    rw [if_neg (by simp; omega)]
def wt (n : Nat) (v : Int) : Nat := 2 ^ (n + 1 - v.toNat) - 1
def pend (n : Nat) (row : List Int) (j : Nat) : Nat := ((row.drop j).map (wt n)).sum
theorem wt_kids (n : Nat) (v a b : Int) (h0 : 0 ≤ v) (ha : v < a) (hb : v < b) (hv : v < (n : Int)) : wt n a + wt n b + 1 ≤ wt n v := by
  unfold wt
  have h1 : n + 1 - a.toNat ≤ n - v.toNat := by omega
  have h2 : n + 1 - b.toNat ≤ n - v.toNat := by omega
  have h3 : n + 1 - v.toNat = (n - v.toNat) + 1 := by omega
  have p1 := Nat.pow_le_pow_right (n := 2) (by omega) h1
  have p2 := Nat.pow_le_pow_right (n := 2) (by omega) h2
  have p3 : 2 ^ (n - v.toNat + 1) = 2 ^ (n - v.toNat) * 2 := Nat.pow_succ ..
  have p4 : 1 ≤ 2 ^ (n + 1 - a.toNat) := Nat.one_le_two_pow
  have p5 : 1 ≤ 2 ^ (n + 1 - b.toNat) := Nat.one_le_two_pow
  rw [h3, p3]
  omega
theorem wt_pos (n : Nat) (v : Int) (h0 : 0 ≤ v) (hv : v < (n : Int)) : 1 ≤ wt n v := by
  unfold wt
  have : 2 ^ 1 ≤ 2 ^ (n + 1 - v.toNat) := Nat.pow_le_pow_right (by omega) (by omega)
  omega
theorem pend_step (n : Nat) (row : List Int) (j : Nat) (h : j < row.length) : pend n row j = wt n (row.getD j 0) + pend n row (j + 1) := by
  unfold pend
  rw [List.drop_eq_getElem_cons h, List.map_cons, List.sum_cons, List.getD_eq_getElem?_getD, List.getElem?_eq_getElem h]; rfl
theorem pend_append (n : Nat) (row : List Int) (a b : Int) (j : Nat) (h : j ≤ row.length) : pend n (row ++ [a, b]) j = pend n row j + (wt n a + wt n b) := by
  unfold pend
  rw [List.drop_append_of_le_length h, List.map_append, List.sum_append]; simp
theorem pend_len (n : Nat) (row : List Int) (hr : ∀ v ∈ row, 0 ≤ v ∧ v < (n : Int)) (j : Nat) : row.length - j ≤ pend n row j := by
  unfold pend
  have : ∀ l : List Int, (∀ v ∈ l, 0 ≤ v ∧ v < (n : Int)) → l.length ≤ (l.map (wt n)).sum := by
    intro l
    induction l with
    | nil => intro _; simp
    | cons x l ih =>
      intro h
      have h1 := ih (fun v hv => h v (List.mem_cons_of_mem _ hv))
      have h2 := wt_pos n x (h x (List.mem_cons_self ..)).1 (h x (List.mem_cons_self ..)).2
      simp only [List.length_cons, List.map_cons, List.sum_cons]; omega
  have h2 := this (row.drop j) (fun v hv => hr v (List.mem_of_mem_drop hv))
  rw [List.length_drop] at h2
  exact h2
def WfKids (t : List S23) : Prop := ∀ i, i < t.length → innerB (t.getD i z23) = true → (i : Int) < (t.getD i z23).f2 ∧ (t.getD i z23).f2 < (t.length : Int) ∧ (i : Int) < (t.getD i z23).f3 ∧ (t.getD i z23).f3 < (t.length : Int)
theorem levels_loop (t : List S23) (hk : WfKids t) (h64 : ∀ x ∈ t, node64 x) (ht : t.length ≤ 33) : ∀ d (row : List Int) (next : Int) (j : Nat) (out : List S23), pend t.length row j ≤ d → j + d ≤ 17179869184 → j ≤ row.length → out.length = j → (∀ v ∈ row, 0 ≤ v ∧ v < (t.length : Int)) → int64B next → (∀ x ∈ out, node64 x) →
    ∃ r, Ev (fun k => spec_l17Levels.l0 k t row next (j : Int) out) r ∧ (∀ x ∈ r, node64 x) ∧ r.length ≤ 17179869184 := by
  intro d
  induction d with
  | zero =>
    intro row next j out hp hd hj ho hr hn h64o
    have : row.length - j ≤ pend t.length row j := pend_len _ _ hr j
    refine ⟨out, ⟨1, fun k hk => ?_⟩, h64o, by omega⟩
    obtain ⟨q, rfl⟩ : ∃ q, k = q + 1 := ⟨k - 1, by omega⟩
    dsimp only
    rw [spec_l17Levels.l0, if_neg (by omega)]
  | succ d ih =>
    intro row next j out hp hd hj ho hr hn h64o
    have hd' : j + 1 + d ≤ 17179869184 := by omega
    have hcap : out.length < 3518437208883 := by omega
    have hlen : row.length - j ≤ pend t.length row j := pend_len _ _ hr j
    have hcap2 : row.length + 2 < 17592186044416 := by omega
    have hfin : row.length ≤ 17179869184 := by omega
    have hw : wrap64 ((j : Int) + 1) = ((j + 1 : Nat) : Int) := by unfold wrap64; omega
    by_cases c : j < row.length
    · have hc' : j + 1 ≤ row.length := c
      have hv := hr (row.getD j 0) (by rw [List.getD_eq_getElem?_getD, List.getElem?_eq_getElem c]; exact List.getElem_mem _)
      obtain ⟨i, hi⟩ := int_nat hv.1
      have hs := pend_step t.length row j c
      have hx := getD64 t h64 i
      rw [hi] at hv hs
      have hpos := wt_pos t.length (i : Int) hv.1 hv.2
      by_cases hin : innerB (t.getD i z23) = true
      · obtain ⟨k1, k2, k3, k4⟩ := hk i (Int.ofNat_lt.1 hv.2) hin
        have hkid := wt_kids t.length (i : Int) _ _ hv.1 k1 k3 hv.2
        obtain ⟨r, hr1, hr2, hr3⟩ := ih (row ++ [(t.getD i z23).f2, (t.getD i z23).f3]) (wrap64 (next + 2)) (j + 1) (out ++ [⟨(t.getD i z23).f0, (t.getD i z23).f1, next, wrap64 (next + 1), (t.getD i z23).f4⟩])
          (by rw [pend_append _ _ _ _ _ hc']; omega) hd' (by rw [List.length_append]; exact Nat.le_trans hc' (Nat.le_add_right _ _)) (by simp [ho]) (fun v hv2 => by
            rcases List.mem_append.1 hv2 with h | h
            · exact hr v h
            · simp only [List.mem_cons, List.not_mem_nil, or_false] at h
              rcases h with rfl | rfl
              · exact ⟨Int.le_of_lt (Int.lt_of_le_of_lt hv.1 k1), k2⟩
              · exact ⟨Int.le_of_lt (Int.lt_of_le_of_lt hv.1 k3), k4⟩) (wrap64_B' _) (fun x hx2 => by
            rcases List.mem_append.1 hx2 with h | h
            · exact h64o x h
            · rw [List.mem_singleton.1 h]; exact ⟨hx.1, hx.2.1, hn, wrap64_B' _, hx.2.2.2.2⟩)
        refine ⟨r, hr1.step (fun k => ?_), hr2, hr3⟩
        rw [spec_l17Levels.l0, if_pos (Int.ofNat_lt.2 c), if_pos (Int.natCast_nonneg j), rd_nat, hi, if_pos hv.1, if_pos hv.2, rdn, inner_f]; simp only [Option.bind_some]; rw [if_pos hin, if_pos (show row.length + [(t.getD i z23).f2, (t.getD i z23).f3].length < _ from hcap2), if_pos hcap, hw]
      · obtain ⟨r, hr1, hr2, hr3⟩ := ih row next (j + 1) (out ++ [⟨(t.getD i z23).f0, (t.getD i z23).f1, (t.getD i z23).f2, (t.getD i z23).f3, (t.getD i z23).f4⟩]) (by omega) hd' hc' (by simp [ho]) hr hn (fun x hx2 => by
            rcases List.mem_append.1 hx2 with h | h
            · exact h64o x h
            · rw [List.mem_singleton.1 h]; exact hx)
        refine ⟨r, hr1.step (fun k => ?_), hr2, hr3⟩
        rw [spec_l17Levels.l0, if_pos (Int.ofNat_lt.2 c), if_pos (Int.natCast_nonneg j), rd_nat, hi, if_pos hv.1, if_pos hv.2, rdn, inner_f]; simp only [Option.bind_some]; rw [if_neg hin, if_pos hcap, hw]
    · refine ⟨out, ⟨1, fun k hk => ?_⟩, h64o, by omega⟩
      obtain ⟨q, rfl⟩ : ∃ q, k = q + 1 := ⟨k - 1, by omega⟩
      dsimp only
      rw [spec_l17Levels.l0, if_neg (by omega)]
theorem levels (t : List S23) (hk : WfKids t) (h64 : ∀ x ∈ t, node64 x) (h0 : 1 ≤ t.length) (ht : t.length ≤ 33) : ∃ r, Ev (fun k => spec_l17Levels.f k t) r ∧ (∀ x ∈ r, node64 x) ∧ r.length ≤ 17179869184 := by
  have hw : wt t.length 0 ≤ 17179869183 := by
    unfold wt
    have : 2 ^ (t.length + 1 - (0 : Int).toNat) ≤ 2 ^ 34 := Nat.pow_le_pow_right (by omega) (by simp; omega)
    omega
  exact levels_loop t hk h64 ht (wt t.length 0) [0] 1 0 [] (by simp [pend]) (by omega) (by simp) rfl (fun v hv => by have := List.mem_singleton.1 hv; omega) (by unfold int64B; omega) (by simp)
theorem getD_append_l {α : Type} (a b : List α) (j : Nat) (h : j < a.length) (d : α) : (a ++ b).getD j d = a.getD j d := by
  rw [List.getD_eq_getElem?_getD, List.getD_eq_getElem?_getD, List.getElem?_append_left h]
theorem grown (t : List S23) (ht : Wf t) (a1 f c a b : Int) (h0 : 0 ≤ a1) (h1 : a1 < (t.length : Int)) (hf : 0 ≤ f) (hf2 : int64B f) (hc : int64B c) (ha : int64B a) (hb : int64B b) (u v w : Int) :
    ∃ r, Ev (fun k => spec_l17Grown.f k t a1 f c u v w a b) r ∧ (∀ x ∈ r, node64 x) ∧ r.length ≤ 17179869184 := by
  obtain ⟨l1, l2, hk, h64⟩ := ht
  obtain ⟨i, rfl⟩ := int_nat h0
  have hB : int64B (t.length : Int) := by unfold int64B; omega
  have hm1 : int64B (-1) := by unfold int64B; omega
  have hz : int64B 0 := by unfold int64B; omega
  have hw : wrap64 ((t.length : Int) + 1) = (t.length : Int) + 1 := by unfold wrap64; omega
  have hs := set64 t h64 i ⟨f, c, (t.length : Int), wrap64 ((t.length : Int) + 1), 0⟩ ⟨hf2, hc, hB, wrap64_B' _, hz⟩
  have h64n : ∀ x ∈ t.set i ⟨f, c, (t.length : Int), wrap64 ((t.length : Int) + 1), 0⟩ ++ [⟨-1, 0, 0, 0, a⟩, ⟨-1, 0, 0, 0, b⟩], node64 x := by
    intro x hx
    rcases List.mem_append.1 hx with h | h
    · exact hs x h
    · simp only [List.mem_cons, List.not_mem_nil, or_false] at h
      rcases h with rfl | rfl
      · exact ⟨hm1, hz, hz, hz, ha⟩
      · exact ⟨hm1, hz, hz, hz, hb⟩
  have hlen : (t.set i ⟨f, c, (t.length : Int), wrap64 ((t.length : Int) + 1), 0⟩).length = t.length := List.length_set ..
  have hlen2 : (t.set i ⟨f, c, (t.length : Int), wrap64 ((t.length : Int) + 1), 0⟩ ++ [(⟨-1, 0, 0, 0, a⟩ : S23), ⟨-1, 0, 0, 0, b⟩]).length = t.length + 2 := by rw [List.length_append, hlen]; rfl
  have hkids : WfKids (t.set i ⟨f, c, (t.length : Int), wrap64 ((t.length : Int) + 1), 0⟩ ++ [⟨-1, 0, 0, 0, a⟩, ⟨-1, 0, 0, 0, b⟩]) := by
    intro q hq hin
    rw [hlen2] at hq ⊢
    by_cases c1 : q < t.length
    · rw [getD_append_l _ _ _ (by omega)] at hin ⊢
      rw [List.getD_eq_getElem?_getD, List.getElem?_set] at hin ⊢
      by_cases c2 : i = q
      · subst c2
        rw [if_pos rfl, if_pos (by omega)] at hin ⊢
        simp only [Option.getD_some]
        rw [hw]
        omega
      · rw [if_neg c2] at hin ⊢
        rw [← List.getD_eq_getElem?_getD] at hin ⊢
        have := hk q c1 hin
        omega
    · exfalso
      rw [List.getD_eq_getElem?_getD, List.getElem?_append_right (by omega), hlen] at hin
      have : q - t.length = 0 ∨ q - t.length = 1 := by omega
      rcases this with e | e <;> rw [e] at hin <;> simp [innerB] at hin
  obtain ⟨r, hr, h2, h3⟩ := levels _ hkids h64n (by omega) (by omega)
  refine ⟨r, hr.congr (fun k => ?_), h2, h3⟩
  unfold spec_l17Grown.f
  simp only [Option.bind_some, List.length_nil, List.nil_append]
  rw [if_pos (by omega), if_pos h0, if_pos h1, if_pos (by rw [Int.toNat_natCast, hlen]; show _ + 2 < _; omega), Int.toNat_natCast]
  cases spec_l17Levels.f k (t.set i ⟨f, c, (t.length : Int), wrap64 ((t.length : Int) + 1), 0⟩ ++ [⟨-1, 0, 0, 0, a⟩, ⟨-1, 0, 0, 0, b⟩]) <;> rfl
theorem one_leaf (v : Int) (hv : int64B v) : Wf [⟨-1, 0, 0, 0, v⟩] := by
  have hm1 : int64B (-1) := by unfold int64B; omega
  have hz : int64B 0 := by unfold int64B; omega
  refine ⟨by simp, by simp, fun i hi h => ?_, fun x hx => by rw [List.mem_singleton.1 hx]; exact ⟨hm1, hz, hz, hz, hv⟩⟩
  have : i = 0 := by simp at hi; exact hi
  subst this
  simp [innerB] at h
theorem wf_leaf (t : List S23) (ht : Wf t) : ∃ i, i < t.length ∧ innerB (t.getD i z23) = false := by
  obtain ⟨l1, l2, hk, _⟩ := ht
  refine ⟨t.length - 1, by omega, ?_⟩
  cases h : innerB (t.getD (t.length - 1) z23) with
  | false => rfl
  | true => have := hk (t.length - 1) (by omega) h; omega
theorem right_loop (l : List Int) (x1 : Int) (hx1 : 0 < x1) (hx2 : x1 ≤ 1000) (x6 : Int) (h6 : x6 ≤ 1000) : ∀ d (x7 i h : Int) (t : List S23), (x6 - x7).toNat ≤ d → 0 ≤ x7 → At l i → Wf t →
    ∃ t' i' h', Ev (fun k => spec_l17Right.l0 k x1 x6 x7 l i h t) (t', i', h') ∧ At l i' ∧ Wf t' := by
  intro d
  induction d with
  | zero =>
    intro x7 i h t hd h0 ha ht
    refine ⟨t, i, h, ⟨1, fun k hk => ?_⟩, ha, ht⟩
    obtain ⟨q, rfl⟩ : ∃ q, k = q + 1 := ⟨k - 1, by omega⟩
    dsimp only
    rw [spec_l17Right.l0, if_neg (by omega)]
  | succ d ih =>
    intro x7 i h t hd h0 ha ht
    by_cases c : x7 < x6
    · obtain ⟨lv, ⟨K1, e1⟩, hl1, hl2, hl3⟩ := leaves t (by have := ht.2.1; omega)
      have hne := hl3 (wf_leaf t ht)
      have hpos : 0 < (lv.length : Int) := by
        cases lv with
        | nil => exact absurd rfl hne
        | cons _ _ => simp
      obtain ⟨b1, i1, h1, e2, p1, q1, a1⟩ := draw_below l i h (lv.length : Int) ha
      have q1 := q1 hpos
      obtain ⟨b2, i2, h2, e3, p2, q2, a2⟩ := draw_below l i1 h1 x1 a1
      obtain ⟨b3, i3, h3, e4, p3, q3, a3⟩ := draw_below l i2 h2 9 a2
      obtain ⟨b4, i4, h4, e5, p4, q4, a4⟩ := draw_below l i3 h3 2001 a3
      obtain ⟨b5, i5, h5, e6, p5, q5, a5⟩ := draw_below l i4 h4 2001 a4
      have hq2 := q2 hx1
      obtain ⟨j, rfl⟩ := int_nat p1
      have hmem := hl1 (lv.getD j 0) (by rw [List.getD_eq_getElem?_getD, List.getElem?_eq_getElem (by omega)]; exact List.getElem_mem _)
      obtain ⟨g, ⟨K2, e7⟩, hg1, hg2⟩ := grown t ht (lv.getD j 0) b2 (wrap64 (500 * (wrap64 (b3 - 4)))) (wrap64 (b4 - 1000)) (wrap64 (b5 - 1000)) hmem.1 hmem.2 p2 (by unfold int64B; omega) (wrap64_B' _) (wrap64_B' _) (wrap64_B' _) 0 0 0
      have head : ∀ k, max K1 K2 ≤ k → spec_l17Right.l0 (k + 1) x1 x6 x7 l i h t = (spec_TreeOk.f k g x1).bind fun t245 => (if t245 = true then (spec_l17Right.l0 k x1 x6 (wrap64 (x7 + 1)) l i5 h5 g) else (spec_l17Right.l0 k x1 x6 (wrap64 (x7 + 1)) l i5 h5 t)) := fun k hk => by
        rw [spec_l17Right.l0, if_pos c, show spec_LeavesOf.f k t = some lv from e1 k (by omega)]
        simp only [Option.bind_some]
        rw [e2]
        simp only [Option.bind_some]
        rw [if_pos p1, if_pos q1, e3]
        simp only [Option.bind_some]
        rw [e4]
        simp only [Option.bind_some]
        rw [e5]
        simp only [Option.bind_some]
        rw [e6]
        simp only [Option.bind_some]
        rw [rd_nat, show spec_l17Grown.f k t (lv.getD j 0) b2 (wrap64 (500 * (wrap64 (b3 - 4)))) 0 0 0 (wrap64 (b4 - 1000)) (wrap64 (b5 - 1000)) = some g from e7 k (by omega)]
        simp only [Option.bind_some]
      have hw : wrap64 (x7 + 1) = x7 + 1 := by unfold wrap64; omega
      obtain ⟨ok, ⟨K3, e8⟩, hok⟩ := tree_ok' g hg2 x1
      cases ok with
      | true =>
        obtain ⟨g1, g2, g3⟩ := hok rfl
        obtain ⟨t', i', h', ⟨K4, e9⟩, ha', ht'⟩ := ih (x7 + 1) i5 h5 g (by omega) (by omega) a5 ⟨g1, g2, g3, hg1⟩
        refine ⟨t', i', h', ⟨max (max K1 K2) (max K3 K4) + 1, fun k hk => ?_⟩, ha', ht'⟩
        obtain ⟨q, rfl⟩ : ∃ q, k = q + 1 := ⟨k - 1, by omega⟩
        dsimp only
        rw [head q (by omega), show spec_TreeOk.f q g x1 = some true from e8 q (by omega)]
        simp only [Option.bind_some, if_true]
        rw [hw]
        exact e9 q (by omega)
      | false =>
        obtain ⟨t', i', h', ⟨K4, e9⟩, ha', ht'⟩ := ih (x7 + 1) i5 h5 t (by omega) (by omega) a5 ht
        refine ⟨t', i', h', ⟨max (max K1 K2) (max K3 K4) + 1, fun k hk => ?_⟩, ha', ht'⟩
        obtain ⟨q, rfl⟩ : ∃ q, k = q + 1 := ⟨k - 1, by omega⟩
        dsimp only
        rw [head q (by omega), show spec_TreeOk.f q g x1 = some false from e8 q (by omega)]
        simp only [Option.bind_some]
        rw [if_neg (by decide), hw]
        exact e9 q (by omega)
    · refine ⟨t, i, h, ⟨1, fun k hk => ?_⟩, ha, ht⟩
      obtain ⟨q, rfl⟩ : ∃ q, k = q + 1 := ⟨k - 1, by omega⟩
      dsimp only
      rw [spec_l17Right.l0, if_neg c]
theorem draw_right (l : List Int) (i h a1 : Int) (ha : At l i) (h1 : 0 < a1) (h2 : a1 ≤ 1000) : ∃ t i' h', Ev (fun k => spec_l17Right.f k l i h a1) (t, i', h') ∧ At l i' ∧ Wf t := by
  obtain ⟨b1, i1, h1', e1, p1, q1, a1'⟩ := draw_below l i h 21 ha
  obtain ⟨b2, i2, h2', e2, p2, q2, a2'⟩ := draw_below l i1 h1' 6 a1'
  have := q2 (by omega)
  obtain ⟨t, i', h', hr, hA, hW⟩ := right_loop l a1 h1 h2 b2 (by omega) 1000 0 i2 h2' [⟨-1, 0, 0, 0, wrap64 (50 * (wrap64 (b1 - 10)))⟩] (by omega) (by omega) a2' (one_leaf _ (wrap64_B' _))
  refine ⟨t, i', h', hr.congr (fun k => ?_), hA, hW⟩
  unfold spec_l17Right.f spec_OneLeaf.f
  rw [e1]
  simp only [Option.bind_some]
  rw [e2]
  simp only [Option.bind_some]
theorem pick_int (l : List Int) (i h : Int) (xs : List Int) (ha : At l i) (hx : 1 ≤ xs.length) : ∃ v i' h', spec_l1PickInt.f l i h xs = some (v, i', h') ∧ v ∈ xs ∧ At l i' := by
  obtain ⟨b, i1, h1, e, p, q, a⟩ := draw_below l i h (xs.length : Int) ha
  have hq := q (by omega)
  obtain ⟨j, rfl⟩ := int_nat p
  refine ⟨xs.getD j 0, i1, h1, ?_, ?_, a⟩
  · unfold spec_l1PickInt.f
    rw [e]
    simp only [Option.bind_some]
    rw [if_pos p, if_pos hq, rd_nat]
  · rw [List.getD_eq_getElem?_getD, List.getElem?_eq_getElem (by omega)]; exact List.getElem_mem _
theorem draw_bent (l : List Int) (i h : Int) (ha : At l i) : ∃ t i' h', Ev (fun k => spec_l17Bent.f k l i h) (t, i', h') ∧ At l i' ∧ (∀ x ∈ t, node64 x) ∧ t.length ≤ 32 := by
  obtain ⟨b1, i1, h1, e1, p1, q1, a1⟩ := draw_below l i h 3 ha
  have r1 := q1 (by omega)
  have hw : wrap64 (1 + b1) = 1 + b1 := by unfold wrap64; omega
  obtain ⟨t, i2, h2, ⟨K, e2⟩, a2, hW⟩ := draw_right l i1 h1 (1 + b1) a1 (by omega) (by omega)
  obtain ⟨l1, l2, hk, h64⟩ := hW
  obtain ⟨b3, i3, h3, e3, p3, q3, a3⟩ := draw_below l i2 h2 (t.length : Int) a2
  have r3 := q3 (by omega)
  obtain ⟨b4, i4, h4, e4, p4, q4, a4⟩ := draw_below l i3 h3 14 a3
  have r4 := q4 (by omega)
  have hx := getD64 t h64 b3.toNat
  have hrd : rd_T23 t b3 = t.getD b3.toNat z23 := rfl
  have big : ∀ v : Int, v ∈ ([(-1), 0, 1, 4, (-2), 9223372036854775807] : List Int) ∨ v ∈ ([0, 1, 2147483648, (-2147483648), 500] : List Int) ∨ v ∈ ([0, 1, 2, (-1), 40, b3] : List Int) ∨ v ∈ ([0, 1, 1099511627776, 1099511627777, (-1099511627777)] : List Int) → int64B v := by
    intro v hv
    simp only [List.mem_cons, List.not_mem_nil, or_false] at hv
    unfold int64B
    omega
  have sets : ∀ (v : S23) (i' h' : Int), node64 v → At l i' → (∀ k, K ≤ k → spec_l17Bent.f k l i h = some (t.set b3.toNat v, i', h')) → ∃ t i' h', Ev (fun k => spec_l17Bent.f k l i h) (t, i', h') ∧ At l i' ∧ (∀ x ∈ t, node64 x) ∧ t.length ≤ 32 :=
    fun v i' h' hv hA hE => ⟨_, i', h', ⟨K, hE⟩, hA, set64 t h64 _ v hv, by rw [List.length_set]; omega⟩
  by_cases c0 : b4 = 0
  · obtain ⟨v, i', h', e5, hm, hA⟩ := pick_int l i4 h4 [(-1), 0, 1, 4, (-2), 9223372036854775807] a4 (by simp)
    exact sets ⟨v, _, _, _, _⟩ i' h' ⟨big v (.inl hm), hx.2⟩ hA (fun k hk => by rw [spec_l17Bent.f, e1]; simp only [Option.bind_some]; rw [hw, show spec_l17Right.f k l i1 h1 (1 + b1) = some (t, i2, h2) from e2 k hk]; simp only [Option.bind_some]; rw [e3]; simp only [Option.bind_some]; rw [e4]; simp only [Option.bind_some]; rw [if_pos c0, e5]; simp only [Option.bind_some]; rw [if_pos p3, if_pos r3, hrd])
  · by_cases c1 : b4 = 1
    · obtain ⟨v, i', h', e5, hm, hA⟩ := pick_int l i4 h4 [0, 1, 2147483648, (-2147483648), 500] a4 (by simp)
      exact sets ⟨_, v, _, _, _⟩ i' h' ⟨hx.1, big v (.inr (.inl hm)), hx.2.2⟩ hA (fun k hk => by rw [spec_l17Bent.f, e1]; simp only [Option.bind_some]; rw [hw, show spec_l17Right.f k l i1 h1 (1 + b1) = some (t, i2, h2) from e2 k hk]; simp only [Option.bind_some]; rw [e3]; simp only [Option.bind_some]; rw [e4]; simp only [Option.bind_some]; rw [if_neg c0, if_pos c1, e5]; simp only [Option.bind_some]; rw [if_pos p3, if_pos r3, hrd])
    · by_cases c2 : b4 = 2
      · obtain ⟨v, i', h', e5, hm, hA⟩ := pick_int l i4 h4 [0, 1, 2, (-1), 40, b3] a4 (by simp)
        exact sets ⟨_, _, v, _, _⟩ i' h' ⟨hx.1, hx.2.1, big v (.inr (.inr (.inl hm))), hx.2.2.2⟩ hA (fun k hk => by rw [spec_l17Bent.f, e1]; simp only [Option.bind_some]; rw [hw, show spec_l17Right.f k l i1 h1 (1 + b1) = some (t, i2, h2) from e2 k hk]; simp only [Option.bind_some]; rw [e3]; simp only [Option.bind_some]; rw [e4]; simp only [Option.bind_some]; rw [if_neg c0, if_neg c1, if_pos c2, e5]; simp only [Option.bind_some]; rw [if_pos p3, if_pos r3, hrd])
      · by_cases c3 : b4 = 3
        · obtain ⟨v, i', h', e5, hm, hA⟩ := pick_int l i4 h4 [0, 1, 2, (-1), 40, b3] a4 (by simp)
          exact sets ⟨_, _, _, v, _⟩ i' h' ⟨hx.1, hx.2.1, hx.2.2.1, big v (.inr (.inr (.inl hm))), hx.2.2.2.2⟩ hA (fun k hk => by rw [spec_l17Bent.f, e1]; simp only [Option.bind_some]; rw [hw, show spec_l17Right.f k l i1 h1 (1 + b1) = some (t, i2, h2) from e2 k hk]; simp only [Option.bind_some]; rw [e3]; simp only [Option.bind_some]; rw [e4]; simp only [Option.bind_some]; rw [if_neg c0, if_neg c1, if_neg c2, if_pos c3, e5]; simp only [Option.bind_some]; rw [if_pos p3, if_pos r3, hrd])
        · by_cases c4 : b4 = 4
          · obtain ⟨v, i', h', e5, hm, hA⟩ := pick_int l i4 h4 [0, 1, 1099511627776, 1099511627777, (-1099511627777)] a4 (by simp)
            exact sets ⟨_, _, _, _, v⟩ i' h' ⟨hx.1, hx.2.1, hx.2.2.1, hx.2.2.2.1, big v (.inr (.inr (.inr hm)))⟩ hA (fun k hk => by rw [spec_l17Bent.f, e1]; simp only [Option.bind_some]; rw [hw, show spec_l17Right.f k l i1 h1 (1 + b1) = some (t, i2, h2) from e2 k hk]; simp only [Option.bind_some]; rw [e3]; simp only [Option.bind_some]; rw [e4]; simp only [Option.bind_some]; rw [if_neg c0, if_neg c1, if_neg c2, if_neg c3, if_pos c4, e5]; simp only [Option.bind_some]; rw [if_pos p3, if_pos r3, hrd])
          · by_cases c5 : b4 = 5
            · have hm1 : int64B (-1) := by unfold int64B; omega
              have hz : int64B 0 := by unfold int64B; omega
              refine ⟨t ++ [⟨-1, 0, 0, 0, 0⟩], i4, h4, ⟨K, fun k hk => ?_⟩, a4, fun x hx2 => ?_, by simp; omega⟩
              · dsimp only
                rw [spec_l17Bent.f, e1]; simp only [Option.bind_some]; rw [hw, show spec_l17Right.f k l i1 h1 (1 + b1) = some (t, i2, h2) from e2 k hk]; simp only [Option.bind_some]; rw [e3]; simp only [Option.bind_some]; rw [e4]; simp only [Option.bind_some]; rw [if_neg c0, if_neg c1, if_neg c2, if_neg c3, if_neg c4, if_pos c5, if_pos (by omega)]
              · rcases List.mem_append.1 hx2 with h' | h'
                · exact h64 x h'
                · rw [List.mem_singleton.1 h']; exact ⟨hm1, hz, hz, hz, hz⟩
            · by_cases c6 : b4 = 6
              · refine ⟨t.take b3.toNat, i4, h4, ⟨K, fun k hk => ?_⟩, a4, fun x hx2 => h64 x (List.mem_of_mem_take hx2), by rw [List.length_take]; omega⟩
                dsimp only
                rw [spec_l17Bent.f, e1]; simp only [Option.bind_some]; rw [hw, show spec_l17Right.f k l i1 h1 (1 + b1) = some (t, i2, h2) from e2 k hk]; simp only [Option.bind_some]; rw [e3]; simp only [Option.bind_some]; rw [e4]; simp only [Option.bind_some]; rw [if_neg c0, if_neg c1, if_neg c2, if_neg c3, if_neg c4, if_neg c5, if_pos c6, if_pos p3, if_pos (by omega)]
              · refine ⟨t, i4, h4, ⟨K, fun k hk => ?_⟩, a4, h64, by omega⟩
                dsimp only
                rw [spec_l17Bent.f, e1]; simp only [Option.bind_some]; rw [hw, show spec_l17Right.f k l i1 h1 (1 + b1) = some (t, i2, h2) from e2 k hk]; simp only [Option.bind_some]; rw [e3]; simp only [Option.bind_some]; rw [e4]; simp only [Option.bind_some]; rw [if_neg c0, if_neg c1, if_neg c2, if_neg c3, if_neg c4, if_neg c5, if_neg c6]
theorem draw_node (l : List Int) (i h : Int) (ha : At l i) : ∃ f c a b v i' h', Ev (fun k => spec_l25Node.f k l i h) (f, c, a, b, v, i', h') ∧ node64 ⟨f, c, a, b, v⟩ ∧ At l i' := by
  obtain ⟨t, i1, h1, ⟨K, e1⟩, a1, h64, hl⟩ := draw_bent l i h ha
  by_cases c0 : (t.length : Int) = 0
  · refine ⟨-1, 0, 0, 0, 0, i1, h1, ⟨K, fun k hk => ?_⟩, ⟨m1_B, zero_B, zero_B, zero_B, zero_B⟩, a1⟩
    dsimp only
    rw [spec_l25Node.f, show spec_l17Bent.f k l i h = some (t, i1, h1) from e1 k hk]
    simp only [Option.bind_some]
    rw [if_pos c0]
  · obtain ⟨b, i2, h2, e2, p, q, a2⟩ := draw_below l i1 h1 (t.length : Int) a1
    have q := q (by omega)
    refine ⟨_, _, _, _, _, i2, h2, ⟨K, fun k hk => ?_⟩, getD64 t h64 b.toNat, a2⟩
    dsimp only
    rw [spec_l25Node.f, show spec_l17Bent.f k l i h = some (t, i1, h1) from e1 k hk]
    simp only [Option.bind_some]
    rw [if_neg c0, e2]
    simp only [Option.bind_some]
    rw [if_pos p, if_pos q]
    rfl
theorem pick_str (l : List Int) (i h : Int) (xs : List ByteArray) (ha : At l i) (hx : 1 ≤ xs.length) : ∃ v i' h', spec_l1Pick.f l i h xs = some (v, i', h') ∧ v ∈ xs ∧ At l i' := by
  obtain ⟨b, i1, h1, e, p, q, a⟩ := draw_below l i h (xs.length : Int) ha
  have hq := q (by omega)
  obtain ⟨j, rfl⟩ := int_nat p
  refine ⟨xs.getD j ByteArray.empty, i1, h1, ?_, ?_, a⟩
  · unfold spec_l1Pick.f
    rw [e]
    simp only [Option.bind_some]
    rw [if_pos p, if_pos hq, rdOf_nat]
  · rw [List.getD_eq_getElem?_getD, List.getElem?_eq_getElem (by omega)]; exact List.getElem_mem _
theorem turned (l : List Int) (i h : Int) (s : ByteArray) (ha : At l i) (hs : s.size ≤ 100000) : ∃ t i' h', spec_l25Turned.f l i h s = some (t, i', h') ∧ t.size ≤ 200100 ∧ At l i' := by
  obtain ⟨b1, i1, h1, e1, p1, q1, a1⟩ := draw_below l i h ((s.size : Int) + 1) ha
  have q1 := q1 (by omega)
  obtain ⟨b2, i2, h2, e2, p2, q2, a2⟩ := draw_below l i1 h1 6 a1
  have hw : wrap64 ((s.size : Int) + 1) = (s.size : Int) + 1 := by unfold wrap64; omega
  unfold spec_l25Turned.f
  rw [hw, e1]
  simp only [Option.bind_some]
  rw [e2]
  simp only [Option.bind_some]
  have x1 : (s.extract 0 b1.toNat).size ≤ s.size := by rw [ByteArray.size_extract]; omega
  have x2 : (s.extract b1.toNat s.size).size ≤ s.size := by rw [ByteArray.size_extract]; omega
  by_cases c0 : b2 = 0
  · rw [if_pos c0, if_pos p1, if_pos (by omega)]
    obtain ⟨v, i3, h3, e3, hm, a3⟩ := pick_str l i2 h2 [(⟨#[32]⟩ : ByteArray), (⟨#[48]⟩ : ByteArray), (⟨#[49]⟩ : ByteArray), (⟨#[45]⟩ : ByteArray), (⟨#[120]⟩ : ByteArray), (⟨#[61]⟩ : ByteArray), (⟨#[60]⟩ : ByteArray), (⟨#[58]⟩ : ByteArray), (⟨#[44]⟩ : ByteArray), (⟨#[10]⟩ : ByteArray), (⟨#[116, 114, 101, 101, 32, 61, 49, 10]⟩ : ByteArray), (⟨#[98, 97, 115, 101, 32, 49, 10]⟩ : ByteArray)] a2 (by simp)
    have hv : v.size ≤ 8 := by
      simp only [List.mem_cons, List.not_mem_nil, or_false] at hm
      rcases hm with rfl | rfl | rfl | rfl | rfl | rfl | rfl | rfl | rfl | rfl | rfl | rfl <;> decide
    rw [e3]
    simp only [Option.bind_some]
    rw [if_pos (by omega), if_pos (by rw [ByteArray.size_append]; omega)]
    exact ⟨_, _, _, rfl, by rw [ByteArray.size_append, ByteArray.size_append]; omega, a3⟩
  · rw [if_neg c0]
    by_cases c1 : b2 = 1
    · rw [if_pos c1, if_pos p1, if_pos (by omega)]
      exact ⟨_, _, _, rfl, by omega, a2⟩
    · rw [if_neg c1]
      exact ⟨_, _, _, rfl, by omega, a2⟩
theorem spec_nodeText' (f c l r v : Int) (hv : int64B v) (k : Nat) (hk : 21 ≤ k) : spec_NodeText.f k f c l r v = some (ba (nodeT f c l r v)) :=
  at_rounds (g := fun k => spec_NodeText.f k f c l r v) (fun k => spec_NodeText.mono f c l r v k) hk (spec_nodeText 21 (by omega) (by omega) f c l r v hv)
theorem FnNodeText : Go.Proofs.YtcgmdpnhlkbpbaaDoor.fnNodeText.Pure := by
  intro l hG
  by_cases hbig : (l.length : Int) > 1048576
  · refine ⟨0, ?_⟩
    unfold laws_FnNodeText.f laws_big.f
    simp only [Option.bind_some]
    rw [if_pos (decide_eq_true hbig)]
  · have hl : l.length ≤ 1099511627776 := by omega
    obtain ⟨h0, e0, a0⟩ := draw_new 4001 l (by omega) hl
    have e0' : ∀ k, 4001 ≤ k → spec_l1New.f k l = some (l, 0, h0) := fun k hk => at_rounds (g := fun k => spec_l1New.f k l) (fun k => spec_l1New.mono l k) hk e0
    obtain ⟨f, c, a, b, v, i1, h1, ⟨K1, e1⟩, n64, a1⟩ := draw_node l 0 h0 a0
    obtain ⟨_, _, _, _, hv⟩ := n64
    obtain ⟨t, i2, h2, e2, ht, a2⟩ := turned l i1 h1 (ba (nodeT f c a b v)) a1 (by rw [ba_size]; have := nodeT_len f c a b v hv; omega)
    refine ⟨max 4001 K1, ?_⟩
    generalize hk : max 4001 K1 = k
    have g0 := e0' k (by omega)
    have g1 := e1 k (by omega)
    dsimp only at g1
    have dn : spec_DrawNodeText.f k l = some (f, c, a, b, v) := by
      unfold spec_DrawNodeText.f
      rw [g0]
      simp only [Option.bind_some]
      rw [g1]
      simp only [Option.bind_some]
    have s1 : spec_DrawReadNode.f k l = (spec_NodeText.f k f c a b v).bind fun x => (spec_l25Turned.f l i1 h1 x).bind fun y => some y.1 := by
      unfold spec_DrawReadNode.f
      rw [g0, Option.bind_some, g1, Option.bind_some]
    have dr : spec_DrawReadNode.f k l = some t := by
      rw [s1, spec_nodeText' f c a b v hv k (by omega), Option.bind_some, e2, Option.bind_some]
    obtain ⟨⟨f2, c2, a2', b2, v2, ok2⟩, r2, good2⟩ := impl_read_some t (by omega) k (by omega)
    have hv2 : int64B v2 := good2.2.2.2.2.2.2
    have fin : ∀ q, impl_ReadNode.f k (ba (nodeT f c a b v)) = some q → (q.2.2.2.2.2 = !(ba (nodeT f c a b v)).toList.isEmpty) → (q.2.2.2.2.2 = true → q.1 = f ∧ q.2.1 = c ∧ q.2.2.1 = a ∧ q.2.2.2.1 = b ∧ q.2.2.2.2.1 = v) → laws_FnNodeText.f k l = some true := fun q e3 e4 e5 => by
      unfold laws_FnNodeText.f laws_big.f
      simp only [Option.bind_some]
      rw [if_neg (by simpa using hbig), dn]
      simp only [Option.bind_some]
      rw [impl_nodeText k (by omega) f c a b v hv]
      simp only [Option.bind_some]
      rw [spec_nodeText' f c a b v hv k (by omega)]
      simp only [Option.bind_some]
      rw [e3]
      simp only [Option.bind_some]
      rw [dr]
      simp only [Option.bind_some]
      rw [r2]
      simp only [Option.bind_some]
      rw [impl_nodeText k (by omega) f2 c2 a2' b2 v2 hv2]
      simp only [Option.bind_some]
      rw [if_pos ⟨trivial, e4, e5, fun h => by rw [show ba (nodeT f2 c2 a2' b2 v2) = t from (good2.1 h).1]⟩]
    by_cases hne : nodeT f c a b v = []
    · obtain ⟨q, r3, good3⟩ := impl_read_some (ba (nodeT f c a b v)) (by rw [ba_size, hne]; simp) k (by omega)
      have hok : q.2.2.2.2.2 = false := by
        cases h : q.2.2.2.2.2 with
        | false => rfl
        | true => exact absurd (by rw [hne]) (good3.1 h).2
      have he : (ba (nodeT f c a b v)).toList = ([] : List UInt8) := (empty_iff _).2 (by rw [hne])
      exact fin q r3 (by rw [hok, he]; rfl) (fun h => by rw [hok] at h; cases h)
    · have he : (ba (nodeT f c a b v)).toList ≠ ([] : List UInt8) := fun h => hne (by have := (empty_iff _).1 h; have := congrArg (fun x => x.data.toList) this; simpa [ba_toList] using this)
      refine fin _ (impl_read_hit f c a b v hv k (by omega) hne) ?_ (fun _ => ⟨rfl, rfl, rfl, rfl, rfl⟩)
      cases h : (ba (nodeT f c a b v)).toList.isEmpty with
      | false => rfl
      | true => exact absurd (List.isEmpty_iff.1 h) he
end Go.Proofs.YtcgmdpnhlkbpbaaDoor.Pure
