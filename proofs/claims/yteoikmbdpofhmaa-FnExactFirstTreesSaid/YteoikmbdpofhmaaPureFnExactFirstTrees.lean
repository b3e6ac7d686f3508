/- The pure statement of FnExactFirstTrees: the first trees of a model are the same lists in the program and in the reference, and what the law writes into them is found again. Conditions: none. -/
import Derived.Test.YteoikmbdpofhmaaSaidFnExactFirstTrees
namespace Go.Proofs.Yteoikmbdpofhmaa.Pure
open Go.RowKit Go.Proofs.YteoikmbdpofhmaaW.PrintWords Go.Proofs.YteoikmbdpofhmaaW.PrintLast Go.Proofs.Yteoikmbdpofhmaa.XFnExactFirstTrees Go.Proofs.Yteoikmbdpofhmaa.Opens Go.Proofs.Yteoikmbdpofhmaa.fnExactFirstTrees
set_option linter.unusedVariables false
/-! ### Loops over an index -/
theorem ev_loop {ρ : Type} (G : Nat → Nat → Option ρ) (n : Nat) (r : ρ) (step : ∀ j, j < n → ∃ K, ∀ k, K ≤ k → G (k + 1) j = G k (j + 1)) (last : ∃ K, ∀ k, K ≤ k → G (k + 1) n = some r) :
    ∀ d j, j + d = n → Ev (fun k => G k j) r := by
  intro d
  induction d with
  | zero =>
    intro j hj
    obtain rfl : j = n := by omega
    obtain ⟨K, h⟩ := last
    exact ⟨K + 1, fun k hk => by
      obtain ⟨m, rfl⟩ : ∃ m, k = m + 1 := ⟨k - 1, by omega⟩
      exact h m (by omega)⟩
  | succ d ih =>
    intro j hj
    obtain ⟨K1, h1⟩ := ih (j + 1) (by omega)
    obtain ⟨K2, h2⟩ := step j (by omega)
    exact ⟨max K1 K2 + 1, fun k hk => by
      obtain ⟨m, rfl⟩ : ∃ m, k = m + 1 := ⟨k - 1, by omega⟩
      show G (m + 1) j = some r
      rw [h2 m (by omega)]
      exact h1 m (by omega)⟩
theorem ev_loop0 {ρ : Type} (G : Nat → Nat → Option ρ) (n : Nat) (r : ρ) (step : ∀ j, j < n → ∃ K, ∀ k, K ≤ k → G (k + 1) j = G k (j + 1)) (last : ∃ K, ∀ k, K ≤ k → G (k + 1) n = some r) : Ev (fun k => G k 0) r :=
  ev_loop G n r step last n 0 (by omega)
theorem ev_const {α : Type} {o : Option α} {r : α} (h : o = some r) : Ev (fun _ => o) r := ⟨0, fun _ _ => h⟩
theorem ev_ite {α : Type} {c : Prop} [Decidable c] {g f : Nat → Option α} {r : α} (h : c → Ev g r) (h' : ¬ c → Ev f r) : Ev (fun k => if c then g k else f k) r := by
  by_cases hc : c
  · exact (h hc).congr (fun k => by rw [if_pos hc])
  · exact (h' hc).congr (fun k => by rw [if_neg hc])
theorem wnext (j n : Nat) (h : j < n) (hn : n ≤ 1099511627776) : wrap64 ((j : Int) + 1) = ((j + 1 : Nat) : Int) := by unfold wrap64; omega
theorem bigLen (n : Nat) (h : n ≤ maxLen) : n ≤ 9223372036854775807 := by unfold maxLen at h; omega
/-- The first j of m, the rest of o. -/
def mix {α : Type} (m o : List α) (j : Nat) : List α := m.take j ++ o.drop j
theorem mix_zero {α : Type} (m o : List α) : mix m o 0 = o := by simp [mix]
theorem mix_all {α : Type} (m o : List α) (h : m.length = o.length) : mix m o m.length = m := by
  unfold mix; rw [List.take_length, h, List.drop_length, List.append_nil]
theorem mix_len {α : Type} (m o : List α) (h : m.length = o.length) (j : Nat) (hj : j ≤ o.length) : (mix m o j).length = o.length := by
  unfold mix; rw [List.length_append, List.length_take, List.length_drop]; omega
theorem mix_get {α : Type} (m o : List α) (h : m.length = o.length) (j : Nat) (hj : j ≤ o.length) (d : α) : (mix m o j).getD j d = o.getD j d := by
  unfold mix
  rw [List.getD_eq_getElem?_getD, List.getD_eq_getElem?_getD, List.getElem?_append_right (by rw [List.length_take]; omega), List.getElem?_drop, List.length_take]
  congr 2; omega
theorem mix_set {α : Type} (m o : List α) (h : m.length = o.length) (j : Nat) (hj : j < m.length) (v : α) (hv : m[j]? = some v) : (mix m o j).set j v = mix m o (j + 1) := by
  apply List.ext_getElem?
  intro i
  unfold mix
  rw [List.getElem?_set, List.length_append, List.length_take, List.length_drop]
  by_cases e : j = i
  · subst e
    rw [if_pos rfl, if_pos (by omega), List.getElem?_append_left (by rw [List.length_take]; omega), List.getElem?_take_of_lt (by omega), hv]
  · rw [if_neg e]
    by_cases hlt : i < j
    · rw [List.getElem?_append_left (by rw [List.length_take]; omega), List.getElem?_append_left (by rw [List.length_take]; omega), List.getElem?_take_of_lt hlt, List.getElem?_take_of_lt (by omega)]
    · rw [List.getElem?_append_right (by rw [List.length_take]; omega), List.getElem?_append_right (by rw [List.length_take]; omega), List.getElem?_drop, List.getElem?_drop, List.length_take, List.length_take]
      congr 1; omega
theorem getD_get {α : Type} (l : List α) (j : Nat) (d : α) (h : j < l.length) : l[j]? = some (l.getD j d) := by
  rw [List.getD_eq_getElem?_getD, List.getElem?_eq_getElem h]; rfl
theorem map_get {α β : Type} (f : α → β) (l : List α) (j : Nat) (d : α) (h : j < l.length) : (l.map f)[j]? = some (f (l.getD j d)) := by
  rw [List.getElem?_map, getD_get l j d h]; rfl
theorem range_get {β : Type} (f : Nat → β) (n j : Nat) (h : j < n) : ((List.range n).map f)[j]? = some (f j) := by
  rw [List.getElem?_map, List.getElem?_range h]; rfl
theorem range_getD {β : Type} (f : Nat → β) (n j : Nat) (h : j < n) (d : β) : ((List.range n).map f).getD j d = f j := by
  rw [List.getD_eq_getElem?_getD, range_get f n j h]; rfl
theorem rd_nat (l : List Int) (j : Nat) : rd l (j : Int) = l.getD j 0 := by unfold rd; rw [Int.toNat_natCast]
theorem rdOf_nat {α : Type} (d : α) (l : List α) (j : Nat) : rdOf d l (j : Int) = l.getD j d := by unfold rdOf; rw [Int.toNat_natCast]
theorem take_snoc1 {α : Type} (l : List α) (j : Nat) (d : α) (h : j < l.length) : l.take j ++ [l.getD j d] = l.take (j + 1) := by
  rw [List.take_add_one, getD_get l j d h]; rfl
/-! ### Lists of strings -/
theorem sz_strs_loop (l : List ByteArray) (hl : l.length ≤ 1048576) (hs : ∀ x, x ∈ l → x.size ≤ 9223372036854775807) : ∀ d j (a : Int), j + d = l.length → 0 ≤ a → a ≤ 1048576 → ∃ r, Ev (fun k => laws_szStringS.l0 k l a (j : Int)) r ∧ (0 ≤ r → r ≤ a) := by
  intro d
  induction d with
  | zero =>
    intro j a hj h0 h1
    refine ⟨a, ⟨1, fun k hk => ?_⟩, fun _ => Int.le_refl _⟩
    obtain ⟨m, rfl⟩ : ∃ m, k = m + 1 := ⟨k - 1, by omega⟩
    dsimp only
    rw [laws_szStringS.l0, if_neg (by omega)]
  | succ d ih =>
    intro j a hj h0 h1
    have hz : (l.getD j ByteArray.empty).size ≤ 9223372036854775807 := by
      rw [List.getD_eq_getElem?_getD, List.getElem?_eq_getElem (by omega)]; exact hs _ (List.getElem_mem _)
    have hw : wrap64 (a - ((l.getD j ByteArray.empty).size : Int)) = a - ((l.getD j ByteArray.empty).size : Int) := by unfold wrap64; omega
    have hw2 : wrap64 ((j : Int) + 1) = ((j + 1 : Nat) : Int) := by unfold wrap64; omega
    by_cases c : a - ((l.getD j ByteArray.empty).size : Int) < 0
    · refine ⟨-1, ⟨1, fun k hk => ?_⟩, fun h => by omega⟩
      obtain ⟨m, rfl⟩ : ∃ m, k = m + 1 := ⟨k - 1, by omega⟩
      dsimp only
      rw [laws_szStringS.l0, if_pos (by omega), if_pos (by omega), rdOf_nat, hw, if_pos c]
    · obtain ⟨r, hr, hb⟩ := ih (j + 1) _ (by omega) (by omega : 0 ≤ a - ((l.getD j ByteArray.empty).size : Int)) (by omega)
      refine ⟨r, hr.step (fun k => ?_), fun h => by have := hb h; omega⟩
      rw [laws_szStringS.l0, if_pos (by omega), if_pos (by omega), rdOf_nat, hw, if_neg c, hw2]
theorem sz_strs (l : List ByteArray) (hl : GList GStr l) (a : Int) (h0 : 0 ≤ a) (h1 : a ≤ 1048576) : ∃ r, Ev (fun k => laws_szStringS.f k l a) r ∧ (0 ≤ r → (l.length : Int) + r ≤ a) := by
  have hb := bigLen _ hl.1
  have hw : wrap64 (a - (l.length : Int)) = a - (l.length : Int) := by unfold wrap64; omega
  unfold laws_szStringS.f
  rw [hw]
  by_cases c : a - (l.length : Int) < 0
  · exact ⟨-1, ⟨0, fun k _ => by dsimp only; rw [if_pos c]⟩, fun h => by omega⟩
  · obtain ⟨r, hr, hb2⟩ := sz_strs_loop l (by omega) (fun x hx => bigLen _ (hl.2 x hx)) l.length 0 (a - (l.length : Int)) (by omega) (by omega) (by omega)
    exact ⟨r, hr.congr (fun k => by rw [if_neg c]; rfl), fun h => by have := hb2 h; omega⟩
theorem to_strs (l : List ByteArray) (hl : l.length ≤ 1048576) : Ev (fun k => laws_toStringS.f k l) l := by
  refine Ev.congr (fun k => ?_) (f := fun k => laws_toStringS.l0 k l (mix l (List.replicate l.length (⟨#[]⟩ : ByteArray)) 0) ((0 : Nat) : Int)) ?_
  · unfold laws_toStringS.f
    rw [if_pos (by omega), if_pos (by omega), mix_zero, Int.toNat_natCast]; rfl
  · refine ev_loop0 (fun k j => laws_toStringS.l0 k l (mix l (List.replicate l.length (⟨#[]⟩ : ByteArray)) j) (j : Int)) l.length l (fun j hj => ⟨0, fun k _ => ?_⟩) ⟨0, fun k _ => ?_⟩
    · have hm : l.length = (List.replicate l.length (⟨#[]⟩ : ByteArray)).length := by simp
      show laws_toStringS.l0 (k + 1) l (mix l (List.replicate l.length (⟨#[]⟩ : ByteArray)) j) (j : Int) = _
      rw [laws_toStringS.l0, if_pos (by omega), if_pos (by omega), if_pos (by rw [mix_len _ _ hm _ (by rw [← hm]; omega), ← hm]; omega), rdOf_nat, Int.toNat_natCast, mix_set _ _ hm j hj _ (getD_get l j _ hj), wnext j l.length hj (by omega)]
    · show laws_toStringS.l0 (k + 1) l (mix l (List.replicate l.length (⟨#[]⟩ : ByteArray)) l.length) (l.length : Int) = _
      rw [laws_toStringS.l0, if_neg (by omega), mix_all _ _ (by simp)]
theorem eq_strs (l : List ByteArray) (hl : l.length ≤ 1048576) : Ev (fun k => laws_eqStringS.f k l l) true := by
  refine Ev.congr (fun k => ?_) (f := fun k => laws_eqStringS.l0 k l l ((0 : Nat) : Int)) ?_
  · unfold laws_eqStringS.f
    rw [if_pos rfl]; rfl
  · refine ev_loop0 (fun k j => laws_eqStringS.l0 k l l (j : Int)) l.length true (fun j hj => ⟨0, fun k _ => ?_⟩) ⟨0, fun k _ => ?_⟩
    · show laws_eqStringS.l0 (k + 1) l l (j : Int) = _
      rw [laws_eqStringS.l0, if_pos (by omega), if_pos (by omega), if_pos (by omega), if_pos rfl, wnext j l.length hj (by omega)]
    · show laws_eqStringS.l0 (k + 1) l l (l.length : Int) = _
      rw [laws_eqStringS.l0, if_neg (by omega)]
theorem nums_one (c : Int) : (strOfNums [c]).size = 1 := rfl
theorem mark_text_loop (d : Nat) : ∀ (x : Int) (s : ByteArray), x.toNat ≤ d → s.size + d ≤ 4611686018427387904 → ∃ r, Ev (fun k => laws_markText.l0 k x s) r := by
  induction d with
  | zero =>
    intro x s hx hs
    refine ⟨(⟨#[109]⟩ : ByteArray) ++ s, 1, fun k hk => ?_⟩
    · obtain ⟨m, rfl⟩ : ∃ m, k = m + 1 := ⟨k - 1, by omega⟩
      dsimp only
      rw [laws_markText.l0, if_neg (by omega), if_pos (by omega)]
  | succ d ih =>
    intro x s hx hs
    by_cases c : x > 0
    · by_cases hb : x ≤ 9223372036854775807
      · obtain ⟨r, hr⟩ := ih (wrap64 (Int.tdiv x 10)) (strOfNums [(wrap64 (48 + (Int.tmod x 10))) % 256] ++ s) (by
          have : Int.tdiv x 10 = x / 10 := Int.tdiv_eq_ediv_of_nonneg (by omega)
          rw [this]; unfold wrap64; omega) (by rw [ByteArray.size_append, nums_one]; omega)
        refine ⟨r, hr.step (fun k => ?_)⟩
        rw [laws_markText.l0, if_pos c]
        simp only [Option.bind_some]
        rw [if_pos (by rw [nums_one]; omega)]
      · omega
    · refine ⟨(⟨#[109]⟩ : ByteArray) ++ s, 1, fun k hk => ?_⟩
      · obtain ⟨m, rfl⟩ : ∃ m, k = m + 1 := ⟨k - 1, by omega⟩
        dsimp only
        rw [laws_markText.l0, if_neg c, if_pos (by omega)]
theorem mark_text (v : Int) (h : v ≤ 4611686018427387904) : ∃ r, Ev (fun k => laws_markText.f k v) r := by
  by_cases c : v ≤ 0
  · exact ⟨_, 0, fun k _ => by dsimp only; rw [laws_markText.f, if_pos c]⟩
  · obtain ⟨r, hr⟩ := mark_text_loop v.toNat v (⟨#[]⟩ : ByteArray) (Nat.le_refl _) (by show 0 + _ ≤ _; omega)
    exact ⟨r, hr.congr (fun k => by rw [laws_markText.f, if_neg c])⟩
/-- The text of the mark v. -/
noncomputable def mT (v : Int) : ByteArray := Classical.epsilon (fun r => Ev (fun k => laws_markText.f k v) r)
theorem mT_ev (v : Int) (h : v ≤ 4611686018427387904) : Ev (fun k => laws_markText.f k v) (mT v) := Classical.epsilon_spec (mark_text v h)
noncomputable def markedS (n : Nat) (c : Int) : List ByteArray := (List.range n).map fun (i : Nat) => mT (c + i)
theorem wcnt (c : Int) (j : Nat) (h0 : 0 ≤ c) (h : c + j ≤ 4611686018427387904) : wrap64 (c + j + 1) = c + ((j + 1 : Nat) : Int) := by unfold wrap64; omega
theorem mark_strs (l : List ByteArray) (hl : l.length ≤ 1048576) (c : Int) (h0 : 0 ≤ c) (h1 : c ≤ 1099511627776) : Ev (fun k => laws_markStringS.f k l c) (c + l.length, markedS l.length c) := by
  have hm : (markedS l.length c).length = l.length := by simp [markedS]
  refine Ev.congr (fun k => ?_) (f := fun k => laws_markStringS.l0 k (mix (markedS l.length c) l 0) (c + (0 : Nat)) ((0 : Nat) : Int)) ?_
  · unfold laws_markStringS.f
    rw [mix_zero]; simp
  · refine ev_loop0 (fun k j => laws_markStringS.l0 k (mix (markedS l.length c) l j) (c + (j : Nat)) (j : Int)) l.length _ (fun j hj => ?_) ⟨0, fun k _ => ?_⟩
    · obtain ⟨K, hK⟩ := mT_ev (c + j) (by omega)
      refine ⟨K, fun k hk => ?_⟩
      show laws_markStringS.l0 (k + 1) (mix (markedS l.length c) l j) (c + (j : Nat)) (j : Int) = _
      rw [laws_markStringS.l0, if_pos (by rw [mix_len _ _ hm _ (by omega)]; omega), show laws_markText.f k (c + (j : Nat)) = some (mT (c + (j : Nat))) from hK k hk]
      simp only [Option.bind_some]
      rw [if_pos (by omega), Int.toNat_natCast, mix_set _ _ hm j (by omega) _ (by rw [markedS]; exact range_get _ _ _ hj), wcnt c j h0 (by omega), wnext j l.length hj (by omega)]
    · show laws_markStringS.l0 (k + 1) (mix (markedS l.length c) l l.length) (c + (l.length : Nat)) (l.length : Int) = _
      rw [laws_markStringS.l0, if_neg (by rw [mix_len _ _ hm _ (by omega)]; omega)]
      have := mix_all _ _ hm
      rw [hm] at this
      rw [this]
theorem held_strs (n : Nat) (hl : n ≤ 1048576) (c : Int) (h0 : 0 ≤ c) (h1 : c ≤ 1099511627776) : Ev (fun k => laws_heldStringS.f k (markedS n c) c) (c + n) := by
  have hm : (markedS n c).length = n := by simp [markedS]
  refine Ev.congr (fun k => ?_) (f := fun k => laws_heldStringS.l0 k (markedS n c) (c + (0 : Nat)) ((0 : Nat) : Int)) ?_
  · unfold laws_heldStringS.f
    simp
  · refine ev_loop0 (fun k j => laws_heldStringS.l0 k (markedS n c) (c + (j : Nat)) (j : Int)) n _ (fun j hj => ?_) ⟨0, fun k _ => ?_⟩
    · obtain ⟨K, hK⟩ := mT_ev (c + j) (by omega)
      refine ⟨K, fun k hk => ?_⟩
      show laws_heldStringS.l0 (k + 1) (markedS n c) (c + (j : Nat)) (j : Int) = _
      rw [laws_heldStringS.l0, if_pos (by rw [hm]; omega), if_pos (by omega), show laws_markText.f k (c + (j : Nat)) = some (mT (c + (j : Nat))) from hK k hk]
      simp only [Option.bind_some]
      rw [rdOf_nat, show (markedS n c).getD j ByteArray.empty = mT (c + j) from range_getD _ _ _ hj _, if_pos rfl, wcnt c j h0 (by omega), wnext j n hj (by omega)]
    · show laws_heldStringS.l0 (k + 1) (markedS n c) (c + (n : Nat)) (n : Int) = _
      rw [laws_heldStringS.l0, if_neg (by rw [hm]; omega)]
/-! ### Lists of whole numbers -/
theorem sz_ints (l : List Int) (hl : l.length ≤ 9223372036854775807) (a : Int) (h0 : 0 ≤ a) (h1 : a ≤ 1048576) : ∃ r, laws_szIntS.f l a = some r ∧ (0 ≤ r → (l.length : Int) + r = a) := by
  have hw : wrap64 (a - (l.length : Int)) = a - (l.length : Int) := by unfold wrap64; omega
  unfold laws_szIntS.f
  rw [hw]
  by_cases c : a - (l.length : Int) < 0
  · exact ⟨-1, by rw [if_pos c], fun h => by omega⟩
  · exact ⟨_, by rw [if_neg c], fun h => by omega⟩
theorem to_ints (l : List Int) (hl : l.length ≤ 1048576) : Ev (fun k => laws_toIntS.f k l) l := by
  refine Ev.congr (fun k => ?_) (f := fun k => laws_toIntS.l0 k l (mix l (List.replicate l.length 0) 0) ((0 : Nat) : Int)) ?_
  · unfold laws_toIntS.f
    rw [if_pos (by omega), if_pos (by omega), mix_zero, Int.toNat_natCast]; rfl
  · refine ev_loop0 (fun k j => laws_toIntS.l0 k l (mix l (List.replicate l.length 0) j) (j : Int)) l.length l (fun j hj => ⟨0, fun k _ => ?_⟩) ⟨0, fun k _ => ?_⟩
    · have hm : l.length = (List.replicate l.length (0 : Int)).length := by simp
      show laws_toIntS.l0 (k + 1) l (mix l (List.replicate l.length 0) j) (j : Int) = _
      rw [laws_toIntS.l0, if_pos (by omega), if_pos (by omega), if_pos (by rw [mix_len _ _ hm _ (by rw [← hm]; omega), ← hm]; omega), rd_nat, Int.toNat_natCast, mix_set _ _ hm j hj _ (getD_get l j _ hj), wnext j l.length hj (by omega)]
    · show laws_toIntS.l0 (k + 1) l (mix l (List.replicate l.length 0) l.length) (l.length : Int) = _
      rw [laws_toIntS.l0, if_neg (by omega), mix_all _ _ (by simp)]
theorem eq_ints (l : List Int) (hl : l.length ≤ 1048576) : Ev (fun k => laws_eqIntS.f k l l) true := by
  refine Ev.congr (fun k => ?_) (f := fun k => laws_eqIntS.l0 k l l ((0 : Nat) : Int)) ?_
  · unfold laws_eqIntS.f
    rw [if_pos rfl]; rfl
  · refine ev_loop0 (fun k j => laws_eqIntS.l0 k l l (j : Int)) l.length true (fun j hj => ⟨0, fun k _ => ?_⟩) ⟨0, fun k _ => ?_⟩
    · show laws_eqIntS.l0 (k + 1) l l (j : Int) = _
      rw [laws_eqIntS.l0, if_pos (by omega), if_pos (by omega), if_pos (by omega), if_pos rfl, wnext j l.length hj (by omega)]
    · show laws_eqIntS.l0 (k + 1) l l (l.length : Int) = _
      rw [laws_eqIntS.l0, if_neg (by omega)]
def markedI (n : Nat) (c : Int) : List Int := (List.range n).map fun (i : Nat) => c + i
theorem mark_ints (l : List Int) (hl : l.length ≤ 1048576) (c : Int) (h0 : 0 ≤ c) (h1 : c ≤ 1099511627776) : Ev (fun k => laws_markIntS.f k l c) (c + l.length, markedI l.length c) := by
  have hm : (markedI l.length c).length = l.length := by simp [markedI]
  refine Ev.congr (fun k => ?_) (f := fun k => laws_markIntS.l0 k (mix (markedI l.length c) l 0) (c + (0 : Nat)) ((0 : Nat) : Int)) ?_
  · unfold laws_markIntS.f
    rw [mix_zero]; simp
  · refine ev_loop0 (fun k j => laws_markIntS.l0 k (mix (markedI l.length c) l j) (c + (j : Nat)) (j : Int)) l.length _ (fun j hj => ⟨0, fun k _ => ?_⟩) ⟨0, fun k _ => ?_⟩
    · show laws_markIntS.l0 (k + 1) (mix (markedI l.length c) l j) (c + (j : Nat)) (j : Int) = _
      rw [laws_markIntS.l0, if_pos (by rw [mix_len _ _ hm _ (by omega)]; omega), if_pos (by omega), Int.toNat_natCast, mix_set _ _ hm j (by omega) _ (by rw [markedI]; exact range_get _ _ _ hj), wcnt c j h0 (by omega), wnext j l.length hj (by omega)]
    · show laws_markIntS.l0 (k + 1) (mix (markedI l.length c) l l.length) (c + (l.length : Nat)) (l.length : Int) = _
      rw [laws_markIntS.l0, if_neg (by rw [mix_len _ _ hm _ (by omega)]; omega)]
      have := mix_all _ _ hm
      rw [hm] at this
      rw [this]
theorem held_ints (n : Nat) (hl : n ≤ 1048576) (c : Int) (h0 : 0 ≤ c) (h1 : c ≤ 1099511627776) : Ev (fun k => laws_heldIntS.f k (markedI n c) c) (c + n) := by
  have hm : (markedI n c).length = n := by simp [markedI]
  refine Ev.congr (fun k => ?_) (f := fun k => laws_heldIntS.l0 k (markedI n c) (c + (0 : Nat)) ((0 : Nat) : Int)) ?_
  · unfold laws_heldIntS.f
    simp
  · refine ev_loop0 (fun k j => laws_heldIntS.l0 k (markedI n c) (c + (j : Nat)) (j : Int)) n _ (fun j hj => ⟨0, fun k _ => ?_⟩) ⟨0, fun k _ => ?_⟩
    · show laws_heldIntS.l0 (k + 1) (markedI n c) (c + (j : Nat)) (j : Int) = _
      rw [laws_heldIntS.l0, if_pos (by rw [hm]; omega), if_pos (by omega), rd_nat, show (markedI n c).getD j 0 = c + j from range_getD _ _ _ hj _, if_pos rfl, wcnt c j h0 (by omega), wnext j n hj (by omega)]
    · show laws_heldIntS.l0 (k + 1) (markedI n c) (c + (n : Nat)) (n : Int) = _
      rw [laws_heldIntS.l0, if_neg (by rw [hm]; omega)]
/-! ### Lists of nodes -/
def nodeOf (x : S144) : S93 := ⟨x.f0, x.f1, x.f2, x.f3, x.f4⟩
theorem sz_nodes (l : List S144) (hl : l.length ≤ 9223372036854775807) (a : Int) (h0 : 0 ≤ a) (h1 : a ≤ 1048576) : ∃ r, laws_szTree.f l a = some r ∧ (0 ≤ r → (l.length : Int) + r = a) := by
  have hw : wrap64 (a - (l.length : Int)) = a - (l.length : Int) := by unfold wrap64; omega
  unfold laws_szTree.f laws_szNodeS.f
  rw [hw]
  by_cases c : a - (l.length : Int) < 0
  · exact ⟨-1, by rw [if_pos c]; rfl, fun h => by omega⟩
  · exact ⟨a - (l.length : Int), by rw [if_neg c]; simp only [Option.bind_some]; rw [if_neg c], fun h => by omega⟩
theorem to_nodes (l : List S144) (hl : l.length ≤ 1048576) : Ev (fun k => laws_toNodeS.f k l) (l.map nodeOf) := by
  refine Ev.congr (fun k => ?_) (f := fun k => laws_toNodeS.l0 k l (mix (l.map nodeOf) (List.replicate l.length z93) 0) ((0 : Nat) : Int)) ?_
  · unfold laws_toNodeS.f
    rw [if_pos (by omega), if_pos (by omega), mix_zero, Int.toNat_natCast]; rfl
  · refine ev_loop0 (fun k j => laws_toNodeS.l0 k l (mix (l.map nodeOf) (List.replicate l.length z93) j) (j : Int)) l.length _ (fun j hj => ⟨0, fun k _ => ?_⟩) ⟨0, fun k _ => ?_⟩
    · have hm : (l.map nodeOf).length = (List.replicate l.length z93).length := by simp
      have hl2 : (List.replicate l.length z93).length = l.length := by simp
      show laws_toNodeS.l0 (k + 1) l (mix (l.map nodeOf) (List.replicate l.length z93) j) (j : Int) = _
      rw [laws_toNodeS.l0, if_pos (by omega), if_pos (by omega)]
      simp only [laws_toNode.f, Option.bind_some]
      rw [if_pos (by rw [mix_len _ _ hm _ (by omega)]; omega), Int.toNat_natCast, wnext j l.length hj (by omega), ← mix_set _ _ hm j (by omega) _ (map_get nodeOf l j z144 hj)]
      unfold nodeOf rd_T144
      rw [Int.toNat_natCast]
    · have hm : (l.map nodeOf).length = (List.replicate l.length z93).length := by simp
      show laws_toNodeS.l0 (k + 1) l (mix (l.map nodeOf) (List.replicate l.length z93) l.length) (l.length : Int) = _
      have := mix_all _ _ hm
      rw [List.length_map] at this
      rw [laws_toNodeS.l0, if_neg (by omega), this]
theorem eq_nodes (l : List S93) (hl : l.length ≤ 1048576) : Ev (fun k => laws_eqNodeS.f k l l) true := by
  refine Ev.congr (fun k => ?_) (f := fun k => laws_eqNodeS.l0 k l l ((0 : Nat) : Int)) ?_
  · unfold laws_eqNodeS.f
    rw [if_pos rfl]; rfl
  · refine ev_loop0 (fun k j => laws_eqNodeS.l0 k l l (j : Int)) l.length true (fun j hj => ⟨0, fun k _ => ?_⟩) ⟨0, fun k _ => ?_⟩
    · show laws_eqNodeS.l0 (k + 1) l l (j : Int) = _
      rw [laws_eqNodeS.l0, if_pos (by omega), if_pos (by omega), if_pos (by omega)]
      simp only [laws_eqNode.f, if_true, Option.bind_some]
      rw [wnext j l.length hj (by omega)]
    · show laws_eqNodeS.l0 (k + 1) l l (l.length : Int) = _
      rw [laws_eqNodeS.l0, if_neg (by omega)]
def markedN (n : Nat) (c : Int) : List S93 := (List.range n).map fun (i : Nat) => ⟨c + 5 * i, c + 5 * i + 1, c + 5 * i + 1 + 1, c + 5 * i + 1 + 1 + 1, c + 5 * i + 1 + 1 + 1 + 1⟩
theorem w5 (x : Int) (h0 : 0 ≤ x) (h : x ≤ 4611686018427387904) : wrap64 (x + 1) = x + 1 := by unfold wrap64; omega
theorem mark_nodes (l : List S93) (hl : l.length ≤ 1048576) (c : Int) (h0 : 0 ≤ c) (h1 : c ≤ 1099511627776) : Ev (fun k => laws_markNodeS.f k l c) (c + 5 * l.length, markedN l.length c) := by
  have hm : (markedN l.length c).length = l.length := by simp [markedN]
  refine Ev.congr (fun k => ?_) (f := fun k => laws_markNodeS.l0 k (mix (markedN l.length c) l 0) (c + 5 * (0 : Nat)) ((0 : Nat) : Int)) ?_
  · unfold laws_markNodeS.f
    rw [mix_zero]; simp
  · refine ev_loop0 (fun k j => laws_markNodeS.l0 k (mix (markedN l.length c) l j) (c + 5 * (j : Nat)) (j : Int)) l.length _ (fun j hj => ⟨0, fun k _ => ?_⟩) ⟨0, fun k _ => ?_⟩
    · have hlen := mix_len _ _ hm j (by omega)
      show laws_markNodeS.l0 (k + 1) (mix (markedN l.length c) l j) (c + 5 * (j : Nat)) (j : Int) = _
      have g : ∀ (x : S93) (y : List S93), y.length = l.length → rd_T93 (y.set j x) (j : Int) = x := fun x y hy => by
        unfold rd_T93
        rw [Int.toNat_natCast, List.getD_eq_getElem?_getD, List.getElem?_set_self (by omega)]; rfl
      rw [laws_markNodeS.l0, if_pos (by omega), if_pos (by omega), Int.toNat_natCast, w5 (c + 5 * (j : Nat)) (by omega) (by omega), w5 (c + 5 * (j : Nat) + 1) (by omega) (by omega), w5 (c + 5 * (j : Nat) + 1 + 1) (by omega) (by omega), w5 (c + 5 * (j : Nat) + 1 + 1 + 1) (by omega) (by omega), w5 (c + 5 * (j : Nat) + 1 + 1 + 1 + 1) (by omega) (by omega)]
      simp only [Option.bind_some, List.set_set, g _ _ hlen]
      rw [mix_set _ _ hm j (by omega) _ (by rw [markedN]; exact range_get _ _ _ hj), wnext j l.length hj (by omega)]
      congr 1
      omega
    · show laws_markNodeS.l0 (k + 1) (mix (markedN l.length c) l l.length) (c + 5 * (l.length : Nat)) (l.length : Int) = _
      rw [laws_markNodeS.l0, if_neg (by rw [mix_len _ _ hm _ (by omega)]; omega)]
      have := mix_all _ _ hm
      rw [hm] at this
      rw [this]
theorem held_nodes (n : Nat) (hl : n ≤ 1048576) (c : Int) (h0 : 0 ≤ c) (h1 : c ≤ 1099511627776) : Ev (fun k => laws_heldNodeS.f k (markedN n c) c) (c + 5 * n) := by
  have hm : (markedN n c).length = n := by simp [markedN]
  refine Ev.congr (fun k => ?_) (f := fun k => laws_heldNodeS.l0 k (markedN n c) (c + 5 * (0 : Nat)) ((0 : Nat) : Int)) ?_
  · unfold laws_heldNodeS.f
    simp
  · refine ev_loop0 (fun k j => laws_heldNodeS.l0 k (markedN n c) (c + 5 * (j : Nat)) (j : Int)) n _ (fun j hj => ⟨0, fun k _ => ?_⟩) ⟨0, fun k _ => ?_⟩
    · show laws_heldNodeS.l0 (k + 1) (markedN n c) (c + 5 * (j : Nat)) (j : Int) = _
      have g : rd_T93 (markedN n c) (j : Int) = ⟨c + 5 * j, c + 5 * j + 1, c + 5 * j + 1 + 1, c + 5 * j + 1 + 1 + 1, c + 5 * j + 1 + 1 + 1 + 1⟩ := by
        unfold rd_T93
        rw [Int.toNat_natCast]; exact range_getD _ _ _ hj _
      rw [laws_heldNodeS.l0, if_pos (by rw [hm]; omega), if_pos (by omega), g, w5 (c + 5 * (j : Nat)) (by omega) (by omega), w5 (c + 5 * (j : Nat) + 1) (by omega) (by omega), w5 (c + 5 * (j : Nat) + 1 + 1) (by omega) (by omega), w5 (c + 5 * (j : Nat) + 1 + 1 + 1) (by omega) (by omega), w5 (c + 5 * (j : Nat) + 1 + 1 + 1 + 1) (by omega) (by omega), if_pos rfl, if_pos rfl, if_pos rfl, if_pos rfl, if_pos rfl, wnext j n hj (by omega)]
      congr 1
      omega
    · show laws_heldNodeS.l0 (k + 1) (markedN n c) (c + 5 * (n : Nat)) (n : Int) = _
      rw [laws_heldNodeS.l0, if_neg (by rw [hm]; omega)]
/-! ### Lists of trees -/
def treeOf (x : S117) : S68 := ⟨x.f0.map nodeOf⟩
/-- The nodes of the trees from place j on. -/
def totI (l : List S117) (j : Nat) : Nat := ((l.drop j).map fun x => x.f0.length).sum
def totO (l : List S68) (j : Nat) : Nat := ((l.take j).map fun x => x.f0.length).sum
theorem totI_step (l : List S117) (j : Nat) (h : j < l.length) : totI l j = (l.getD j z117).f0.length + totI l (j + 1) := by
  unfold totI
  rw [List.drop_eq_getElem_cons h, List.map_cons, List.sum_cons, List.getD_eq_getElem?_getD, List.getElem?_eq_getElem h]; rfl
theorem totO_step (l : List S68) (j : Nat) (h : j < l.length) : totO l (j + 1) = totO l j + (l.getD j z68).f0.length := by
  unfold totO
  rw [← take_snoc1 l j z68 h]; simp
theorem totO_le (l : List S68) (j : Nat) : totO l j ≤ totO l l.length := by
  have h : ((l.take j ++ l.drop j).map fun x : S68 => x.f0.length).sum = ((l.take j).map fun x : S68 => x.f0.length).sum + ((l.drop j).map fun x : S68 => x.f0.length).sum := by rw [List.map_append, List.sum_append]
  rw [List.take_append_drop] at h
  unfold totO
  rw [List.take_length]
  omega
theorem totO_all (l : List S117) : totO (l.map treeOf) l.length = totI l 0 := by
  unfold totO totI treeOf
  rw [show l.length = (l.map fun x : S117 => (⟨x.f0.map nodeOf⟩ : S68)).length by simp, List.take_length]
  simp [Function.comp_def]
theorem totO_mem (l : List S68) (j : Nat) (h : j < l.length) : (l.getD j z68).f0.length ≤ totO l l.length := by
  have := totO_step l j h
  have := totO_le l (j + 1)
  omega
theorem totI_mem (l : List S117) (j : Nat) (h : j < l.length) : (l.getD j z117).f0.length ≤ totI l 0 := by
  have h1 := totI_step l j h
  have h2 : totI l j ≤ totI l 0 := by
    have h : ((l.take j ++ l.drop j).map fun x : S117 => x.f0.length).sum = ((l.take j).map fun x : S117 => x.f0.length).sum + ((l.drop j).map fun x : S117 => x.f0.length).sum := by rw [List.map_append, List.sum_append]
    rw [List.take_append_drop] at h
    unfold totI
    rw [List.drop_zero]
    omega
  omega
theorem sz_trees_loop (l : List S117) (hl : l.length ≤ 1048576) (hs : ∀ x, x ∈ l → x.f0.length ≤ 9223372036854775807) : ∀ d j (a : Int), j + d = l.length → 0 ≤ a → a ≤ 1048576 → ∃ r, Ev (fun k => laws_szTreeS.l0 k l a (j : Int)) r ∧ (0 ≤ r → (totI l j : Int) + r = a) := by
  intro d
  induction d with
  | zero =>
    intro j a hj h0 h1
    refine ⟨a, ⟨1, fun k hk => ?_⟩, fun _ => ?_⟩
    · obtain ⟨m, rfl⟩ : ∃ m, k = m + 1 := ⟨k - 1, by omega⟩
      dsimp only
      rw [laws_szTreeS.l0, if_neg (by omega)]
    · have : totI l j = 0 := by unfold totI; rw [List.drop_eq_nil_of_le (by omega)]; rfl
      omega
  | succ d ih =>
    intro j a hj h0 h1
    have hz : (l.getD j z117).f0.length ≤ 9223372036854775807 := by
      rw [List.getD_eq_getElem?_getD, List.getElem?_eq_getElem (by omega)]; exact hs _ (List.getElem_mem _)
    have hw2 : wrap64 ((j : Int) + 1) = ((j + 1 : Nat) : Int) := by unfold wrap64; omega
    have hrd : rd_T117 l (j : Int) = l.getD j z117 := by unfold rd_T117; rw [Int.toNat_natCast]
    obtain ⟨r1, e1, b1⟩ := sz_nodes (l.getD j z117).f0 hz a h0 h1
    by_cases c : r1 < 0
    · refine ⟨-1, ⟨1, fun k hk => ?_⟩, fun h => by omega⟩
      obtain ⟨m, rfl⟩ : ∃ m, k = m + 1 := ⟨k - 1, by omega⟩
      dsimp only
      rw [laws_szTreeS.l0, if_pos (by omega), if_pos (by omega), hrd, e1]
      simp only [Option.bind_some]
      rw [if_pos c]
    · have := b1 (by omega)
      obtain ⟨r, hr, hb⟩ := ih (j + 1) r1 (by omega) (by omega) (by omega)
      refine ⟨r, hr.step (fun k => ?_), fun h => ?_⟩
      · rw [laws_szTreeS.l0, if_pos (by omega), if_pos (by omega), hrd, e1]
        simp only [Option.bind_some]
        rw [if_neg c, hw2]
      · have := hb h
        have := totI_step l j (by omega)
        omega
theorem sz_trees (l : List S117) (hl : l.length ≤ 9223372036854775807) (hs : ∀ x, x ∈ l → x.f0.length ≤ 9223372036854775807) (a : Int) (h0 : 0 ≤ a) (h1 : a ≤ 1048576) : ∃ r, Ev (fun k => laws_szTreeS.f k l a) r ∧ (0 ≤ r → (l.length : Int) + totI l 0 + r = a) := by
  have hw : wrap64 (a - (l.length : Int)) = a - (l.length : Int) := by unfold wrap64; omega
  unfold laws_szTreeS.f
  rw [hw]
  by_cases c : a - (l.length : Int) < 0
  · exact ⟨-1, ⟨0, fun k _ => by dsimp only; rw [if_pos c]⟩, fun h => by omega⟩
  · obtain ⟨r, hr, hb2⟩ := sz_trees_loop l (by omega) hs l.length 0 (a - (l.length : Int)) (by omega) (by omega) (by omega)
    exact ⟨r, hr.congr (fun k => by rw [if_neg c]; rfl), fun h => by have := hb2 h; omega⟩
theorem to_trees (l : List S117) (hl : l.length ≤ 1048576) (ht : totI l 0 ≤ 1048576) : Ev (fun k => laws_toTreeS.f k l) (l.map treeOf) := by
  refine Ev.congr (fun k => ?_) (f := fun k => laws_toTreeS.l0 k l (mix (l.map treeOf) (List.replicate l.length z68) 0) ((0 : Nat) : Int)) ?_
  · unfold laws_toTreeS.f
    rw [if_pos (by omega), if_pos (by omega), mix_zero, Int.toNat_natCast]; rfl
  · have hm : (l.map treeOf).length = (List.replicate l.length z68).length := by simp
    have hl2 : (List.replicate l.length z68).length = l.length := by simp
    refine ev_loop0 (fun k j => laws_toTreeS.l0 k l (mix (l.map treeOf) (List.replicate l.length z68) j) (j : Int)) l.length _ (fun j hj => ?_) ⟨0, fun k _ => ?_⟩
    · have hrd : rd_T117 l (j : Int) = l.getD j z117 := by unfold rd_T117; rw [Int.toNat_natCast]
      obtain ⟨K, hK⟩ := to_nodes (l.getD j z117).f0 (Nat.le_trans (totI_mem l j hj) ht)
      refine ⟨K, fun k hk => ?_⟩
      show laws_toTreeS.l0 (k + 1) l (mix (l.map treeOf) (List.replicate l.length z68) j) (j : Int) = _
      rw [laws_toTreeS.l0, if_pos (by omega), if_pos (by omega), hrd]
      unfold laws_toTree.f
      rw [show laws_toNodeS.f k (l.getD j z117).f0 = some ((l.getD j z117).f0.map nodeOf) from hK k hk]
      simp only [Option.bind_some]
      rw [if_pos (by rw [mix_len _ _ hm _ (by omega)]; omega), Int.toNat_natCast, wnext j l.length hj (by omega), ← mix_set _ _ hm j (by omega) _ (map_get treeOf l j z117 hj)]
      rfl
    · show laws_toTreeS.l0 (k + 1) l (mix (l.map treeOf) (List.replicate l.length z68) l.length) (l.length : Int) = _
      have := mix_all _ _ hm
      rw [List.length_map] at this
      rw [laws_toTreeS.l0, if_neg (by omega), this]
theorem rdt (l : List S68) (j : Nat) : rd_T68 l (j : Int) = l.getD j z68 := by unfold rd_T68; rw [Int.toNat_natCast]
theorem eq_trees (l : List S68) (hl : l.length ≤ 1048576) (ht : totO l l.length ≤ 1048576) : Ev (fun k => laws_eqTreeS.f k l l) true := by
  refine Ev.congr (fun k => ?_) (f := fun k => laws_eqTreeS.l0 k l l ((0 : Nat) : Int)) ?_
  · unfold laws_eqTreeS.f
    rw [if_pos rfl]; rfl
  · refine ev_loop0 (fun k j => laws_eqTreeS.l0 k l l (j : Int)) l.length true (fun j hj => ?_) ⟨0, fun k _ => ?_⟩
    · obtain ⟨K, hK⟩ := eq_nodes (l.getD j z68).f0 (Nat.le_trans (totO_mem l j hj) ht)
      refine ⟨K, fun k hk => ?_⟩
      show laws_eqTreeS.l0 (k + 1) l l (j : Int) = _
      rw [laws_eqTreeS.l0, if_pos (by omega), if_pos (by omega), if_pos (by omega), rdt]
      unfold laws_eqTree.f
      rw [show laws_eqNodeS.f k (l.getD j z68).f0 (l.getD j z68).f0 = some true from hK k hk]
      simp only [Option.bind_some, if_true]
      rw [wnext j l.length hj (by omega)]
    · show laws_eqTreeS.l0 (k + 1) l l (l.length : Int) = _
      rw [laws_eqTreeS.l0, if_neg (by omega)]
def markedT (l : List S68) (c : Int) : List S68 := (List.range l.length).map fun (i : Nat) => ⟨markedN (l.getD i z68).f0.length (c + 5 * (totO l i : Nat))⟩
theorem mark_trees (l : List S68) (hl : l.length ≤ 1048576) (ht : totO l l.length ≤ 1048576) (c : Int) (h0 : 0 ≤ c) (h1 : c ≤ 1073741824) : Ev (fun k => laws_markTreeS.f k l c) (c + 5 * (totO l l.length : Nat), markedT l c) := by
  have hm : (markedT l c).length = l.length := by simp [markedT]
  refine Ev.congr (fun k => ?_) (f := fun k => laws_markTreeS.l0 k (mix (markedT l c) l 0) (c + 5 * (totO l 0 : Nat)) ((0 : Nat) : Int)) ?_
  · unfold laws_markTreeS.f
    rw [mix_zero]; simp [totO]
  · refine ev_loop0 (fun k j => laws_markTreeS.l0 k (mix (markedT l c) l j) (c + 5 * (totO l j : Nat)) (j : Int)) l.length _ (fun j hj => ?_) ⟨0, fun k _ => ?_⟩
    · have hlen := mix_len _ _ hm j (by omega)
      have ht1 := totO_le l j
      obtain ⟨K, hK⟩ := mark_nodes (l.getD j z68).f0 (Nat.le_trans (totO_mem l j hj) ht) (c + 5 * (totO l j : Nat)) (by omega) (by omega)
      refine ⟨K, fun k hk => ?_⟩
      show laws_markTreeS.l0 (k + 1) (mix (markedT l c) l j) (c + 5 * (totO l j : Nat)) (j : Int) = _
      rw [laws_markTreeS.l0, if_pos (by omega), if_pos (by omega), rdt, mix_get _ _ hm j (by omega), show laws_markNodeS.f k (l.getD j z68).f0 (c + 5 * (totO l j : Nat)) = _ from hK k hk]
      simp only [Option.bind_some]
      rw [Int.toNat_natCast, mix_set _ _ hm j (by omega) _ (by rw [markedT]; exact range_get _ _ _ hj), wnext j l.length hj (by omega), totO_step l j hj]
      congr 1
      omega
    · show laws_markTreeS.l0 (k + 1) (mix (markedT l c) l l.length) (c + 5 * (totO l l.length : Nat)) (l.length : Int) = _
      rw [laws_markTreeS.l0, if_neg (by rw [mix_len _ _ hm _ (by omega)]; omega)]
      have := mix_all _ _ hm
      rw [hm] at this
      rw [this]
theorem held_trees (l : List S68) (hl : l.length ≤ 1048576) (ht : totO l l.length ≤ 1048576) (c : Int) (h0 : 0 ≤ c) (h1 : c ≤ 1073741824) : Ev (fun k => laws_heldTreeS.f k (markedT l c) c) (c + 5 * (totO l l.length : Nat)) := by
  have hm : (markedT l c).length = l.length := by simp [markedT]
  refine Ev.congr (fun k => ?_) (f := fun k => laws_heldTreeS.l0 k (markedT l c) (c + 5 * (totO l 0 : Nat)) ((0 : Nat) : Int)) ?_
  · unfold laws_heldTreeS.f
    simp [totO]
  · refine ev_loop0 (fun k j => laws_heldTreeS.l0 k (markedT l c) (c + 5 * (totO l j : Nat)) (j : Int)) l.length _ (fun j hj => ?_) ⟨0, fun k _ => ?_⟩
    · have ht1 := totO_le l j
      obtain ⟨K, hK⟩ := held_nodes (l.getD j z68).f0.length (Nat.le_trans (totO_mem l j hj) ht) (c + 5 * (totO l j : Nat)) (by omega) (by omega)
      refine ⟨K, fun k hk => ?_⟩
      show laws_heldTreeS.l0 (k + 1) (markedT l c) (c + 5 * (totO l j : Nat)) (j : Int) = _
      rw [laws_heldTreeS.l0, if_pos (by rw [hm]; omega), if_pos (by omega), rdt, show (markedT l c).getD j z68 = ⟨markedN (l.getD j z68).f0.length (c + 5 * (totO l j : Nat))⟩ from range_getD _ _ _ hj _, show laws_heldNodeS.f k (markedN (l.getD j z68).f0.length (c + 5 * (totO l j : Nat))) (c + 5 * (totO l j : Nat)) = _ from hK k hk]
      simp only [Option.bind_some]
      rw [if_neg (by omega), wnext j l.length hj (by omega), totO_step l j hj]
      congr 1
      omega
    · show laws_heldTreeS.l0 (k + 1) (markedT l c) (c + 5 * (totO l l.length : Nat)) (l.length : Int) = _
      rw [laws_heldTreeS.l0, if_neg (by rw [hm]; omega)]
/-! ### Models -/
theorem sz_model (n : List ByteArray) (s : List Int) (b : Int) (t : List S117) (hn : GList GStr n) (hs : s.length ≤ maxLen) (ht : t.length ≤ maxLen) (ht2 : ∀ x, x ∈ t → x.f0.length ≤ maxLen) (a : Int) (h0 : 0 ≤ a) (h1 : a ≤ 1048576) :
    ∃ r, Ev (fun k => laws_szModel.f k n s b t a) r ∧ (0 ≤ r → (n.length : Int) + s.length + t.length + totI t 0 + r ≤ a) := by
  obtain ⟨r1, ⟨K1, e1⟩, b1⟩ := sz_strs n hn a h0 h1
  by_cases c1 : r1 < 0
  · refine ⟨-1, ⟨K1, fun k hk => ?_⟩, fun h => by omega⟩
    dsimp only
    rw [laws_szModel.f, show laws_szStringS.f k n a = some r1 from e1 k hk]
    simp only [Option.bind_some]
    rw [if_pos c1]
  · have q1 := b1 (by omega)
    obtain ⟨r2, e2, b2⟩ := sz_ints s (bigLen _ hs) r1 (by omega) (by omega)
    by_cases c2 : r2 < 0
    · refine ⟨-1, ⟨K1, fun k hk => ?_⟩, fun h => by omega⟩
      dsimp only
      rw [laws_szModel.f, show laws_szStringS.f k n a = some r1 from e1 k hk]
      simp only [Option.bind_some]
      rw [if_neg c1, e2]
      simp only [Option.bind_some]
      rw [if_pos c2]
    · have q2 := b2 (by omega)
      obtain ⟨r3, ⟨K3, e3⟩, b3⟩ := sz_trees t (bigLen _ ht) (fun x hx => bigLen _ (ht2 x hx)) r2 (by omega) (by omega)
      refine ⟨if r3 < 0 then -1 else r3, ⟨max K1 K3, fun k hk => ?_⟩, fun h => ?_⟩
      · dsimp only
        rw [laws_szModel.f, show laws_szStringS.f k n a = some r1 from e1 k (by omega)]
        simp only [Option.bind_some]
        rw [if_neg c1, e2]
        simp only [Option.bind_some]
        rw [if_neg c2, show laws_szTreeS.f k t r2 = some r3 from e3 k (by omega)]
        simp only [Option.bind_some]
        by_cases c3 : r3 < 0
        · rw [if_pos c3, if_pos c3]
        · rw [if_neg c3, if_neg c3]
      · by_cases c3 : r3 < 0
        · rw [if_pos c3] at h; omega
        · rw [if_neg c3] at h ⊢
          have q3 := b3 (by omega)
          omega
theorem to_model (n : List ByteArray) (s : List Int) (b : Int) (t : List S117) (hn : n.length ≤ 1048576) (hs : s.length ≤ 1048576) (ht : t.length ≤ 1048576) (ht2 : totI t 0 ≤ 1048576) :
    Ev (fun k => laws_toModel.f k n s b t) (n, s, b, t.map treeOf) := by
  obtain ⟨K1, e1⟩ := to_strs n hn
  obtain ⟨K2, e2⟩ := to_ints s hs
  obtain ⟨K3, e3⟩ := to_trees t ht ht2
  refine ⟨max K1 (max K2 K3), fun k hk => ?_⟩
  dsimp only
  rw [laws_toModel.f, show laws_toStringS.f k n = some n from e1 k (by omega), show laws_toIntS.f k s = some s from e2 k (by omega), show laws_toTreeS.f k t = some (t.map treeOf) from e3 k (by omega)]
  rfl
theorem eq_model (n : List ByteArray) (s : List Int) (b : Int) (t : List S68) (hn : n.length ≤ 1048576) (hs : s.length ≤ 1048576) (ht : t.length ≤ 1048576) (ht2 : totO t t.length ≤ 1048576) :
    Ev (fun k => laws_eqModel.f k n s b t n s b t) true := by
  obtain ⟨K1, e1⟩ := eq_strs n hn
  obtain ⟨K2, e2⟩ := eq_ints s hs
  obtain ⟨K3, e3⟩ := eq_trees t ht ht2
  refine ⟨max K1 (max K2 K3), fun k hk => ?_⟩
  dsimp only
  rw [laws_eqModel.f, show laws_eqStringS.f k n n = some true from e1 k (by omega), show laws_eqIntS.f k s s = some true from e2 k (by omega), show laws_eqTreeS.f k t t = some true from e3 k (by omega)]
  simp only [Option.bind_some, if_true]
theorem mark_model (n : List ByteArray) (s : List Int) (b : Int) (t : List S68) (hn : n.length ≤ 1048576) (hs : s.length ≤ 1048576) (ht : t.length ≤ 1048576) (ht2 : totO t t.length ≤ 1048576) :
    Ev (fun k => laws_markModel.f k n s b t 1) (1 + n.length + s.length + 5 * (totO t t.length : Nat), markedS n.length 1, markedI s.length (1 + n.length), markedT t (1 + n.length + s.length)) := by
  obtain ⟨K1, e1⟩ := mark_strs n hn 1 (by omega) (by omega)
  obtain ⟨K2, e2⟩ := mark_ints s hs (1 + n.length) (by omega) (by omega)
  obtain ⟨K3, e3⟩ := mark_trees t ht ht2 (1 + n.length + s.length) (by omega) (by omega)
  refine ⟨max K1 (max K2 K3), fun k hk => ?_⟩
  dsimp only
  rw [laws_markModel.f, show laws_markStringS.f k n 1 = _ from e1 k (by omega)]
  simp only [Option.bind_some]
  rw [show laws_markIntS.f k s (1 + n.length) = _ from e2 k (by omega)]
  simp only [Option.bind_some]
  rw [show laws_markTreeS.f k t (1 + n.length + s.length) = _ from e3 k (by omega)]
  simp only [Option.bind_some]
theorem held_model (n : List ByteArray) (s : List Int) (b : Int) (t : List S68) (hn : n.length ≤ 1048576) (hs : s.length ≤ 1048576) (ht : t.length ≤ 1048576) (ht2 : totO t t.length ≤ 1048576) :
    Ev (fun k => laws_heldModel.f k (markedS n.length 1) (markedI s.length (1 + n.length)) b (markedT t (1 + n.length + s.length)) 1) (1 + n.length + s.length + 5 * (totO t t.length : Nat)) := by
  obtain ⟨K1, e1⟩ := held_strs n.length hn 1 (by omega) (by omega)
  obtain ⟨K2, e2⟩ := held_ints s.length hs (1 + n.length) (by omega) (by omega)
  obtain ⟨K3, e3⟩ := held_trees t ht ht2 (1 + n.length + s.length) (by omega) (by omega)
  refine ⟨max K1 (max K2 K3), fun k hk => ?_⟩
  dsimp only
  rw [laws_heldModel.f, show laws_heldStringS.f k (markedS n.length 1) 1 = _ from e1 k (by omega)]
  simp only [Option.bind_some]
  rw [if_neg (by omega), show laws_heldIntS.f k (markedI s.length (1 + n.length)) (1 + n.length) = _ from e2 k (by omega)]
  simp only [Option.bind_some]
  rw [if_neg (by omega), show laws_heldTreeS.f k (markedT t (1 + n.length + s.length)) (1 + n.length + s.length) = _ from e3 k (by omega)]
  simp only [Option.bind_some]
  rw [if_neg (by omega)]
/-! ### The first trees -/
theorem spec_copies (t : List S68) (ht : t.length ≤ 1048576) (ht2 : totO t t.length ≤ 1048576) : Ev (fun k => spec_l22Trees.f k t) t := by
  refine Ev.congr (fun k => ?_) (f := fun k => spec_l22Trees.l0 k t (t.take 0) ((0 : Nat) : Int)) ?_
  · unfold spec_l22Trees.f; rfl
  · refine ev_loop0 (fun k j => spec_l22Trees.l0 k t (t.take j) (j : Int)) t.length _ (fun j hj => ⟨0, fun k _ => ?_⟩) ⟨0, fun k _ => ?_⟩
    · show spec_l22Trees.l0 (k + 1) t (t.take j) (j : Int) = _
      have := totO_mem t j hj
      rw [spec_l22Trees.l0, if_pos (by omega), if_pos (by omega), rdt]
      unfold spec_l17Copy.f
      simp only [Option.bind_some, List.length_nil, List.nil_append]
      rw [if_pos (by omega)]
      simp only [Option.bind_some]
      rw [if_pos (by rw [List.length_take]; omega), wnext j t.length hj (by omega), ← take_snoc1 t j z68 hj]
    · show spec_l22Trees.l0 (k + 1) t (t.take t.length) (t.length : Int) = _
      rw [spec_l22Trees.l0, if_neg (by omega), List.take_length]
theorem impl_copies (t : List S68) (ht : t.length ≤ 1048576) (ht2 : totO t t.length ≤ 1048576) : Ev (fun k => impl_copyTrees.f k t) t := by
  refine Ev.congr (fun k => ?_) (f := fun k => impl_copyTrees.l0 k (t.take 0) t (t.length : Int) ((0 : Nat) : Int)) ?_
  · unfold impl_copyTrees.f; rfl
  · refine ev_loop0 (fun k j => impl_copyTrees.l0 k (t.take j) t (t.length : Int) (j : Int)) t.length _ (fun j hj => ⟨0, fun k _ => ?_⟩) ⟨0, fun k _ => ?_⟩
    · show impl_copyTrees.l0 (k + 1) (t.take j) t (t.length : Int) (j : Int) = _
      have := totO_mem t j hj
      rw [impl_copyTrees.l0, if_pos (by omega), if_pos (by omega), if_pos (by omega), rdt]
      unfold impl_copyTree.f impl_Node.f
      rw [if_pos (by omega)]
      simp only [Option.bind_some]
      rw [if_pos (by rw [List.length_take]; omega), wnext j t.length hj (by omega), ← take_snoc1 t j z68 hj]
    · show impl_copyTrees.l0 (k + 1) (t.take t.length) t (t.length : Int) (t.length : Int) = _
      rw [impl_copyTrees.l0, if_neg (by omega), List.take_length]
def brought (a n : Int) : Int := if a < 0 then 0 else if a > n then n else a
theorem brought_in (a n : Int) (h : 0 ≤ n) : 0 ≤ brought a n ∧ brought a n ≤ n := by
  unfold brought
  split
  · omega
  · split <;> omega
theorem spec_first (n : List ByteArray) (s : List Int) (b : Int) (t : List S68) (a : Int) (hn : n.length ≤ 1048576) (hs : s.length ≤ 1048576) (ht : t.length ≤ 1048576) (ht2 : totO t t.length ≤ 1048576) :
    Ev (fun k => spec_FirstTrees.f k n s b t a) (n, s, b, t.take (brought a t.length).toNat) := by
  obtain ⟨K, e⟩ := spec_copies t ht ht2
  refine ⟨K, fun k hk => ?_⟩
  have hb : spec_Brought.f a 0 (t.length : Int) = some (brought a t.length) := by
    unfold spec_Brought.f brought
    split
    · rfl
    · split <;> rfl
  have h0 : 0 ≤ brought a t.length ∧ brought a t.length ≤ t.length := brought_in a _ (by omega)
  dsimp only
  unfold spec_FirstTrees.f spec_l24Copy.f
  simp only [Option.bind_some, List.length_nil, List.nil_append]
  rw [if_pos (by omega), if_pos (by omega), show spec_l22Trees.f k t = some t from e k hk]
  simp only [Option.bind_some, hb]
  rw [if_pos h0.1, if_pos h0.2]
theorem impl_first (n : List ByteArray) (s : List Int) (b : Int) (t : List S68) (a : Int) (hn : n.length ≤ 1048576) (hs : s.length ≤ 1048576) (ht : t.length ≤ 1048576) (ht2 : totO t t.length ≤ 1048576) :
    Ev (fun k => impl_FirstTrees.f k n s b t a) (n, s, b, t.take (brought a t.length).toNat) := by
  obtain ⟨K, e⟩ := impl_copies t ht ht2
  refine ⟨K, fun k hk => ?_⟩
  have hb : impl_Brought.f a 0 (t.length : Int) = some (brought a t.length) := by
    unfold impl_Brought.f brought
    split
    · rfl
    · split <;> rfl
  have h0 : 0 ≤ brought a t.length ∧ brought a t.length ≤ t.length := brought_in a _ (by omega)
  dsimp only
  unfold impl_FirstTrees.f impl_copyModel.f slices_Clone_string_string.f slices_Clone_int_int.f
  rw [if_pos (by omega), if_pos (by omega), show impl_copyTrees.f k t = some t from e k hk]
  simp only [Option.bind_some, hb]
  rw [if_pos h0.1, if_pos h0.2]
theorem totO_take (t : List S68) (m : Nat) (h : m ≤ t.length) : totO (t.take m) (t.take m).length ≤ totO t t.length := by
  have := totO_le t m
  unfold totO at *
  rw [List.take_length]
  exact this
theorem FnExactFirstTrees : Go.Proofs.Yteoikmbdpofhmaa.fnExactFirstTrees.Pure := by
  intro n s b t a hG _
  obtain ⟨hn, hs, _, ht⟩ := hG
  have ht2 : ∀ x, x ∈ t → x.f0.length ≤ maxLen := fun x hx => (ht.2 x hx).1
  obtain ⟨r, ⟨K0, e0⟩, b0⟩ := sz_model n s b t hn hs.1 ht.1 ht2 1048576 (by omega) (by omega)
  by_cases c : r < 0
  · refine ⟨K0, ?_⟩
    rw [laws_FnExactFirstTrees.f, show laws_szModel.f K0 n s b t 1048576 = some r from e0 K0 (Nat.le_refl _)]
    simp only [Option.bind_some]
    rw [if_pos c]
  · have q := b0 (by omega)
    have tt : totO (t.map treeOf) (t.map treeOf).length ≤ 1048576 := by
      rw [List.length_map, totO_all]; omega
    have tl : (t.map treeOf).length ≤ 1048576 := by rw [List.length_map]; omega
    obtain ⟨K1, e1⟩ := to_model n s b t (by omega) (by omega) (by omega) (by omega)
    obtain ⟨K2, e2⟩ := spec_first n s b (t.map treeOf) a (by omega) (by omega) tl tt
    obtain ⟨K3, e3⟩ := impl_first n s b (t.map treeOf) a (by omega) (by omega) tl tt
    have hin := brought_in a ((t.map treeOf).length : Int) (by omega)
    have tt2 := totO_take (t.map treeOf) (brought a (t.map treeOf).length).toNat (by omega)
    have tl2 : ((t.map treeOf).take (brought a (t.map treeOf).length).toNat).length ≤ 1048576 := by rw [List.length_take]; omega
    obtain ⟨K4, e4⟩ := eq_model n s b _ (by omega) (by omega) tl2 (by omega)
    obtain ⟨K5, e5⟩ := eq_model n s b _ (by omega) (by omega) tl tt
    obtain ⟨K6, e6⟩ := mark_model n s b _ (by omega) (by omega) tl tt
    obtain ⟨K7, e7⟩ := mark_model n s b _ (by omega) (by omega) tl2 (by omega)
    obtain ⟨K8, e8⟩ := held_model n s b _ (by omega) (by omega) tl2 (by omega)
    refine ⟨max K0 (max K1 (max K2 (max K3 (max K4 (max K5 (max K6 (max K7 K8))))))), ?_⟩
    generalize hk : max K0 (max K1 (max K2 (max K3 (max K4 (max K5 (max K6 (max K7 K8))))))) = k
    have f0 := e0 k (by omega)
    have f1 := e1 k (by omega)
    have f2 := e2 k (by omega)
    have f3 := e3 k (by omega)
    have f4 := e4 k (by omega)
    have f5 := e5 k (by omega)
    have f6 := e6 k (by omega)
    have f7 := e7 k (by omega)
    have f8 := e8 k (by omega)
    dsimp only at f0 f1 f2 f3 f4 f5 f6 f7 f8
    rw [laws_FnExactFirstTrees.f, f0]
    simp only [Option.bind_some]
    rw [if_neg c, f1]
    simp only [Option.bind_some]
    rw [f2, f3]
    simp only [Option.bind_some]
    rw [f4, f5]
    simp only [Option.bind_some]
    rw [f6, f7]
    simp only [Option.bind_some]
    rw [f8]
    simp only [Option.bind_some]
    rw [if_pos ⟨trivial, trivial, by omega, by omega, trivial⟩]

end Go.Proofs.Yteoikmbdpofhmaa.Pure
