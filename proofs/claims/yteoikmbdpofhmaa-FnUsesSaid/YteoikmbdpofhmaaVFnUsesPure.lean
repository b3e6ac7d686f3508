/- The pure statement of FnUses: the features come in the order of their uses, the same in the program and in the reference, and the uses of all features are the nodes that are no leaves. Conditions: none. -/
import Derived.Test.YteoikmbdpofhmaaVFnUsesSaid
import Derived.Laws.BitsLemmas
namespace Go.Proofs.Yteoikmbdpofhmaa.Pure
open Go.RowKit Go.Proofs.YteoikmbdpofhmaaW.PrintWords Go.Proofs.YteoikmbdpofhmaaW.PrintLast Go.Proofs.Yteoikmbdpofhmaa.XFnUses Go.Proofs.Yteoikmbdpofhmaa.Opens Go.Proofs.Yteoikmbdpofhmaa.fnUses
set_option linter.unusedVariables false
def int64B (n : Int) : Prop := -9223372036854775808 ≤ n ∧ n ≤ 9223372036854775807
instance (n : Int) : Decidable (int64B n) := by unfold int64B; exact inferInstance
theorem zero_B : int64B 0 := by constructor <;> omega
theorem and255 (n : Int) : Go.bits .and .i64 n 255 = n % 256 := by
  have h255 : (BitVec.ofInt 64 255).toNat = 2 ^ 8 - 1 := by decide
  have key : (BitVec.ofInt 64 n &&& BitVec.ofInt 64 255).toNat = (n % ((2 ^ 64 : Nat) : Int)).toNat % 2 ^ 8 := by
    rw [BitVec.toNat_and, BitVec.toNat_ofInt, h255, Nat.and_two_pow_sub_one_eq_mod]
  show IntKind.i64.wrap ((BitVec.ofInt 64 n &&& BitVec.ofInt 64 255).toNat : Nat) = n % 256
  rw [key, IntKind.wrap_i64]
  omega
def At (l : List Int) (i : Int) : Prop := 0 ≤ i ∧ i ≤ l.length ∧ l.length ≤ 1099511627776
theorem draw_byte (l : List Int) (i h : Int) (hi : At l i) : ∃ b i' h', spec_l1Byte.f l i h = some (b, i', h') ∧ 0 ≤ b ∧ b ≤ 255 ∧ At l i' := by
  obtain ⟨h0, h1, h2⟩ := hi
  unfold spec_l1Byte.f
  by_cases c : i < (l.length : Int)
  · rw [if_pos c, if_pos h0]
    have hw : wrap64 (i + 1) = i + 1 := by unfold wrap64; omega
    refine ⟨_, _, _, rfl, ?_, ?_, ?_⟩
    · rw [and255]; omega
    · rw [and255]; omega
    · rw [hw]; exact ⟨by omega, by omega, h2⟩
  · rw [if_neg c]
    refine ⟨_, _, _, rfl, ?_, ?_, h0, h1, h2⟩
    · rw [and255]; omega
    · rw [and255]; omega
theorem tmod_below (x n : Int) (h0 : 0 ≤ x) (hn : 0 < n) : 0 ≤ Int.tmod x n ∧ Int.tmod x n < n := by
  rw [Int.tmod_eq_emod_of_nonneg h0]
  exact ⟨Int.emod_nonneg _ (by omega), Int.emod_lt_of_pos _ hn⟩
theorem draw_below (l : List Int) (i h n : Int) (hi : At l i) : ∃ b i' h', spec_l1Below.f l i h n = some (b, i', h') ∧ 0 ≤ b ∧ (0 < n → b < n) ∧ At l i' := by
  unfold spec_l1Below.f
  by_cases c : n ≤ 0
  · rw [if_pos c]; exact ⟨0, i, h, rfl, by omega, by omega, hi⟩
  · rw [if_neg c]
    obtain ⟨b1, i1, h1, e1, p1, q1, a1⟩ := draw_byte l i h hi
    by_cases c2 : n ≤ 256
    · rw [if_pos c2, e1]
      simp only [Option.bind_some]
      rw [if_neg (by omega)]
      obtain ⟨r1, r2⟩ := tmod_below b1 n p1 (by omega)
      exact ⟨_, _, _, rfl, r1, fun _ => r2, a1⟩
    · rw [if_neg c2, e1]
      simp only [Option.bind_some]
      obtain ⟨b2, i2, h2, e2, p2, q2, a2⟩ := draw_byte l i1 h1 a1
      rw [e2]
      simp only [Option.bind_some]
      obtain ⟨b3, i3, h3, e3, p3, q3, a3⟩ := draw_byte l i2 h2 a2
      rw [e3]
      simp only [Option.bind_some]
      obtain ⟨b4, i4, h4, e4, p4, q4, a4⟩ := draw_byte l i3 h3 a3
      rw [e4]
      simp only [Option.bind_some]
      rw [if_neg (by omega)]
      obtain ⟨r1, r2⟩ := tmod_below (wrap64 ((wrap64 ((wrap64 ((wrap64 (b1 * 16777216)) + (wrap64 (b2 * 65536)))) + (wrap64 (b3 * 256)))) + b4)) n (by unfold wrap64; omega) (by omega)
      exact ⟨_, _, _, rfl, r1, fun _ => r2, a4⟩
theorem draw_new_loop (d : Nat) : ∀ (k : Nat) (l : List Int) (x i : Int), 0 ≤ i → (4000 - i).toNat ≤ d → d < k → l.length ≤ 1099511627776 → ∃ h, spec_l1New.l0 k l x i = some (l, 0, h) := by
  induction d with
  | zero =>
    intro k l x i h0 hd hk hl
    obtain ⟨k, rfl⟩ : ∃ m, k = m + 1 := ⟨k - 1, by omega⟩
    rw [spec_l1New.l0]
    by_cases c : i < (l.length : Int)
    · rw [if_pos c, if_neg (by omega)]; exact ⟨_, rfl⟩
    · rw [if_neg c]; exact ⟨_, rfl⟩
  | succ d ih =>
    intro k l x i h0 hd hk hl
    obtain ⟨k, rfl⟩ : ∃ m, k = m + 1 := ⟨k - 1, by omega⟩
    rw [spec_l1New.l0]
    by_cases c : i < (l.length : Int)
    · rw [if_pos c]
      by_cases c2 : i < 4000
      · rw [if_pos c2, if_pos h0]
        have hw : wrap64 (i + 1) = i + 1 := by unfold wrap64; omega
        rw [hw]
        exact ih k l _ (i + 1) (by omega) (by omega) (by omega) hl
      · rw [if_neg c2]; exact ⟨_, rfl⟩
    · rw [if_neg c]; exact ⟨_, rfl⟩
theorem draw_new (k : Nat) (l : List Int) (hk : 4001 ≤ k) (hl : l.length ≤ 1099511627776) : ∃ h, spec_l1New.f k l = some (l, 0, h) ∧ At l 0 := by
  obtain ⟨h, e⟩ := draw_new_loop 4000 k l (wrap64 (28507 + (l.length : Int))) 0 (by omega) (by omega) (by omega) hl
  exact ⟨h, e, by omega, by omega, hl⟩
theorem wnext (j n : Nat) (h : j < n) (hn : n ≤ 1099511627776) : wrap64 ((j : Int) + 1) = ((j + 1 : Nat) : Int) := by unfold wrap64; omega
theorem getD_get {α : Type} (l : List α) (j : Nat) (d : α) (h : j < l.length) : l[j]? = some (l.getD j d) := by
  rw [List.getD_eq_getElem?_getD, List.getElem?_eq_getElem h]; rfl
theorem rd_nat (l : List Int) (j : Nat) : rd l (j : Int) = l.getD j 0 := by unfold rd; rw [Int.toNat_natCast]
theorem rdOf_nat {α : Type} (d : α) (l : List α) (j : Nat) : rdOf d l (j : Int) = l.getD j d := by unfold rdOf; rw [Int.toNat_natCast]
theorem take_snoc1 {α : Type} (l : List α) (j : Nat) (d : α) (h : j < l.length) : l.take j ++ [l.getD j d] = l.take (j + 1) := by
  rw [List.take_add_one, getD_get l j d h]; rfl
def innerB (x : S93) : Bool := x.f0 != (-1)
theorem inner_f (x : S93) : spec_l17Inner.f x.f0 x.f1 x.f2 x.f3 x.f4 = some (innerB x) := rfl
theorem rdn (l : List S93) (j : Nat) : rd_T93 l (j : Int) = l.getD j z93 := by unfold rd_T93; rw [Int.toNat_natCast]
theorem int_nat {i : Int} (h : 0 ≤ i) : ∃ j : Nat, i = (j : Int) := ⟨i.toNat, (Int.toNat_of_nonneg h).symm⟩
def node64 (x : S93) : Prop := int64B x.f0 ∧ int64B x.f1 ∧ int64B x.f2 ∧ int64B x.f3 ∧ int64B x.f4
theorem wrap64_B' (x : Int) : int64B (wrap64 x) := by unfold int64B wrap64; constructor <;> omega
theorem z64 : node64 z93 := by unfold node64 z93 int64B; simp
theorem getD64 (t : List S93) (h : ∀ x ∈ t, node64 x) (j : Nat) : node64 (t.getD j z93) := by
  rw [List.getD_eq_getElem?_getD]
  cases e : t[j]? with
  | none => exact z64
  | some x => exact h x (List.mem_of_getElem? e)
theorem set64 (t : List S93) (h : ∀ x ∈ t, node64 x) (j : Nat) (v : S93) (hv : node64 v) : ∀ x ∈ t.set j v, node64 x := by
  intro x hx
  rcases List.mem_or_eq_of_mem_set hx with h1 | h1
  · exact h x h1
  · rw [h1]; exact hv
theorem leaves_loop (t : List S93) (ht : t.length ≤ 1048576) : ∀ d j (acc : List Int), j + d = t.length → acc.length ≤ j → (∀ x ∈ acc, 0 ≤ x ∧ x < (t.length : Int)) →
    ∃ r, Ev (fun k => spec_LeavesOf.l0 k acc (j : Int) t) r ∧ (∀ x ∈ r, 0 ≤ x ∧ x < (t.length : Int)) ∧ r.length ≤ t.length ∧ (acc ≠ [] → r ≠ []) ∧ ((∃ i, j ≤ i ∧ i < t.length ∧ innerB (t.getD i z93) = false) → r ≠ []) := by
  intro d
  induction d with
  | zero =>
    intro j acc hj ha hx
    refine ⟨acc, ⟨1, fun k hk => ?_⟩, hx, by omega, id, fun ⟨i, h1, h2, _⟩ => by omega⟩
    obtain ⟨m, rfl⟩ : ∃ m, k = m + 1 := ⟨k - 1, by omega⟩
    dsimp only
    rw [spec_LeavesOf.l0, if_neg (by omega)]
  | succ d ih =>
    intro j acc hj ha hx
    by_cases hi : innerB (t.getD j z93) = true
    · obtain ⟨r, hr, h1, h2, h3, h4⟩ := ih (j + 1) acc (by omega) (by omega) hx
      refine ⟨r, hr.step (fun k => ?_), h1, h2, h3, fun ⟨i, a, b, c⟩ => h4 ⟨i, ?_, b, c⟩⟩
      · rw [spec_LeavesOf.l0, if_pos (by omega), if_pos (by omega), rdn, inner_f]
        simp only [Option.bind_some]
        rw [if_pos hi, wnext j t.length (by omega) (by omega)]
      · rcases Nat.lt_or_ge j i with h | h
        · exact h
        · have : i = j := by omega
          subst this; rw [hi] at c; cases c
    · obtain ⟨r, hr, h1, h2, h3, h4⟩ := ih (j + 1) (acc ++ [(j : Int)]) (by omega) (by simp; omega) (fun x hx2 => by
        rcases List.mem_append.1 hx2 with h | h
        · exact hx x h
        · have := List.mem_singleton.1 h; omega)
      refine ⟨r, hr.step (fun k => ?_), h1, h2, fun _ => h3 (by simp), fun _ => h3 (by simp)⟩
      rw [spec_LeavesOf.l0, if_pos (by omega), if_pos (by omega), rdn, inner_f]
      simp only [Option.bind_some]
      rw [if_neg hi, if_pos (by omega), wnext j t.length (by omega) (by omega)]
theorem leaves (t : List S93) (ht : t.length ≤ 1048576) : ∃ r, Ev (fun k => spec_LeavesOf.f k t) r ∧ (∀ x ∈ r, 0 ≤ x ∧ x < (t.length : Int)) ∧ r.length ≤ t.length ∧ ((∃ i, i < t.length ∧ innerB (t.getD i z93) = false) → r ≠ []) := by
  obtain ⟨r, h, h1, h2, _, h4⟩ := leaves_loop t ht t.length 0 [] (by omega) (by simp) (by simp)
  exact ⟨r, h, h1, h2, fun ⟨i, a, b⟩ => h4 ⟨i, by omega, a, b⟩⟩
def isUp (x : S93) (v : Int) : Bool := innerB x && (x.f2 == v || x.f3 == v)
theorem up_loop (t : List S93) (ht : t.length ≤ 1048576) (v : Int) : ∀ d j, j + d = t.length → ∃ r, Ev (fun k => spec_l17Up.l0 k v (j : Int) t) r ∧ (r = -1 ∧ (∀ i, j ≤ i → i < t.length → isUp (t.getD i z93) v = false) ∨ ∃ i : Nat, r = (i : Int) ∧ j ≤ i ∧ i < t.length ∧ isUp (t.getD i z93) v = true ∧ ∀ q, j ≤ q → q < i → isUp (t.getD q z93) v = false) := by
  intro d
  induction d with
  | zero =>
    intro j hj
    refine ⟨-1, ⟨1, fun k hk => ?_⟩, .inl ⟨rfl, fun i h1 h2 => by omega⟩⟩
    obtain ⟨m, rfl⟩ : ∃ m, k = m + 1 := ⟨k - 1, by omega⟩
    dsimp only
    rw [spec_l17Up.l0, if_neg (by omega)]
  | succ d ih =>
    intro j hj
    have hw := wnext j t.length (by omega) (by omega)
    have start : ∀ k, isUp (t.getD j z93) v = true → spec_l17Up.l0 (k + 1) v (j : Int) t = some (j : Int) := fun k h => by
      unfold isUp at h
      rw [Bool.and_eq_true, Bool.or_eq_true, beq_iff_eq, beq_iff_eq] at h
      rw [spec_l17Up.l0, if_pos (by omega), if_pos (by omega), rdn, inner_f]
      simp only [Option.bind_some]
      rw [if_pos h.1]
      by_cases h2 : (t.getD j z93).f2 = v
      · rw [if_pos h2]
      · rw [if_neg h2, if_pos (h.2.resolve_left h2)]
    have go : ∀ k, isUp (t.getD j z93) v = false → spec_l17Up.l0 (k + 1) v (j : Int) t = spec_l17Up.l0 k v ((j + 1 : Nat) : Int) t := fun k h => by
      unfold isUp at h
      rw [spec_l17Up.l0, if_pos (by omega), if_pos (by omega), rdn, inner_f]
      simp only [Option.bind_some]
      by_cases h1 : innerB (t.getD j z93) = true
      · rw [h1, Bool.true_and, Bool.or_eq_false_iff, beq_eq_false_iff_ne, beq_eq_false_iff_ne] at h
        rw [if_pos h1, if_neg h.1, if_neg h.2, hw]
      · rw [if_neg h1, hw]
    by_cases hu : isUp (t.getD j z93) v = true
    · refine ⟨(j : Int), ⟨1, fun k hk => ?_⟩, .inr ⟨j, rfl, Nat.le_refl _, by omega, hu, fun q h1 h2 => by omega⟩⟩
      obtain ⟨m, rfl⟩ : ∃ m, k = m + 1 := ⟨k - 1, by omega⟩
      exact start m hu
    · have hu := Bool.eq_false_iff.2 hu
      obtain ⟨r, hr, hd⟩ := ih (j + 1) (by omega)
      refine ⟨r, hr.step (fun k => go k hu), ?_⟩
      rcases hd with ⟨e, h⟩ | ⟨i, e, h1, h2, h3, h4⟩
      · exact .inl ⟨e, fun i a b => by
          rcases Nat.eq_or_lt_of_le a with rfl | a
          · exact hu
          · exact h i a b⟩
      · exact .inr ⟨i, e, by omega, h2, h3, fun q a b => by
          rcases Nat.eq_or_lt_of_le a with rfl | a
          · exact hu
          · exact h4 q a b⟩
theorem up (t : List S93) (ht : t.length ≤ 1048576) (v : Int) : ∃ r, Ev (fun k => spec_l17Up.f k t v) r ∧ (r = -1 ∧ (∀ i, i < t.length → isUp (t.getD i z93) v = false) ∨ ∃ i : Nat, r = (i : Int) ∧ i < t.length ∧ isUp (t.getD i z93) v = true ∧ ∀ q, q < i → isUp (t.getD q z93) v = false) := by
  obtain ⟨r, h, hd⟩ := up_loop t ht v t.length 0 (by omega)
  refine ⟨r, h, ?_⟩
  rcases hd with ⟨e, h⟩ | ⟨i, e, _, h2, h3, h4⟩
  · exact .inl ⟨e, fun i a => h i (by omega) a⟩
  · exact .inr ⟨i, e, h2, h3, fun q a => h4 q (by omega) a⟩
theorem level_loop (t : List S93) (ht : t.length ≤ 1048576) : ∀ d (n v : Int), (32 - n).toNat ≤ d → 0 ≤ n → n ≤ 32 → ∃ r, Ev (fun k => spec_LevelOf.l0 k v n t) r ∧ -1 ≤ r ∧ r ≤ 31 := by
  intro d
  induction d with
  | zero =>
    intro n v h h0 h1
    refine ⟨-1, ⟨1, fun k hk => ?_⟩, by omega, by omega⟩
    obtain ⟨m, rfl⟩ : ∃ m, k = m + 1 := ⟨k - 1, by omega⟩
    dsimp only
    rw [spec_LevelOf.l0, if_neg (by omega)]
  | succ d ih =>
    intro n v h h0 h1
    by_cases c : n ≤ 31
    · obtain ⟨u, ⟨K, hu⟩, _⟩ := up t ht v
      by_cases c2 : u < 0
      · refine ⟨n, ⟨K + 1, fun k hk => ?_⟩, by omega, by omega⟩
        obtain ⟨m, rfl⟩ : ∃ m, k = m + 1 := ⟨k - 1, by omega⟩
        dsimp only
        rw [spec_LevelOf.l0, if_pos c, show spec_l17Up.f m t v = some u from hu m (by omega)]
        simp only [Option.bind_some]
        rw [if_pos c2]
      · obtain ⟨r, ⟨K2, hr⟩, hb⟩ := ih (n + 1) u (by omega) (by omega) (by omega)
        refine ⟨r, ⟨max K K2 + 1, fun k hk => ?_⟩, hb⟩
        obtain ⟨m, rfl⟩ : ∃ m, k = m + 1 := ⟨k - 1, by omega⟩
        dsimp only
        rw [spec_LevelOf.l0, if_pos c, show spec_l17Up.f m t v = some u from hu m (by omega)]
        simp only [Option.bind_some]
        rw [if_neg c2, show wrap64 (n + 1) = n + 1 by unfold wrap64; omega]
        exact hr m (by omega)
    · refine ⟨-1, ⟨1, fun k hk => ?_⟩, by omega, by omega⟩
      obtain ⟨m, rfl⟩ : ∃ m, k = m + 1 := ⟨k - 1, by omega⟩
      dsimp only
      rw [spec_LevelOf.l0, if_neg c]
theorem l1in (a lo hi : Int) : spec_l1In.f a lo hi = some (decide (lo ≤ a ∧ a ≤ hi)) := by
  unfold spec_l1In.f
  by_cases h : a ≥ lo
  · rw [if_pos h]; congr 1; rw [decide_eq_decide]; exact ⟨fun x => ⟨h, x⟩, fun x => x.2⟩
  · rw [if_neg h]; congr 1; symm; rw [decide_eq_false_iff_not]; exact fun x => h x.1
theorem level (t : List S93) (ht : t.length ≤ 1048576) (v : Int) : ∃ r, Ev (fun k => spec_LevelOf.f k t v) r ∧ -1 ≤ r ∧ r ≤ 31 := by
  unfold spec_LevelOf.f
  simp only [l1in, Option.bind_some]
  by_cases c : decide (0 ≤ v ∧ v ≤ wrap64 ((t.length : Int) - 1)) = true
  · obtain ⟨r, hr, hb⟩ := level_loop t ht 32 0 v (by omega) (by omega) (by omega)
    exact ⟨r, hr.congr (fun k => by rw [if_pos c]), hb⟩
  · exact ⟨-1, ⟨0, fun k _ => by dsimp only; rw [if_neg c]⟩, by omega, by omega⟩
theorem depth_loop (t : List S93) (ht : t.length ≤ 1048576) : ∀ d j (m : Int), j + d = t.length → ∃ r, Ev (fun k => spec_DepthOf.l0 k m (j : Int) t) r := by
  intro d
  induction d with
  | zero =>
    intro j m hj
    refine ⟨m, 1, fun k hk => ?_⟩
    obtain ⟨q, rfl⟩ : ∃ q, k = q + 1 := ⟨k - 1, by omega⟩
    dsimp only
    rw [spec_DepthOf.l0, if_neg (by omega)]
  | succ d ih =>
    intro j m hj
    obtain ⟨v, ⟨K, hv⟩, _⟩ := level t ht (j : Int)
    obtain ⟨r, K2, hr⟩ := ih (j + 1) (if m > v then m else v) (by omega)
    refine ⟨r, max K K2 + 1, fun k hk => ?_⟩
    obtain ⟨q, rfl⟩ : ∃ q, k = q + 1 := ⟨k - 1, by omega⟩
    dsimp only
    rw [spec_DepthOf.l0, if_pos (by omega), show spec_LevelOf.f q t (j : Int) = some v from hv q (by omega)]
    simp only [Option.bind_some]
    rw [show spec_l1Max.f m v = some (if m > v then m else v) by unfold spec_l1Max.f; split <;> rfl]
    simp only [Option.bind_some]
    rw [wnext j t.length (by omega) (by omega)]
    exact hr q (by omega)
theorem depth (t : List S93) (ht : t.length ≤ 1048576) : ∃ r, Ev (fun k => spec_DepthOf.f k t) r := depth_loop t ht t.length 0 (-1) (by omega)
def Kids (t : List S93) (i : Nat) : Prop := innerB (t.getD i z93) = true → (i : Int) < (t.getD i z93).f2 ∧ (t.getD i z93).f3 = (t.getD i z93).f2 + 1 ∧ (t.getD i z93).f3 < (t.length : Int)
theorem shape_bad (x1 x5 x6 : Int) (t : List S93) (k : Nat) : spec_l17Shape.j1 (k + 1) x1 x5 x6 true t = some false := by rw [spec_l17Shape.j1, if_pos rfl]
theorem shape_loop (t : List S93) (ht : t.length ≤ 1048576) (x1 : Int) : ∀ d j (next : Int), j + d = t.length → 0 ≤ next → next ≤ 2 * j + 1 →
    ∃ b, Ev (fun k => spec_l17Shape.l0 k x1 next (j : Int) t) b ∧ (b = true → next ≤ t.length ∧ ∀ i, j ≤ i → i < t.length → Kids t i) := by
  intro d
  induction d with
  | zero =>
    intro j next hj h0 h1
    refine ⟨next == (t.length : Int), ⟨1, fun k hk => ?_⟩, fun h => ⟨by rw [beq_iff_eq] at h; omega, fun i a b => by omega⟩⟩
    obtain ⟨q, rfl⟩ : ∃ q, k = q + 1 := ⟨k - 1, by omega⟩
    dsimp only
    rw [spec_l17Shape.l0, if_neg (by omega)]
  | succ d ih =>
    intro j next hj h0 h1
    have fail : (∀ k, spec_l17Shape.l0 (k + 2) x1 next (j : Int) t = some false) → ∃ b, Ev (fun k => spec_l17Shape.l0 k x1 next (j : Int) t) b ∧ (b = true → next ≤ t.length ∧ ∀ i, j ≤ i → i < t.length → Kids t i) := fun h =>
      ⟨false, ⟨2, fun k hk => by obtain ⟨q, rfl⟩ : ∃ q, k = q + 2 := ⟨k - 2, by omega⟩; exact h q⟩, fun h => by cases h⟩
    by_cases hi : innerB (t.getD j z93) = true
    · have here := ()
      by_cases c1 : decide (0 ≤ (t.getD j z93).f0 ∧ (t.getD j z93).f0 ≤ wrap64 (x1 - 1)) = true
      · by_cases c2 : decide (-2147483647 ≤ (t.getD j z93).f1 ∧ (t.getD j z93).f1 ≤ 2147483647) = true
        · by_cases c3 : (t.getD j z93).f4 = 0
          · by_cases c4 : (t.getD j z93).f2 = next
            · by_cases c5 : (t.getD j z93).f3 = wrap64 (next + 1)
              · by_cases c6 : (t.getD j z93).f2 ≤ (j : Int)
                · exact fail (fun k => by rw [spec_l17Shape.l0, if_pos (by omega), if_pos (by omega), rdn, inner_f]; simp only [Option.bind_some]; rw [if_pos hi]; simp only [l1in, spec_l6Value.f, Option.bind_some]; rw [if_pos c1, if_pos c2, if_pos c3, if_pos c4, if_pos c5, decide_eq_true c6, shape_bad])
                · obtain ⟨b, ⟨K, hb⟩, hk⟩ := ih (j + 1) (next + 2) (by omega) (by omega) (by omega)
                  refine ⟨b, ⟨K + 2, fun k hk => ?_⟩, fun h => ?_⟩
                  · obtain ⟨q, rfl⟩ : ∃ q, k = q + 2 := ⟨k - 2, by omega⟩
                    dsimp only
                    rw [spec_l17Shape.l0, if_pos (by omega), if_pos (by omega), rdn, inner_f]; simp only [Option.bind_some]; rw [if_pos hi]; simp only [l1in, spec_l6Value.f, Option.bind_some]; rw [if_pos c1, if_pos c2, if_pos c3, if_pos c4, if_pos c5, decide_eq_false c6, spec_l17Shape.j1, if_neg (by decide), wnext j t.length (by omega) (by omega), show wrap64 (next + 2) = next + 2 by unfold wrap64; omega]
                    exact hb q (by omega)
                  · obtain ⟨h2, h3⟩ := hk h
                    have hw : wrap64 (next + 1) = next + 1 := by unfold wrap64; omega
                    refine ⟨by omega, fun i a b => ?_⟩
                    rcases Nat.eq_or_lt_of_le a with rfl | a
                    · intro _; rw [hw] at c5; omega
                    · exact h3 i a b
              · exact fail (fun k => by rw [spec_l17Shape.l0, if_pos (by omega), if_pos (by omega), rdn, inner_f]; simp only [Option.bind_some]; rw [if_pos hi]; simp only [l1in, spec_l6Value.f, Option.bind_some]; rw [if_pos c1, if_pos c2, if_pos c3, if_pos c4, if_neg c5, shape_bad])
            · exact fail (fun k => by rw [spec_l17Shape.l0, if_pos (by omega), if_pos (by omega), rdn, inner_f]; simp only [Option.bind_some]; rw [if_pos hi]; simp only [l1in, spec_l6Value.f, Option.bind_some]; rw [if_pos c1, if_pos c2, if_pos c3, if_neg c4, shape_bad])
          · exact fail (fun k => by rw [spec_l17Shape.l0, if_pos (by omega), if_pos (by omega), rdn, inner_f]; simp only [Option.bind_some]; rw [if_pos hi]; simp only [l1in, spec_l6Value.f, Option.bind_some]; rw [if_pos c1, if_pos c2, if_neg c3, shape_bad])
        · exact fail (fun k => by rw [spec_l17Shape.l0, if_pos (by omega), if_pos (by omega), rdn, inner_f]; simp only [Option.bind_some]; rw [if_pos hi]; simp only [l1in, spec_l6Value.f, Option.bind_some]; rw [if_pos c1, if_neg c2, shape_bad])
      · exact fail (fun k => by rw [spec_l17Shape.l0, if_pos (by omega), if_pos (by omega), rdn, inner_f]; simp only [Option.bind_some]; rw [if_pos hi]; simp only [l1in, spec_l6Value.f, Option.bind_some]; rw [if_neg c1, shape_bad])
    · have here := ()
      by_cases c1 : (!((t.getD j z93).f0 == (-1)) || (!((t.getD j z93).f1 == 0) || (!((t.getD j z93).f2 == 0) || (!((t.getD j z93).f3 == 0))))) = true
      · exact fail (fun k => by rw [spec_l17Shape.l0, if_pos (by omega), if_pos (by omega), rdn, inner_f]; simp only [Option.bind_some]; rw [if_neg hi]; simp only [spec_l14Leaf.f, l1in, Option.bind_some]; rw [if_pos c1])
      · by_cases c2 : decide (-1099511627776 ≤ (t.getD j z93).f4 ∧ (t.getD j z93).f4 ≤ 1099511627776) = true
        · obtain ⟨b, ⟨K, hb⟩, hk⟩ := ih (j + 1) next (by omega) (by omega) (by omega)
          refine ⟨b, ⟨K + 1, fun k hk => ?_⟩, fun h => ?_⟩
          · obtain ⟨q, rfl⟩ : ∃ q, k = q + 1 := ⟨k - 1, by omega⟩
            dsimp only
            rw [spec_l17Shape.l0, if_pos (by omega), if_pos (by omega), rdn, inner_f]; simp only [Option.bind_some]; rw [if_neg hi]; simp only [spec_l14Leaf.f, l1in, Option.bind_some]; rw [if_neg c1, if_pos c2, wnext j t.length (by omega) (by omega)]
            exact hb q (by omega)
          · obtain ⟨h2, h3⟩ := hk h
            refine ⟨h2, fun i a b => ?_⟩
            rcases Nat.eq_or_lt_of_le a with rfl | a
            · intro h4; exact absurd h4 hi
            · exact h3 i a b
        · exact fail (fun k => by rw [spec_l17Shape.l0, if_pos (by omega), if_pos (by omega), rdn, inner_f]; simp only [Option.bind_some]; rw [if_neg hi]; simp only [spec_l14Leaf.f, l1in, Option.bind_some]; rw [if_neg c1, if_neg c2])
theorem shape (t : List S93) (ht : t.length ≤ 1048576) (x1 : Int) : ∃ b, Ev (fun k => spec_l17Shape.f k t x1) b ∧ (b = true → ∀ i, i < t.length → Kids t i) := by
  obtain ⟨b, h, hb⟩ := shape_loop t ht x1 t.length 0 1 (by omega) (by omega) (by omega)
  exact ⟨b, h, fun h2 i hi => (hb h2).2 i (by omega) hi⟩
theorem up_less (t : List S93) (hk : ∀ i, i < t.length → Kids t i) (v : Int) (i : Nat) (hi : i < t.length) (h : isUp (t.getD i z93) v = true) : (i : Int) < v ∧ v < (t.length : Int) := by
  unfold isUp at h
  rw [Bool.and_eq_true, Bool.or_eq_true, beq_iff_eq, beq_iff_eq] at h
  have h1 := h.1
  have h2 := h.2
  have h3 := hk i hi h.1
  omega
theorem ways_way (t : List S93) (ht : t.length ≤ 1048576) (hk : ∀ i, i < t.length → Kids t i) (j : Nat) (hj : j < t.length) (next : ∃ b, Ev (fun k => spec_l17Ways.l0 k (wrap64 ((j : Int) + 1)) t) b) :
    ∀ d (x4 x5 : Int), (x5 + 1).toNat ≤ d → -1 ≤ x5 → x5 < (t.length : Int) → ∃ b, Ev (fun k => spec_l17Ways.l1 k (j : Int) x4 x5 t) b := by
  have hneg : ∀ x4 x5 : Int, x5 < 0 → ∃ b, Ev (fun k => spec_l17Ways.l1 k (j : Int) x4 x5 t) b := by
    intro x4 x5 c
    obtain ⟨b, K, hb⟩ := next
    refine ⟨b, K + 1, fun k hk => ?_⟩
    obtain ⟨q, rfl⟩ : ∃ q, k = q + 1 := ⟨k - 1, by omega⟩
    dsimp only
    rw [spec_l17Ways.l1, if_neg (by omega)]
    exact hb q (by omega)
  intro d
  induction d with
  | zero => intro x4 x5 h h0 _; exact hneg x4 x5 (by omega)
  | succ d ih =>
    intro x4 x5 hd h0 h1
    by_cases c : x5 ≥ 0
    · obtain ⟨p, rfl⟩ := int_nat c
      have head : ∃ bad : Bool, ∀ k, spec_l17Ways.l1 (k + 1) (j : Int) x4 (p : Int) t = if bad = true then some false else ((spec_l17Up.f k t (p : Int)).bind fun u => spec_l17Ways.l1 k (j : Int) (p : Int) u t) :=
        ⟨_, fun k => by rw [spec_l17Ways.l1, if_pos (by omega), if_pos (by omega)]⟩
      obtain ⟨bad, head⟩ := head
      cases bad with
      | true =>
        refine ⟨false, 1, fun k hk => ?_⟩
        obtain ⟨q, rfl⟩ : ∃ q, k = q + 1 := ⟨k - 1, by omega⟩
        dsimp only
        rw [head, if_pos rfl]
      | false =>
        obtain ⟨u, ⟨K, hu⟩, hd2⟩ := up t ht (p : Int)
        have hlt : (u + 1).toNat ≤ d ∧ -1 ≤ u ∧ u < (t.length : Int) := by
          rcases hd2 with ⟨e, _⟩ | ⟨i, e, h2, h3, _⟩
          · omega
          · have := up_less t hk (p : Int) i h2 h3
            omega
        obtain ⟨b, K2, hb⟩ := ih (p : Int) u hlt.1 hlt.2.1 hlt.2.2
        refine ⟨b, max K K2 + 1, fun k hk => ?_⟩
        obtain ⟨q, rfl⟩ : ∃ q, k = q + 1 := ⟨k - 1, by omega⟩
        dsimp only
        rw [head, if_neg (by decide), show spec_l17Up.f q t (p : Int) = some u from hu q (by omega)]
        exact hb q (by omega)
    · exact hneg x4 x5 (by omega)
theorem ways_loop (t : List S93) (ht : t.length ≤ 1048576) (hk : ∀ i, i < t.length → Kids t i) : ∀ d j, j + d = t.length → ∃ b, Ev (fun k => spec_l17Ways.l0 k (j : Int) t) b := by
  intro d
  induction d with
  | zero =>
    intro j hj
    refine ⟨true, 1, fun k hk => ?_⟩
    obtain ⟨q, rfl⟩ : ∃ q, k = q + 1 := ⟨k - 1, by omega⟩
    dsimp only
    rw [spec_l17Ways.l0, if_neg (by omega)]
  | succ d ih =>
    intro j hj
    obtain ⟨b, K, hb⟩ := ih (j + 1) (by omega)
    rw [← wnext j t.length (by omega) (by omega)] at hb
    by_cases hi : innerB (t.getD j z93) = true
    · obtain ⟨u, ⟨K1, hu⟩, hd⟩ := up t ht (j : Int)
      have hlt : -1 ≤ u ∧ u < (t.length : Int) := by
        rcases hd with ⟨e, _⟩ | ⟨i, e, h2, _⟩ <;> omega
      obtain ⟨b2, K2, hb2⟩ := ways_way t ht hk j (by omega) ⟨b, K, hb⟩ (u + 1).toNat (j : Int) u (Nat.le_refl _) hlt.1 hlt.2
      refine ⟨b2, max K1 K2 + 1, fun k hk => ?_⟩
      obtain ⟨q, rfl⟩ : ∃ q, k = q + 1 := ⟨k - 1, by omega⟩
      dsimp only
      rw [spec_l17Ways.l0, if_pos (by omega), if_pos (by omega), rdn, if_pos (show ((t.getD j z93).f0 != (-1)) = true from hi), show spec_l17Up.f q t (j : Int) = some u from hu q (by omega)]
      exact hb2 q (by omega)
    · refine ⟨b, K + 1, fun k hk => ?_⟩
      obtain ⟨q, rfl⟩ : ∃ q, k = q + 1 := ⟨k - 1, by omega⟩
      dsimp only
      rw [spec_l17Ways.l0, if_pos (by omega), if_pos (by omega), rdn, if_neg (show ¬ ((t.getD j z93).f0 != (-1)) = true from hi)]
      exact hb q (by omega)
theorem ways (t : List S93) (ht : t.length ≤ 1048576) (hk : ∀ i, i < t.length → Kids t i) : ∃ b, Ev (fun k => spec_l17Ways.f k t) b := ways_loop t ht hk t.length 0 (by omega)
def Wf (t : List S93) : Prop := 1 ≤ t.length ∧ t.length ≤ 31 ∧ (∀ i, i < t.length → Kids t i) ∧ ∀ x ∈ t, node64 x
theorem tree_ok (t : List S93) (ht : t.length ≤ 1048576) (a : Int) : ∃ b, Ev (fun k => spec_TreeOk.f k t a) b ∧ (b = true → 1 ≤ t.length ∧ t.length ≤ 31 ∧ ∀ i, i < t.length → Kids t i) := by
  unfold spec_TreeOk.f
  simp only [l1in, Option.bind_some]
  by_cases c1 : decide (1 ≤ (t.length : Int) ∧ (t.length : Int) ≤ 31) = true
  · have c1' := of_decide_eq_true c1
    by_cases c2 : decide (0 ≤ a ∧ a ≤ 4) = true
    · obtain ⟨b1, ⟨K1, e1⟩, h1⟩ := shape t ht a
      cases b1 with
      | false =>
        refine ⟨false, ⟨K1, fun k hk => ?_⟩, fun h => by cases h⟩
        dsimp only
        rw [if_pos c1, if_pos c2, show spec_l17Shape.f k t a = some false from e1 k hk]
        rfl
      | true =>
        obtain ⟨d, K2, e2⟩ := depth t ht
        obtain ⟨b3, K3, e3⟩ := ways t ht (h1 rfl)
        by_cases c3 : d ≤ 4
        · refine ⟨b3, ⟨max K1 (max K2 K3), fun k hk => ?_⟩, fun _ => ⟨by omega, by omega, h1 rfl⟩⟩
          dsimp only
          rw [if_pos c1, if_pos c2, show spec_l17Shape.f k t a = some true from e1 k (by omega)]
          simp only [Option.bind_some, if_true]
          rw [show spec_DepthOf.f k t = some d from e2 k (by omega)]
          simp only [Option.bind_some]
          rw [if_pos c3, show spec_l17Ways.f k t = some b3 from e3 k (by omega)]
          rfl
        · refine ⟨false, ⟨max K1 K2, fun k hk => ?_⟩, fun h => by cases h⟩
          dsimp only
          rw [if_pos c1, if_pos c2, show spec_l17Shape.f k t a = some true from e1 k (by omega)]
          simp only [Option.bind_some, if_true]
          rw [show spec_DepthOf.f k t = some d from e2 k (by omega)]
          simp only [Option.bind_some]
          rw [if_neg c3]
    · exact ⟨false, ⟨0, fun k _ => by dsimp only; rw [if_pos c1, if_neg c2]⟩, fun h => by cases h⟩
  · exact ⟨false, ⟨0, fun k _ => by dsimp only; rw [if_neg c1]⟩, fun h => by cases h⟩
theorem tree_ok' (t : List S93) (ht : t.length ≤ 17179869184) (a : Int) : ∃ b, Ev (fun k => spec_TreeOk.f k t a) b ∧ (b = true → 1 ≤ t.length ∧ t.length ≤ 31 ∧ ∀ i, i < t.length → Kids t i) := by
  by_cases h : t.length ≤ 1048576
  · exact tree_ok t h a
  · refine ⟨false, ⟨0, fun k _ => ?_⟩, fun h => by cases h⟩
    unfold spec_TreeOk.f
    simp only [l1in, Option.bind_some]
    rw [if_neg (by simp; omega)]
def wt (n : Nat) (v : Int) : Nat := 2 ^ (n + 1 - v.toNat) - 1
def pend (n : Nat) (row : List Int) (j : Nat) : Nat := ((row.drop j).map (wt n)).sum
theorem wt_kids (n : Nat) (v a b : Int) (h0 : 0 ≤ v) (ha : v < a) (hb : v < b) (hv : v < (n : Int)) : wt n a + wt n b + 1 ≤ wt n v := by
  unfold wt
  have h1 : n + 1 - a.toNat ≤ n - v.toNat := by omega
  have h2 : n + 1 - b.toNat ≤ n - v.toNat := by omega
  have h3 : n + 1 - v.toNat = (n - v.toNat) + 1 := by omega
  have p1 := Nat.pow_le_pow_right (n := 2) (by omega) h1
  have p2 := Nat.pow_le_pow_right (n := 2) (by omega) h2
  have p3 : 2 ^ (n - v.toNat + 1) = 2 ^ (n - v.toNat) * 2 := Nat.pow_succ ..
  have p4 : 1 ≤ 2 ^ (n + 1 - a.toNat) := Nat.one_le_two_pow
  have p5 : 1 ≤ 2 ^ (n + 1 - b.toNat) := Nat.one_le_two_pow
  rw [h3, p3]
  omega
theorem wt_pos (n : Nat) (v : Int) (h0 : 0 ≤ v) (hv : v < (n : Int)) : 1 ≤ wt n v := by
  unfold wt
  have : 2 ^ 1 ≤ 2 ^ (n + 1 - v.toNat) := Nat.pow_le_pow_right (by omega) (by omega)
  omega
theorem pend_step (n : Nat) (row : List Int) (j : Nat) (h : j < row.length) : pend n row j = wt n (row.getD j 0) + pend n row (j + 1) := by
  unfold pend
  rw [List.drop_eq_getElem_cons h, List.map_cons, List.sum_cons, List.getD_eq_getElem?_getD, List.getElem?_eq_getElem h]; rfl
theorem pend_append (n : Nat) (row : List Int) (a b : Int) (j : Nat) (h : j ≤ row.length) : pend n (row ++ [a, b]) j = pend n row j + (wt n a + wt n b) := by
  unfold pend
  rw [List.drop_append_of_le_length h, List.map_append, List.sum_append]; simp
theorem pend_len (n : Nat) (row : List Int) (hr : ∀ v ∈ row, 0 ≤ v ∧ v < (n : Int)) (j : Nat) : row.length - j ≤ pend n row j := by
  unfold pend
  have : ∀ l : List Int, (∀ v ∈ l, 0 ≤ v ∧ v < (n : Int)) → l.length ≤ (l.map (wt n)).sum := by
    intro l
    induction l with
    | nil => intro _; simp
    | cons x l ih =>
      intro h
      have h1 := ih (fun v hv => h v (List.mem_cons_of_mem _ hv))
      have h2 := wt_pos n x (h x (List.mem_cons_self ..)).1 (h x (List.mem_cons_self ..)).2
      simp only [List.length_cons, List.map_cons, List.sum_cons]; omega
  have h2 := this (row.drop j) (fun v hv => hr v (List.mem_of_mem_drop hv))
  rw [List.length_drop] at h2
  exact h2
def WfKids (t : List S93) : Prop := ∀ i, i < t.length → innerB (t.getD i z93) = true → (i : Int) < (t.getD i z93).f2 ∧ (t.getD i z93).f2 < (t.length : Int) ∧ (i : Int) < (t.getD i z93).f3 ∧ (t.getD i z93).f3 < (t.length : Int)
theorem levels_loop (t : List S93) (hk : WfKids t) (h64 : ∀ x ∈ t, node64 x) (ht : t.length ≤ 33) : ∀ d (row : List Int) (next : Int) (j : Nat) (out : List S93), pend t.length row j ≤ d → j + d ≤ 17179869184 → j ≤ row.length → out.length = j → (∀ v ∈ row, 0 ≤ v ∧ v < (t.length : Int)) → int64B next → (∀ x ∈ out, node64 x) →
    ∃ r, Ev (fun k => spec_l17Levels.l0 k t row next (j : Int) out) r ∧ (∀ x ∈ r, node64 x) ∧ r.length ≤ 17179869184 := by
  intro d
  induction d with
  | zero =>
    intro row next j out hp hd hj ho hr hn h64o
    have : row.length - j ≤ pend t.length row j := pend_len _ _ hr j
    refine ⟨out, ⟨1, fun k hk => ?_⟩, h64o, by omega⟩
    obtain ⟨q, rfl⟩ : ∃ q, k = q + 1 := ⟨k - 1, by omega⟩
    dsimp only
    rw [spec_l17Levels.l0, if_neg (by omega)]
  | succ d ih =>
    intro row next j out hp hd hj ho hr hn h64o
    have hd' : j + 1 + d ≤ 17179869184 := by omega
    have hcap : out.length < 3518437208883 := by omega
    have hlen : row.length - j ≤ pend t.length row j := pend_len _ _ hr j
    have hcap2 : row.length + 2 < 17592186044416 := by omega
    have hfin : row.length ≤ 17179869184 := by omega
    have hw : wrap64 ((j : Int) + 1) = ((j + 1 : Nat) : Int) := by unfold wrap64; omega
    by_cases c : j < row.length
    · have hc' : j + 1 ≤ row.length := c
      have hv := hr (row.getD j 0) (by rw [List.getD_eq_getElem?_getD, List.getElem?_eq_getElem c]; exact List.getElem_mem _)
      obtain ⟨i, hi⟩ := int_nat hv.1
      have hs := pend_step t.length row j c
      have hx := getD64 t h64 i
      rw [hi] at hv hs
      have hpos := wt_pos t.length (i : Int) hv.1 hv.2
      by_cases hin : innerB (t.getD i z93) = true
      · obtain ⟨k1, k2, k3, k4⟩ := hk i (Int.ofNat_lt.1 hv.2) hin
        have hkid := wt_kids t.length (i : Int) _ _ hv.1 k1 k3 hv.2
        obtain ⟨r, hr1, hr2, hr3⟩ := ih (row ++ [(t.getD i z93).f2, (t.getD i z93).f3]) (wrap64 (next + 2)) (j + 1) (out ++ [⟨(t.getD i z93).f0, (t.getD i z93).f1, next, wrap64 (next + 1), (t.getD i z93).f4⟩])
          (by rw [pend_append _ _ _ _ _ hc']; omega) hd' (by rw [List.length_append]; exact Nat.le_trans hc' (Nat.le_add_right _ _)) (by simp [ho]) (fun v hv2 => by
            rcases List.mem_append.1 hv2 with h | h
            · exact hr v h
            · simp only [List.mem_cons, List.not_mem_nil, or_false] at h
              rcases h with rfl | rfl
              · exact ⟨Int.le_of_lt (Int.lt_of_le_of_lt hv.1 k1), k2⟩
              · exact ⟨Int.le_of_lt (Int.lt_of_le_of_lt hv.1 k3), k4⟩) (wrap64_B' _) (fun x hx2 => by
            rcases List.mem_append.1 hx2 with h | h
            · exact h64o x h
            · rw [List.mem_singleton.1 h]; exact ⟨hx.1, hx.2.1, hn, wrap64_B' _, hx.2.2.2.2⟩)
        refine ⟨r, hr1.step (fun k => ?_), hr2, hr3⟩
        rw [spec_l17Levels.l0, if_pos (Int.ofNat_lt.2 c), if_pos (Int.natCast_nonneg j), rd_nat, hi, if_pos hv.1, if_pos hv.2, rdn, inner_f]; simp only [Option.bind_some]; rw [if_pos hin, if_pos (show row.length + [(t.getD i z93).f2, (t.getD i z93).f3].length < _ from hcap2), if_pos hcap, hw]
      · obtain ⟨r, hr1, hr2, hr3⟩ := ih row next (j + 1) (out ++ [⟨(t.getD i z93).f0, (t.getD i z93).f1, (t.getD i z93).f2, (t.getD i z93).f3, (t.getD i z93).f4⟩]) (by omega) hd' hc' (by simp [ho]) hr hn (fun x hx2 => by
            rcases List.mem_append.1 hx2 with h | h
            · exact h64o x h
            · rw [List.mem_singleton.1 h]; exact hx)
        refine ⟨r, hr1.step (fun k => ?_), hr2, hr3⟩
        rw [spec_l17Levels.l0, if_pos (Int.ofNat_lt.2 c), if_pos (Int.natCast_nonneg j), rd_nat, hi, if_pos hv.1, if_pos hv.2, rdn, inner_f]; simp only [Option.bind_some]; rw [if_neg hin, if_pos hcap, hw]
    · refine ⟨out, ⟨1, fun k hk => ?_⟩, h64o, by omega⟩
      obtain ⟨q, rfl⟩ : ∃ q, k = q + 1 := ⟨k - 1, by omega⟩
      dsimp only
      rw [spec_l17Levels.l0, if_neg (by omega)]
theorem levels (t : List S93) (hk : WfKids t) (h64 : ∀ x ∈ t, node64 x) (h0 : 1 ≤ t.length) (ht : t.length ≤ 33) : ∃ r, Ev (fun k => spec_l17Levels.f k t) r ∧ (∀ x ∈ r, node64 x) ∧ r.length ≤ 17179869184 := by
  have hw : wt t.length 0 ≤ 17179869183 := by
    unfold wt
    have : 2 ^ (t.length + 1 - (0 : Int).toNat) ≤ 2 ^ 34 := Nat.pow_le_pow_right (by omega) (by simp; omega)
    omega
  exact levels_loop t hk h64 ht (wt t.length 0) [0] 1 0 [] (by simp [pend]) (by omega) (by simp) rfl (fun v hv => by have := List.mem_singleton.1 hv; omega) (by unfold int64B; omega) (by simp)
theorem getD_append_l {α : Type} (a b : List α) (j : Nat) (h : j < a.length) (d : α) : (a ++ b).getD j d = a.getD j d := by
  rw [List.getD_eq_getElem?_getD, List.getD_eq_getElem?_getD, List.getElem?_append_left h]
theorem grown (t : List S93) (ht : Wf t) (a1 f c a b : Int) (h0 : 0 ≤ a1) (h1 : a1 < (t.length : Int)) (hf : 0 ≤ f) (hf2 : int64B f) (hc : int64B c) (ha : int64B a) (hb : int64B b) (u v w : Int) :
    ∃ r, Ev (fun k => spec_l17Grown.f k t a1 f c u v w a b) r ∧ (∀ x ∈ r, node64 x) ∧ r.length ≤ 17179869184 := by
  obtain ⟨l1, l2, hk, h64⟩ := ht
  obtain ⟨i, rfl⟩ := int_nat h0
  have hB : int64B (t.length : Int) := by unfold int64B; omega
  have hm1 : int64B (-1) := by unfold int64B; omega
  have hz : int64B 0 := by unfold int64B; omega
  have hw : wrap64 ((t.length : Int) + 1) = (t.length : Int) + 1 := by unfold wrap64; omega
  have hs := set64 t h64 i ⟨f, c, (t.length : Int), wrap64 ((t.length : Int) + 1), 0⟩ ⟨hf2, hc, hB, wrap64_B' _, hz⟩
  have h64n : ∀ x ∈ t.set i ⟨f, c, (t.length : Int), wrap64 ((t.length : Int) + 1), 0⟩ ++ [⟨-1, 0, 0, 0, a⟩, ⟨-1, 0, 0, 0, b⟩], node64 x := by
    intro x hx
    rcases List.mem_append.1 hx with h | h
    · exact hs x h
    · simp only [List.mem_cons, List.not_mem_nil, or_false] at h
      rcases h with rfl | rfl
      · exact ⟨hm1, hz, hz, hz, ha⟩
      · exact ⟨hm1, hz, hz, hz, hb⟩
  have hlen : (t.set i ⟨f, c, (t.length : Int), wrap64 ((t.length : Int) + 1), 0⟩).length = t.length := List.length_set ..
  have hlen2 : (t.set i ⟨f, c, (t.length : Int), wrap64 ((t.length : Int) + 1), 0⟩ ++ [(⟨-1, 0, 0, 0, a⟩ : S93), ⟨-1, 0, 0, 0, b⟩]).length = t.length + 2 := by rw [List.length_append, hlen]; rfl
  have hkids : WfKids (t.set i ⟨f, c, (t.length : Int), wrap64 ((t.length : Int) + 1), 0⟩ ++ [⟨-1, 0, 0, 0, a⟩, ⟨-1, 0, 0, 0, b⟩]) := by
    intro q hq hin
    rw [hlen2] at hq ⊢
    by_cases c1 : q < t.length
    · rw [getD_append_l _ _ _ (by omega)] at hin ⊢
      rw [List.getD_eq_getElem?_getD, List.getElem?_set] at hin ⊢
      by_cases c2 : i = q
      · subst c2
        rw [if_pos rfl, if_pos (by omega)] at hin ⊢
        simp only [Option.getD_some]
        rw [hw]
        omega
      · rw [if_neg c2] at hin ⊢
        rw [← List.getD_eq_getElem?_getD] at hin ⊢
        have := hk q c1 hin
        omega
    · exfalso
      rw [List.getD_eq_getElem?_getD, List.getElem?_append_right (by omega), hlen] at hin
      have : q - t.length = 0 ∨ q - t.length = 1 := by omega
      rcases this with e | e <;> rw [e] at hin <;> simp [innerB] at hin
  obtain ⟨r, hr, h2, h3⟩ := levels _ hkids h64n (by omega) (by omega)
  refine ⟨r, hr.congr (fun k => ?_), h2, h3⟩
  unfold spec_l17Grown.f
  simp only [Option.bind_some, List.length_nil, List.nil_append]
  rw [if_pos (by omega), if_pos h0, if_pos h1, if_pos (by rw [Int.toNat_natCast, hlen]; show _ + 2 < _; omega), Int.toNat_natCast]
  cases spec_l17Levels.f k (t.set i ⟨f, c, (t.length : Int), wrap64 ((t.length : Int) + 1), 0⟩ ++ [⟨-1, 0, 0, 0, a⟩, ⟨-1, 0, 0, 0, b⟩]) <;> rfl
theorem one_leaf (v : Int) (hv : int64B v) : Wf [⟨-1, 0, 0, 0, v⟩] := by
  have hm1 : int64B (-1) := by unfold int64B; omega
  have hz : int64B 0 := by unfold int64B; omega
  refine ⟨by simp, by simp, fun i hi h => ?_, fun x hx => by rw [List.mem_singleton.1 hx]; exact ⟨hm1, hz, hz, hz, hv⟩⟩
  have : i = 0 := by simp at hi; exact hi
  subst this
  simp [innerB] at h
theorem wf_leaf (t : List S93) (ht : Wf t) : ∃ i, i < t.length ∧ innerB (t.getD i z93) = false := by
  obtain ⟨l1, l2, hk, _⟩ := ht
  refine ⟨t.length - 1, by omega, ?_⟩
  cases h : innerB (t.getD (t.length - 1) z93) with
  | false => rfl
  | true => have := hk (t.length - 1) (by omega) h; omega
theorem right_loop (l : List Int) (x1 : Int) (hx1 : 0 < x1) (hx2 : x1 ≤ 1000) (x6 : Int) (h6 : x6 ≤ 1000) : ∀ d (x7 i h : Int) (t : List S93), (x6 - x7).toNat ≤ d → 0 ≤ x7 → At l i → Wf t →
    ∃ t' i' h', Ev (fun k => spec_l17Right.l0 k x1 x6 x7 l i h t) (t', i', h') ∧ At l i' ∧ Wf t' := by
  intro d
  induction d with
  | zero =>
    intro x7 i h t hd h0 ha ht
    refine ⟨t, i, h, ⟨1, fun k hk => ?_⟩, ha, ht⟩
    obtain ⟨q, rfl⟩ : ∃ q, k = q + 1 := ⟨k - 1, by omega⟩
    dsimp only
    rw [spec_l17Right.l0, if_neg (by omega)]
  | succ d ih =>
    intro x7 i h t hd h0 ha ht
    by_cases c : x7 < x6
    · obtain ⟨lv, ⟨K1, e1⟩, hl1, hl2, hl3⟩ := leaves t (by have := ht.2.1; omega)
      have hne := hl3 (wf_leaf t ht)
      have hpos : 0 < (lv.length : Int) := by
        cases lv with
        | nil => exact absurd rfl hne
        | cons _ _ => simp
      obtain ⟨b1, i1, h1, e2, p1, q1, a1⟩ := draw_below l i h (lv.length : Int) ha
      have q1 := q1 hpos
      obtain ⟨b2, i2, h2, e3, p2, q2, a2⟩ := draw_below l i1 h1 x1 a1
      obtain ⟨b3, i3, h3, e4, p3, q3, a3⟩ := draw_below l i2 h2 9 a2
      obtain ⟨b4, i4, h4, e5, p4, q4, a4⟩ := draw_below l i3 h3 2001 a3
      obtain ⟨b5, i5, h5, e6, p5, q5, a5⟩ := draw_below l i4 h4 2001 a4
      have hq2 := q2 hx1
      obtain ⟨j, rfl⟩ := int_nat p1
      have hmem := hl1 (lv.getD j 0) (by rw [List.getD_eq_getElem?_getD, List.getElem?_eq_getElem (by omega)]; exact List.getElem_mem _)
      obtain ⟨g, ⟨K2, e7⟩, hg1, hg2⟩ := grown t ht (lv.getD j 0) b2 (wrap64 (500 * (wrap64 (b3 - 4)))) (wrap64 (b4 - 1000)) (wrap64 (b5 - 1000)) hmem.1 hmem.2 p2 (by unfold int64B; omega) (wrap64_B' _) (wrap64_B' _) (wrap64_B' _) 0 0 0
      have head : ∀ k, max K1 K2 ≤ k → spec_l17Right.l0 (k + 1) x1 x6 x7 l i h t = (spec_TreeOk.f k g x1).bind fun t245 => (if t245 = true then (spec_l17Right.l0 k x1 x6 (wrap64 (x7 + 1)) l i5 h5 g) else (spec_l17Right.l0 k x1 x6 (wrap64 (x7 + 1)) l i5 h5 t)) := fun k hk => by
        rw [spec_l17Right.l0, if_pos c, show spec_LeavesOf.f k t = some lv from e1 k (by omega)]
        simp only [Option.bind_some]
        rw [e2]
        simp only [Option.bind_some]
        rw [if_pos p1, if_pos q1, e3]
        simp only [Option.bind_some]
        rw [e4]
        simp only [Option.bind_some]
        rw [e5]
        simp only [Option.bind_some]
        rw [e6]
        simp only [Option.bind_some]
        rw [rd_nat, show spec_l17Grown.f k t (lv.getD j 0) b2 (wrap64 (500 * (wrap64 (b3 - 4)))) 0 0 0 (wrap64 (b4 - 1000)) (wrap64 (b5 - 1000)) = some g from e7 k (by omega)]
        simp only [Option.bind_some]
      have hw : wrap64 (x7 + 1) = x7 + 1 := by unfold wrap64; omega
      obtain ⟨ok, ⟨K3, e8⟩, hok⟩ := tree_ok' g hg2 x1
      cases ok with
      | true =>
        obtain ⟨g1, g2, g3⟩ := hok rfl
        obtain ⟨t', i', h', ⟨K4, e9⟩, ha', ht'⟩ := ih (x7 + 1) i5 h5 g (by omega) (by omega) a5 ⟨g1, g2, g3, hg1⟩
        refine ⟨t', i', h', ⟨max (max K1 K2) (max K3 K4) + 1, fun k hk => ?_⟩, ha', ht'⟩
        obtain ⟨q, rfl⟩ : ∃ q, k = q + 1 := ⟨k - 1, by omega⟩
        dsimp only
        rw [head q (by omega), show spec_TreeOk.f q g x1 = some true from e8 q (by omega)]
        simp only [Option.bind_some, if_true]
        rw [hw]
        exact e9 q (by omega)
      | false =>
        obtain ⟨t', i', h', ⟨K4, e9⟩, ha', ht'⟩ := ih (x7 + 1) i5 h5 t (by omega) (by omega) a5 ht
        refine ⟨t', i', h', ⟨max (max K1 K2) (max K3 K4) + 1, fun k hk => ?_⟩, ha', ht'⟩
        obtain ⟨q, rfl⟩ : ∃ q, k = q + 1 := ⟨k - 1, by omega⟩
        dsimp only
        rw [head q (by omega), show spec_TreeOk.f q g x1 = some false from e8 q (by omega)]
        simp only [Option.bind_some]
        rw [if_neg (by decide), hw]
        exact e9 q (by omega)
    · refine ⟨t, i, h, ⟨1, fun k hk => ?_⟩, ha, ht⟩
      obtain ⟨q, rfl⟩ : ∃ q, k = q + 1 := ⟨k - 1, by omega⟩
      dsimp only
      rw [spec_l17Right.l0, if_neg c]
theorem draw_right (l : List Int) (i h a1 : Int) (ha : At l i) (h1 : 0 < a1) (h2 : a1 ≤ 1000) : ∃ t i' h', Ev (fun k => spec_l17Right.f k l i h a1) (t, i', h') ∧ At l i' ∧ Wf t := by
  obtain ⟨b1, i1, h1', e1, p1, q1, a1'⟩ := draw_below l i h 21 ha
  obtain ⟨b2, i2, h2', e2, p2, q2, a2'⟩ := draw_below l i1 h1' 6 a1'
  have := q2 (by omega)
  obtain ⟨t, i', h', hr, hA, hW⟩ := right_loop l a1 h1 h2 b2 (by omega) 1000 0 i2 h2' [⟨-1, 0, 0, 0, wrap64 (50 * (wrap64 (b1 - 10)))⟩] (by omega) (by omega) a2' (one_leaf _ (wrap64_B' _))
  refine ⟨t, i', h', hr.congr (fun k => ?_), hA, hW⟩
  unfold spec_l17Right.f spec_OneLeaf.f
  rw [e1]
  simp only [Option.bind_some]
  rw [e2]
  simp only [Option.bind_some]
theorem pick_int (l : List Int) (i h : Int) (xs : List Int) (ha : At l i) (hx : 1 ≤ xs.length) : ∃ v i' h', spec_l1PickInt.f l i h xs = some (v, i', h') ∧ v ∈ xs ∧ At l i' := by
  obtain ⟨b, i1, h1, e, p, q, a⟩ := draw_below l i h (xs.length : Int) ha
  have hq := q (by omega)
  obtain ⟨j, rfl⟩ := int_nat p
  refine ⟨xs.getD j 0, i1, h1, ?_, ?_, a⟩
  · unfold spec_l1PickInt.f
    rw [e]
    simp only [Option.bind_some]
    rw [if_pos p, if_pos hq, rd_nat]
  · rw [List.getD_eq_getElem?_getD, List.getElem?_eq_getElem (by omega)]; exact List.getElem_mem _
theorem draw_bent (l : List Int) (i h : Int) (ha : At l i) : ∃ t i' h', Ev (fun k => spec_l17Bent.f k l i h) (t, i', h') ∧ At l i' ∧ (∀ x ∈ t, node64 x) ∧ t.length ≤ 32 := by
  obtain ⟨b1, i1, h1, e1, p1, q1, a1⟩ := draw_below l i h 3 ha
  have r1 := q1 (by omega)
  have hw : wrap64 (1 + b1) = 1 + b1 := by unfold wrap64; omega
  obtain ⟨t, i2, h2, ⟨K, e2⟩, a2, hW⟩ := draw_right l i1 h1 (1 + b1) a1 (by omega) (by omega)
  obtain ⟨l1, l2, hk, h64⟩ := hW
  obtain ⟨b3, i3, h3, e3, p3, q3, a3⟩ := draw_below l i2 h2 (t.length : Int) a2
  have r3 := q3 (by omega)
  obtain ⟨b4, i4, h4, e4, p4, q4, a4⟩ := draw_below l i3 h3 14 a3
  have r4 := q4 (by omega)
  have hx := getD64 t h64 b3.toNat
  have hrd : rd_T93 t b3 = t.getD b3.toNat z93 := rfl
  have big : ∀ v : Int, v ∈ ([(-1), 0, 1, 4, (-2), 9223372036854775807] : List Int) ∨ v ∈ ([0, 1, 2147483648, (-2147483648), 500] : List Int) ∨ v ∈ ([0, 1, 2, (-1), 40, b3] : List Int) ∨ v ∈ ([0, 1, 1099511627776, 1099511627777, (-1099511627777)] : List Int) → int64B v := by
    intro v hv
    simp only [List.mem_cons, List.not_mem_nil, or_false] at hv
    unfold int64B
    omega
  have sets : ∀ (v : S93) (i' h' : Int), node64 v → At l i' → (∀ k, K ≤ k → spec_l17Bent.f k l i h = some (t.set b3.toNat v, i', h')) → ∃ t i' h', Ev (fun k => spec_l17Bent.f k l i h) (t, i', h') ∧ At l i' ∧ (∀ x ∈ t, node64 x) ∧ t.length ≤ 32 :=
    fun v i' h' hv hA hE => ⟨_, i', h', ⟨K, hE⟩, hA, set64 t h64 _ v hv, by rw [List.length_set]; omega⟩
  by_cases c0 : b4 = 0
  · obtain ⟨v, i', h', e5, hm, hA⟩ := pick_int l i4 h4 [(-1), 0, 1, 4, (-2), 9223372036854775807] a4 (by simp)
    exact sets ⟨v, _, _, _, _⟩ i' h' ⟨big v (.inl hm), hx.2⟩ hA (fun k hk => by rw [spec_l17Bent.f, e1]; simp only [Option.bind_some]; rw [hw, show spec_l17Right.f k l i1 h1 (1 + b1) = some (t, i2, h2) from e2 k hk]; simp only [Option.bind_some]; rw [e3]; simp only [Option.bind_some]; rw [e4]; simp only [Option.bind_some]; rw [if_pos c0, e5]; simp only [Option.bind_some]; rw [if_pos p3, if_pos r3, hrd])
  · by_cases c1 : b4 = 1
    · obtain ⟨v, i', h', e5, hm, hA⟩ := pick_int l i4 h4 [0, 1, 2147483648, (-2147483648), 500] a4 (by simp)
      exact sets ⟨_, v, _, _, _⟩ i' h' ⟨hx.1, big v (.inr (.inl hm)), hx.2.2⟩ hA (fun k hk => by rw [spec_l17Bent.f, e1]; simp only [Option.bind_some]; rw [hw, show spec_l17Right.f k l i1 h1 (1 + b1) = some (t, i2, h2) from e2 k hk]; simp only [Option.bind_some]; rw [e3]; simp only [Option.bind_some]; rw [e4]; simp only [Option.bind_some]; rw [if_neg c0, if_pos c1, e5]; simp only [Option.bind_some]; rw [if_pos p3, if_pos r3, hrd])
    · by_cases c2 : b4 = 2
      · obtain ⟨v, i', h', e5, hm, hA⟩ := pick_int l i4 h4 [0, 1, 2, (-1), 40, b3] a4 (by simp)
        exact sets ⟨_, _, v, _, _⟩ i' h' ⟨hx.1, hx.2.1, big v (.inr (.inr (.inl hm))), hx.2.2.2⟩ hA (fun k hk => by rw [spec_l17Bent.f, e1]; simp only [Option.bind_some]; rw [hw, show spec_l17Right.f k l i1 h1 (1 + b1) = some (t, i2, h2) from e2 k hk]; simp only [Option.bind_some]; rw [e3]; simp only [Option.bind_some]; rw [e4]; simp only [Option.bind_some]; rw [if_neg c0, if_neg c1, if_pos c2, e5]; simp only [Option.bind_some]; rw [if_pos p3, if_pos r3, hrd])
      · by_cases c3 : b4 = 3
        · obtain ⟨v, i', h', e5, hm, hA⟩ := pick_int l i4 h4 [0, 1, 2, (-1), 40, b3] a4 (by simp)
          exact sets ⟨_, _, _, v, _⟩ i' h' ⟨hx.1, hx.2.1, hx.2.2.1, big v (.inr (.inr (.inl hm))), hx.2.2.2.2⟩ hA (fun k hk => by rw [spec_l17Bent.f, e1]; simp only [Option.bind_some]; rw [hw, show spec_l17Right.f k l i1 h1 (1 + b1) = some (t, i2, h2) from e2 k hk]; simp only [Option.bind_some]; rw [e3]; simp only [Option.bind_some]; rw [e4]; simp only [Option.bind_some]; rw [if_neg c0, if_neg c1, if_neg c2, if_pos c3, e5]; simp only [Option.bind_some]; rw [if_pos p3, if_pos r3, hrd])
        · by_cases c4 : b4 = 4
          · obtain ⟨v, i', h', e5, hm, hA⟩ := pick_int l i4 h4 [0, 1, 1099511627776, 1099511627777, (-1099511627777)] a4 (by simp)
            exact sets ⟨_, _, _, _, v⟩ i' h' ⟨hx.1, hx.2.1, hx.2.2.1, hx.2.2.2.1, big v (.inr (.inr (.inr hm)))⟩ hA (fun k hk => by rw [spec_l17Bent.f, e1]; simp only [Option.bind_some]; rw [hw, show spec_l17Right.f k l i1 h1 (1 + b1) = some (t, i2, h2) from e2 k hk]; simp only [Option.bind_some]; rw [e3]; simp only [Option.bind_some]; rw [e4]; simp only [Option.bind_some]; rw [if_neg c0, if_neg c1, if_neg c2, if_neg c3, if_pos c4, e5]; simp only [Option.bind_some]; rw [if_pos p3, if_pos r3, hrd])
          · by_cases c5 : b4 = 5
            · have hm1 : int64B (-1) := by unfold int64B; omega
              have hz : int64B 0 := by unfold int64B; omega
              refine ⟨t ++ [⟨-1, 0, 0, 0, 0⟩], i4, h4, ⟨K, fun k hk => ?_⟩, a4, fun x hx2 => ?_, by simp; omega⟩
              · dsimp only
                rw [spec_l17Bent.f, e1]; simp only [Option.bind_some]; rw [hw, show spec_l17Right.f k l i1 h1 (1 + b1) = some (t, i2, h2) from e2 k hk]; simp only [Option.bind_some]; rw [e3]; simp only [Option.bind_some]; rw [e4]; simp only [Option.bind_some]; rw [if_neg c0, if_neg c1, if_neg c2, if_neg c3, if_neg c4, if_pos c5, if_pos (by omega)]
              · rcases List.mem_append.1 hx2 with h' | h'
                · exact h64 x h'
                · rw [List.mem_singleton.1 h']; exact ⟨hm1, hz, hz, hz, hz⟩
            · by_cases c6 : b4 = 6
              · refine ⟨t.take b3.toNat, i4, h4, ⟨K, fun k hk => ?_⟩, a4, fun x hx2 => h64 x (List.mem_of_mem_take hx2), by rw [List.length_take]; omega⟩
                dsimp only
                rw [spec_l17Bent.f, e1]; simp only [Option.bind_some]; rw [hw, show spec_l17Right.f k l i1 h1 (1 + b1) = some (t, i2, h2) from e2 k hk]; simp only [Option.bind_some]; rw [e3]; simp only [Option.bind_some]; rw [e4]; simp only [Option.bind_some]; rw [if_neg c0, if_neg c1, if_neg c2, if_neg c3, if_neg c4, if_neg c5, if_pos c6, if_pos p3, if_pos (by omega)]
              · refine ⟨t, i4, h4, ⟨K, fun k hk => ?_⟩, a4, h64, by omega⟩
                dsimp only
                rw [spec_l17Bent.f, e1]; simp only [Option.bind_some]; rw [hw, show spec_l17Right.f k l i1 h1 (1 + b1) = some (t, i2, h2) from e2 k hk]; simp only [Option.bind_some]; rw [e3]; simp only [Option.bind_some]; rw [e4]; simp only [Option.bind_some]; rw [if_neg c0, if_neg c1, if_neg c2, if_neg c3, if_neg c4, if_neg c5, if_neg c6]
def tree64 (x : S68) : Prop := x.f0.length ≤ 32 ∧ ∀ y ∈ x.f0, node64 y
theorem wf_tree64 (t : List S93) (h : Wf t) : tree64 ⟨t⟩ := ⟨by have := h.2.1; show t.length ≤ 32; omega, h.2.2.2⟩
theorem trees_snoc (ts : List S68) (h : ∀ x ∈ ts, tree64 x) (x : S68) (hx : tree64 x) : ∀ y ∈ ts ++ [x], tree64 y := fun y hy => by
  rcases List.mem_append.1 hy with h1 | h1
  · exact h y h1
  · obtain rfl := List.mem_singleton.1 h1; exact hx
theorem ints_snoc (s : List Int) (h : ∀ x ∈ s, int64B x) (v : Int) (hv : int64B v) : ∀ y ∈ s ++ [v], int64B y := fun y hy => by
  rcases List.mem_append.1 hy with h1 | h1
  · exact h y h1
  · obtain rfl := List.mem_singleton.1 h1; exact hv
theorem model_signs (l : List Int) (n : List ByteArray) (b : Int) (ts : List S68) (x5 : Int) (x3 : Nat) (h3 : x3 ≤ 3) : ∀ d j (s : List Int) (i h : Int), j + d = x3 → s.length = j → (∀ x ∈ s, int64B x) → At l i →
    ∃ s' i' h', Ev (fun k => spec_l24Right.l1 k (x3 : Int) x5 (j : Int) l i h n s b ts) (n, s', b, ts, i', h') ∧ At l i' ∧ s'.length ≤ 3 ∧ ∀ x ∈ s', int64B x := by
  intro d
  induction d with
  | zero =>
    intro j s i h hj hs h64 ha
    refine ⟨s, i, h, ⟨1, fun k hk => ?_⟩, ha, by omega, h64⟩
    obtain ⟨m, rfl⟩ : ∃ m, k = m + 1 := ⟨k - 1, by omega⟩
    dsimp only
    rw [spec_l24Right.l1, if_neg (by omega)]
  | succ d ih =>
    intro j s i h hj hs h64 ha
    by_cases c : Int.tmod x5 2 = 1
    · obtain ⟨v, i1, h1, e1, p, q, a1⟩ := draw_below l i h 3 ha
      obtain ⟨s', i', h', ⟨K, e⟩, a', l', g'⟩ := ih (j + 1) (s ++ [wrap64 (v - 1)]) i1 h1 (by omega) (by simp [hs]) (ints_snoc s h64 _ (wrap64_B' _)) a1
      refine ⟨s', i', h', ⟨K + 1, fun k hk => ?_⟩, a', l', g'⟩
      obtain ⟨m, rfl⟩ : ∃ m, k = m + 1 := ⟨k - 1, by omega⟩
      dsimp only
      rw [spec_l24Right.l1, if_pos (by omega), if_pos c, e1]
      simp only [Option.bind_some]
      rw [if_pos (by omega), wnext j x3 (by omega) (by omega)]
      exact e m (by omega)
    · refine ⟨s, i, h, ⟨1, fun k hk => ?_⟩, ha, by omega, h64⟩
      obtain ⟨m, rfl⟩ : ∃ m, k = m + 1 := ⟨k - 1, by omega⟩
      dsimp only
      rw [spec_l24Right.l1, if_pos (by omega), if_neg c]
theorem model_trees (l : List Int) (n : List ByteArray) (b : Int) (x3 : Nat) (h0 : 1 ≤ x3) (h3 : x3 ≤ 3) (x5 : Nat) (h5 : x5 ≤ 3) : ∀ d j (ts : List S68) (i h : Int), j + d = x5 → ts.length = j → (∀ x ∈ ts, tree64 x) → At l i →
    ∃ s' ts' i' h', Ev (fun k => spec_l24Right.l0 k (x3 : Int) (x5 : Int) (j : Int) l i h n b ts) (n, s', b, ts', i', h') ∧ At l i' ∧ s'.length ≤ 3 ∧ (∀ x ∈ s', int64B x) ∧ ts'.length ≤ 3 ∧ ∀ x ∈ ts', tree64 x := by
  intro d
  induction d with
  | zero =>
    intro j ts i h hj hs ht ha
    obtain ⟨s', i', h', ⟨K, e⟩, a', l', g'⟩ := model_signs l n b ts (x5 : Int) x3 h3 x3 0 [] i h (by omega) rfl (fun x hx => by cases hx) ha
    refine ⟨s', ts, i', h', ⟨K + 1, fun k hk => ?_⟩, a', l', g', by omega, ht⟩
    obtain ⟨m, rfl⟩ : ∃ m, k = m + 1 := ⟨k - 1, by omega⟩
    dsimp only
    rw [spec_l24Right.l0, if_neg (by omega)]
    exact e m (by omega)
  | succ d ih =>
    intro j ts i h hj hs ht ha
    obtain ⟨t, i1, h1, ⟨K1, e1⟩, a1, w1⟩ := draw_right l i h (x3 : Int) ha (by omega) (by omega)
    obtain ⟨s', ts', i', h', ⟨K, e⟩, a', r'⟩ := ih (j + 1) (ts ++ [⟨t⟩]) i1 h1 (by omega) (by simp [hs]) (trees_snoc ts ht _ (wf_tree64 t w1)) a1
    refine ⟨s', ts', i', h', ⟨max K K1 + 1, fun k hk => ?_⟩, a', r'⟩
    obtain ⟨m, rfl⟩ : ∃ m, k = m + 1 := ⟨k - 1, by omega⟩
    dsimp only
    rw [spec_l24Right.l0, if_pos (by omega), show spec_l17Right.f m l i h (x3 : Int) = some (t, i1, h1) from e1 m (by omega)]
    simp only [Option.bind_some]
    rw [if_pos (by omega), wnext j x5 (by omega) (by omega)]
    exact e m (by omega)
def names3 : List ByteArray := [(⟨#[97]⟩ : ByteArray), (⟨#[98]⟩ : ByteArray), (⟨#[99, 50]⟩ : ByteArray)]
def Drawn (n : List ByteArray) (s : List Int) (b : Int) (t : List S68) : Prop := 1 ≤ n.length ∧ n.length ≤ 5 ∧ (∀ x ∈ n, x.size ≤ 13) ∧ s.length ≤ 4 ∧ (∀ x ∈ s, int64B x) ∧ int64B b ∧ t.length ≤ 9 ∧ ∀ x ∈ t, tree64 x
theorem model_right (l : List Int) (i h : Int) (ha : At l i) : ∃ n s b t i' h', Ev (fun k => spec_l24Right.f k l i h) (n, s, b, t, i', h') ∧ At l i' ∧ 1 ≤ n.length ∧ n.length ≤ 3 ∧ (∀ x ∈ n, x.size ≤ 13) ∧ s.length ≤ 3 ∧ (∀ x ∈ s, int64B x) ∧ int64B b ∧ t.length ≤ 3 ∧ ∀ x ∈ t, tree64 x := by
  obtain ⟨b1, i1, h1, e1, p1, q1, a1⟩ := draw_below l i h 3 ha
  have q1 := q1 (by omega)
  obtain ⟨b2, i2, h2, e2, p2, q2, a2⟩ := draw_below l i1 h1 21 a1
  obtain ⟨b3, i3, h3, e3, p3, q3, a3⟩ := draw_below l i2 h2 4 a2
  have q3 := q3 (by omega)
  obtain ⟨m1, rfl⟩ := int_nat p1
  obtain ⟨m3, rfl⟩ := int_nat p3
  have w1 : wrap64 (1 + (m1 : Int)) = ((m1 + 1 : Nat) : Int) := by unfold wrap64; omega
  obtain ⟨s', ts', i', h', ⟨K, e⟩, a', ls, gs, lt, gt⟩ := model_trees l (names3.take (m1 + 1)) (wrap64 (50 * (wrap64 (b2 - 10)))) (m1 + 1) (by omega) (by omega) m3 (by omega) m3 0 [] i3 h3 (by omega) rfl (fun x hx => by cases hx) a3
  have hn : (names3.take (m1 + 1)).length = m1 + 1 := by rw [List.length_take]; show min (m1 + 1) 3 = m1 + 1; omega
  refine ⟨names3.take (m1 + 1), s', wrap64 (50 * (wrap64 (b2 - 10))), ts', i', h', ⟨K, fun k hk => ?_⟩, a', by omega, by omega, fun x hx => ?_, ls, gs, wrap64_B' _, lt, gt⟩
  · dsimp only
    unfold spec_l24Right.f
    rw [e1, Option.bind_some, Option.bind_some, Option.bind_some]
    dsimp only
    rw [w1, if_pos (by omega), if_pos (by show ((m1 + 1 : Nat) : Int) ≤ 3; omega), Option.bind_some, Int.toNat_natCast, List.nil_append, if_pos (by have := hn; unfold names3 at this; rw [this]; simp; omega), e2, Option.bind_some, e3, Option.bind_some]
    exact e k hk
  · have := List.mem_of_mem_take hx
    unfold names3 at this
    simp only [List.mem_cons, List.not_mem_nil, or_false] at this
    rcases this with rfl | rfl | rfl <;> decide
theorem model_pad (l : List Int) (n : List ByteArray) (s : List Int) (b : Int) : ∀ d (ts : List S68) (i h : Int), 9 ≤ ts.length + d → ts.length ≤ 9 → (∀ x ∈ ts, tree64 x) → At l i →
    ∃ ts' i' h', Ev (fun k => spec_l24Bent.l0 k l i h n s b ts) (n, s, b, ts', i', h') ∧ At l i' ∧ ts'.length ≤ 9 ∧ ∀ x ∈ ts', tree64 x := by
  intro d
  induction d with
  | zero =>
    intro ts i h hd hl ht ha
    obtain ⟨v, i1, h1, e1, p, q, a1⟩ := draw_below l i h 2 ha
    have q := q (by omega)
    refine ⟨ts, i1, h1, ⟨1, fun k hk => ?_⟩, a1, hl, ht⟩
    obtain ⟨m, rfl⟩ : ∃ m, k = m + 1 := ⟨k - 1, by omega⟩
    dsimp only
    rw [spec_l24Bent.l0, e1]
    simp only [Option.bind_some]
    rw [if_neg (by unfold wrap64; omega)]
  | succ d ih =>
    intro ts i h hd hl ht ha
    obtain ⟨v, i1, h1, e1, p, q, a1⟩ := draw_below l i h 2 ha
    have q := q (by omega)
    have hw : wrap64 (8 + v) = 8 + v := by unfold wrap64; omega
    by_cases c : (ts.length : Int) < 8 + v
    · have hone : spec_OneLeaf.f 1 = some [⟨-1, 0, 0, 0, 1⟩] := rfl
      obtain ⟨ts', i', h', ⟨K, e⟩, r⟩ := ih (ts ++ [⟨[⟨-1, 0, 0, 0, 1⟩]⟩]) i1 h1 (by rw [List.length_append, List.length_singleton]; omega) (by rw [List.length_append, List.length_singleton]; omega) (trees_snoc ts ht _ (wf_tree64 _ (one_leaf 1 (by constructor <;> omega)))) a1
      refine ⟨ts', i', h', ⟨K + 1, fun k hk => ?_⟩, r⟩
      obtain ⟨m, rfl⟩ : ∃ m, k = m + 1 := ⟨k - 1, by omega⟩
      dsimp only
      rw [spec_l24Bent.l0, e1]
      simp only [Option.bind_some]
      rw [hw, if_pos c, hone]
      simp only [Option.bind_some]
      rw [if_pos (by omega)]
      exact e m (by omega)
    · refine ⟨ts, i1, h1, ⟨1, fun k hk => ?_⟩, a1, hl, ht⟩
      obtain ⟨m, rfl⟩ : ∃ m, k = m + 1 := ⟨k - 1, by omega⟩
      dsimp only
      rw [spec_l24Bent.l0, e1]
      simp only [Option.bind_some]
      rw [hw, if_neg c]
theorem pick_str (l : List Int) (i h : Int) (xs : List ByteArray) (ha : At l i) (hx : 1 ≤ xs.length) : ∃ v i' h', spec_l1Pick.f l i h xs = some (v, i', h') ∧ v ∈ xs ∧ At l i' := by
  obtain ⟨b, i1, h1, e, p, q, a⟩ := draw_below l i h (xs.length : Int) ha
  have hq := q (by omega)
  obtain ⟨j, rfl⟩ := int_nat p
  refine ⟨xs.getD j ByteArray.empty, i1, h1, ?_, ?_, a⟩
  · unfold spec_l1Pick.f
    rw [e]
    simp only [Option.bind_some]
    rw [if_pos p, if_pos hq, rdOf_nat]
  · rw [List.getD_eq_getElem?_getD, List.getElem?_eq_getElem (by omega)]; exact List.getElem_mem _
theorem draw_model (l : List Int) (i h : Int) (ha : At l i) : ∃ n s b t i' h', Ev (fun k => spec_l24Bent.f k l i h) (n, s, b, t, i', h') ∧ At l i' ∧ Drawn n s b t := by
  obtain ⟨n, s, b, t, i1, h1, ⟨K1, e1⟩, a1, hn1, hn2, hnz, hs, hs64, hb, ht, ht64⟩ := model_right l i h ha
  obtain ⟨v, i2, h2, e2, p, q, a2⟩ := draw_below l i1 h1 14 a1
  by_cases c0 : v = 0
  · obtain ⟨x, i3, h3, e3, hm, a3⟩ := pick_str l i2 h2 [(⟨#[]⟩ : ByteArray), (⟨#[65]⟩ : ByteArray), (⟨#[98]⟩ : ByteArray), (⟨#[97, 98, 99, 100, 101, 102, 103, 104, 105, 106, 107, 108, 109]⟩ : ByteArray)] a2 (by simp)
    have hv : x.size ≤ 13 := by
      simp only [List.mem_cons, List.not_mem_nil, or_false] at hm
      rcases hm with rfl | rfl | rfl | rfl <;> decide
    refine ⟨n.set 0 x, s, b, t, i3, h3, ⟨K1, fun k hk => ?_⟩, a3, by rw [List.length_set]; omega, by rw [List.length_set]; omega, fun y hy => ?_, by omega, hs64, hb, by omega, ht64⟩
    · have g1 := e1 k hk
      dsimp only at g1 ⊢
      rw [spec_l24Bent.f, g1]
      simp only [Option.bind_some]
      rw [e2]
      simp only [Option.bind_some]
      rw [if_pos c0, e3]
      simp only [Option.bind_some]
      rw [if_pos (by omega)]
      rfl
    · rcases List.mem_or_eq_of_mem_set hy with h4 | h4
      · exact hnz y h4
      · rw [h4]; exact hv
  by_cases c1 : v = 1
  · refine ⟨n, s ++ [0], b, t, i2, h2, ⟨K1, fun k hk => ?_⟩, a2, hn1, by omega, hnz, by rw [List.length_append, List.length_singleton]; omega, ints_snoc s hs64 0 zero_B, hb, by omega, ht64⟩
    have g1 := e1 k hk
    dsimp only at g1 ⊢
    rw [spec_l24Bent.f, g1]
    simp only [Option.bind_some]
    rw [e2]
    simp only [Option.bind_some]
    rw [if_neg c0, if_pos c1, if_pos (by omega)]
  by_cases c2 : v = 2
  · obtain ⟨x, i3, h3, e3, hm, a3⟩ := pick_int l i2 h2 [2147483647, 2147483648, (-2147483648)] a2 (by simp)
    have hx : int64B x := by
      simp only [List.mem_cons, List.not_mem_nil, or_false] at hm
      rcases hm with rfl | rfl | rfl <;> constructor <;> omega
    refine ⟨n, s, x, t, i3, h3, ⟨K1, fun k hk => ?_⟩, a3, hn1, by omega, hnz, by omega, hs64, hx, by omega, ht64⟩
    have g1 := e1 k hk
    dsimp only at g1 ⊢
    rw [spec_l24Bent.f, g1]
    simp only [Option.bind_some]
    rw [e2]
    simp only [Option.bind_some]
    rw [if_neg c0, if_neg c1, if_pos c2, e3]
    simp only [Option.bind_some]
  by_cases c3 : v = 3
  · obtain ⟨x, i3, h3, ⟨K3, e3⟩, a3, x64, xl⟩ := draw_bent l i2 h2 a2
    refine ⟨n, s, b, t ++ [⟨x⟩], i3, h3, ⟨max K1 K3, fun k hk => ?_⟩, a3, hn1, by omega, hnz, by omega, hs64, hb, by rw [List.length_append, List.length_singleton]; omega, trees_snoc t ht64 _ ⟨xl, x64⟩⟩
    have g1 := e1 k (by omega)
    have g3 := e3 k (by omega)
    dsimp only at g1 g3 ⊢
    rw [spec_l24Bent.f, g1]
    simp only [Option.bind_some]
    rw [e2]
    simp only [Option.bind_some]
    rw [if_neg c0, if_neg c1, if_neg c2, if_pos c3, g3]
    simp only [Option.bind_some]
    rw [if_pos (by omega)]
  by_cases c4 : v = 4
  · obtain ⟨t', i3, h3, ⟨K3, e3⟩, a3, tl, t64⟩ := model_pad l n s b 9 t i2 h2 (by omega) (by omega) ht64 a2
    refine ⟨n, s, b, t', i3, h3, ⟨max K1 K3, fun k hk => ?_⟩, a3, hn1, by omega, hnz, by omega, hs64, hb, tl, t64⟩
    have g1 := e1 k (by omega)
    have g3 := e3 k (by omega)
    dsimp only at g1 g3 ⊢
    rw [spec_l24Bent.f, g1]
    simp only [Option.bind_some]
    rw [e2]
    simp only [Option.bind_some]
    rw [if_neg c0, if_neg c1, if_neg c2, if_neg c3, if_pos c4]
    exact g3
  by_cases c5 : v = 5
  · refine ⟨n ++ [(⟨#[100]⟩ : ByteArray), (⟨#[101]⟩ : ByteArray)], s, b, t, i2, h2, ⟨K1, fun k hk => ?_⟩, a2, by rw [List.length_append]; omega, by rw [List.length_append]; simp; omega, fun y hy => ?_, by omega, hs64, hb, by omega, ht64⟩
    · have g1 := e1 k hk
      dsimp only at g1 ⊢
      rw [spec_l24Bent.f, g1]
      simp only [Option.bind_some]
      rw [e2]
      simp only [Option.bind_some]
      rw [if_neg c0, if_neg c1, if_neg c2, if_neg c3, if_neg c4, if_pos c5, if_pos (by simp; omega)]
    · rcases List.mem_append.1 hy with h4 | h4
      · exact hnz y h4
      · simp only [List.mem_cons, List.not_mem_nil, or_false] at h4
        rcases h4 with rfl | rfl <;> decide
  refine ⟨n, s, b, t, i2, h2, ⟨K1, fun k hk => ?_⟩, a2, hn1, by omega, hnz, by omega, hs64, hb, by omega, ht64⟩
  have g1 := e1 k hk
  dsimp only at g1 ⊢
  rw [spec_l24Bent.f, g1]
  simp only [Option.bind_some]
  rw [e2]
  simp only [Option.bind_some]
  rw [if_neg c0, if_neg c1, if_neg c2, if_neg c3, if_neg c4, if_neg c5]
def isF (f : Int) (y : S93) : Bool := innerB y && (y.f0 == f)
theorem isF_yes {f : Int} {y : S93} (h : innerB y = true) (h2 : y.f0 = f) : isF f y = true := by unfold isF; rw [h, h2]; simp
theorem isF_no1 {f : Int} {y : S93} (h : ¬ innerB y = true) : isF f y = false := by unfold isF; simp [h]
theorem isF_no2 {f : Int} {y : S93} (h : ¬ y.f0 = f) : isF f y = false := by unfold isF; simp [h]
def cntN (f : Int) (ns : List S93) : Nat := (ns.filter (isF f)).length
def cntT (ts : List S68) (f : Int) : Nat := (ts.map (fun x => cntN f x.f0)).sum
theorem drop_cons {α : Type} (l : List α) (j : Nat) (z : α) (h : j < l.length) : l.drop j = l.getD j z :: l.drop (j + 1) := by
  rw [List.drop_eq_getElem_cons h, List.getD_eq_getElem?_getD, List.getElem?_eq_getElem h]; rfl
theorem cntN_cons (f : Int) (y : S93) (l : List S93) : cntN f (y :: l) = (if isF f y then 1 else 0) + cntN f l := by
  unfold cntN; rw [List.filter_cons]; split <;> simp [Nat.add_comm]
theorem cntN_le (f : Int) (l : List S93) : cntN f l ≤ l.length := List.length_filter_le _ _
def fuelT (ts : List S68) : Nat := (ts.map (fun x => x.f0.length + 2)).sum
theorem rdt (l : List S68) (j : Nat) : rd_T68 l (j : Int) = l.getD j z68 := by unfold rd_T68; rw [Int.toNat_natCast]
theorem impl_uses_nodes (f : Int) (ts : List S68) (n i : Int) (ns : List S93) (hns : ns.length ≤ 1048576) : ∀ d j (acc : Nat) k, j + d = ns.length → acc + d ≤ 1073741824 →
    impl_UsesOf.l1 (k + d + 1) f (acc : Int) ts n i ns (ns.length : Int) (j : Int) = impl_UsesOf.l0 k f ((acc + cntN f (ns.drop j) : Nat) : Int) ts n (wrap64 (i + 1)) := by
  intro d
  induction d with
  | zero =>
    intro j acc k hj ha
    rw [impl_UsesOf.l1, if_neg (by omega), List.drop_eq_nil_of_le (by omega)]
    rfl
  | succ d ih =>
    intro j acc k hj ha
    rw [show k + (d + 1) + 1 = (k + d + 1) + 1 by omega, impl_UsesOf.l1, if_pos (by omega), if_pos (by omega), if_pos (by omega), rdn, wnext j ns.length (by omega) (by omega), drop_cons ns j z93 (by omega), cntN_cons, show impl_isLeaf.f (ns.getD j z93).f0 (ns.getD j z93).f1 (ns.getD j z93).f2 (ns.getD j z93).f3 (ns.getD j z93).f4 = some ((ns.getD j z93).f0 == (-1)) from rfl, Option.bind_some]
    by_cases c : ((ns.getD j z93).f0 == (-1)) = true
    · have hi : isF f (ns.getD j z93) = false := isF_no1 (by unfold innerB; rw [bne, c]; exact Bool.false_ne_true)
      rw [if_pos c, ih (j + 1) acc k (by omega) (by omega), hi]
      simp
    · rw [if_neg c]
      have hc : ((ns.getD j z93).f0 == (-1)) = false := by simpa using c
      by_cases c2 : (ns.getD j z93).f0 = f
      · have hi : isF f (ns.getD j z93) = true := isF_yes (by unfold innerB; rw [bne, hc]; rfl) c2
        rw [if_pos c2, show wrap64 ((acc : Int) + 1) = ((acc + 1 : Nat) : Int) by unfold wrap64; omega, ih (j + 1) (acc + 1) k (by omega) (by omega), hi]
        simp [Nat.add_assoc]
      · have hi : isF f (ns.getD j z93) = false := isF_no2 c2
        rw [if_neg c2, ih (j + 1) acc k (by omega) (by omega), hi]
        simp
theorem cntT_cons (f : Int) (x : S68) (l : List S68) : cntT (x :: l) f = cntN f x.f0 + cntT l f := by unfold cntT; rw [List.map_cons, List.sum_cons]
theorem fuelT_cons (x : S68) (l : List S68) : fuelT (x :: l) = x.f0.length + 2 + fuelT l := by unfold fuelT; rw [List.map_cons, List.sum_cons]
theorem tree_len (ts : List S68) (h : ∀ x ∈ ts, tree64 x) (i : Nat) (hi : i < ts.length) : (ts.getD i z68).f0.length ≤ 32 := by
  rw [List.getD_eq_getElem?_getD, List.getElem?_eq_getElem hi]; exact (h _ (List.getElem_mem _)).1
theorem impl_uses_trees (f : Int) (ts : List S68) (h : ∀ x ∈ ts, tree64 x) (ht : ts.length ≤ 9) : ∀ d i (acc : Nat) k, i + d = ts.length → acc + 32 * d ≤ 1073741824 →
    impl_UsesOf.l0 (k + fuelT (ts.drop i) + 1) f (acc : Int) ts (ts.length : Int) (i : Int) = some ((acc + cntT (ts.drop i) f : Nat) : Int) := by
  intro d
  induction d with
  | zero =>
    intro i acc k hi ha
    rw [impl_UsesOf.l0, if_neg (by omega), List.drop_eq_nil_of_le (by omega)]
    rfl
  | succ d ih =>
    intro i acc k hi ha
    have hl := tree_len ts h i (by omega)
    have hc := cntN_le f (ts.getD i z68).f0
    rw [drop_cons ts i z68 (by omega), fuelT_cons, cntT_cons, impl_UsesOf.l0, if_pos (by omega), if_pos (by omega), if_pos (by omega), rdt]
    have e := impl_uses_nodes f ts (ts.length : Int) (i : Int) (ts.getD i z68).f0 (by omega) (ts.getD i z68).f0.length 0 acc (k + fuelT (ts.drop (i + 1)) + 1) (by omega) (by omega)
    rw [show k + ((ts.getD i z68).f0.length + 2 + fuelT (ts.drop (i + 1))) = k + fuelT (ts.drop (i + 1)) + 1 + (ts.getD i z68).f0.length + 1 by omega]
    refine e.trans ?_
    rw [wnext i ts.length (by omega) (by omega), List.drop_zero, ih (i + 1) _ k (by omega) (by omega), Nat.add_assoc]
theorem fuelT_le (ts : List S68) (h : ∀ x ∈ ts, tree64 x) : fuelT ts ≤ 34 * ts.length := by
  induction ts with
  | nil => simp [fuelT]
  | cons x l ih =>
    have h1 := ih (fun y hy => h y (List.mem_cons_of_mem _ hy))
    have h2 := (h x (List.mem_cons_self)).1
    rw [fuelT_cons, List.length_cons]
    omega
theorem impl_uses (n : List ByteArray) (s : List Int) (b : Int) (ts : List S68) (h : ∀ x ∈ ts, tree64 x) (ht : ts.length ≤ 9) (f : Int) (k : Nat) (hk : 400 ≤ k) : impl_UsesOf.f k n s b ts f = some ((cntT ts f : Nat) : Int) := by
  have hf := fuelT_le ts h
  have e := impl_uses_trees f ts h ht ts.length 0 0 (k - fuelT ts - 1) (by omega) (by omega)
  rw [List.drop_zero, show k - fuelT ts - 1 + fuelT ts + 1 = k by omega] at e
  unfold impl_UsesOf.f
  refine e.trans ?_
  rw [Nat.zero_add]
theorem spec_uses_nodes (f : Int) (n : List ByteArray) (s : List Int) (b : Int) (ts : List S68) (i : Nat) (hi : i < ts.length) (hns : (ts.getD i z68).f0.length ≤ 1048576) : ∀ d j (acc : Nat) k, j + d = (ts.getD i z68).f0.length → acc + d ≤ 1073741824 →
    spec_UsesOf.l1 (k + d + 1) f (acc : Int) (i : Int) (j : Int) n s b ts = spec_UsesOf.l0 k f ((acc + cntN f ((ts.getD i z68).f0.drop j) : Nat) : Int) (wrap64 ((i : Int) + 1)) n s b ts := by
  intro d
  induction d with
  | zero =>
    intro j acc k hj ha
    rw [spec_UsesOf.l1, if_pos (by omega), if_pos (by omega), rdt, if_neg (by omega), List.drop_eq_nil_of_le (by omega)]
    rfl
  | succ d ih =>
    intro j acc k hj ha
    rw [show k + (d + 1) + 1 = (k + d + 1) + 1 by omega, spec_UsesOf.l1, if_pos (by omega), if_pos (by omega), rdt, if_pos (by omega), if_pos (by omega), rdn, wnext j (ts.getD i z68).f0.length (by omega) (by omega), drop_cons (ts.getD i z68).f0 j z93 (by omega), cntN_cons, inner_f, Option.bind_some]
    by_cases c : innerB ((ts.getD i z68).f0.getD j z93) = true
    · rw [if_pos c]
      by_cases c2 : ((ts.getD i z68).f0.getD j z93).f0 = f
      · have hi : isF f ((ts.getD i z68).f0.getD j z93) = true := isF_yes c c2
        rw [if_pos c2, show wrap64 ((acc : Int) + 1) = ((acc + 1 : Nat) : Int) by unfold wrap64; omega, ih (j + 1) (acc + 1) k (by omega) (by omega), hi]
        simp [Nat.add_assoc]
      · have hi : isF f ((ts.getD i z68).f0.getD j z93) = false := isF_no2 c2
        rw [if_neg c2, ih (j + 1) acc k (by omega) (by omega), hi]
        simp
    · have hi : isF f ((ts.getD i z68).f0.getD j z93) = false := isF_no1 c
      rw [if_neg c, ih (j + 1) acc k (by omega) (by omega), hi]
      simp
theorem spec_uses_trees (f : Int) (n : List ByteArray) (s : List Int) (b : Int) (ts : List S68) (h : ∀ x ∈ ts, tree64 x) (ht : ts.length ≤ 9) : ∀ d i (acc : Nat) k, i + d = ts.length → acc + 32 * d ≤ 1073741824 →
    spec_UsesOf.l0 (k + fuelT (ts.drop i) + 1) f (acc : Int) (i : Int) n s b ts = some ((acc + cntT (ts.drop i) f : Nat) : Int) := by
  intro d
  induction d with
  | zero =>
    intro i acc k hi ha
    rw [spec_UsesOf.l0, if_neg (by omega), List.drop_eq_nil_of_le (by omega)]
    rfl
  | succ d ih =>
    intro i acc k hi ha
    have hl := tree_len ts h i (by omega)
    have hc := cntN_le f (ts.getD i z68).f0
    rw [drop_cons ts i z68 (by omega), fuelT_cons, cntT_cons, spec_UsesOf.l0, if_pos (by omega)]
    have e := spec_uses_nodes f n s b ts i (by omega) (by omega) (ts.getD i z68).f0.length 0 acc (k + fuelT (ts.drop (i + 1)) + 1) (by omega) (by omega)
    rw [show k + ((ts.getD i z68).f0.length + 2 + fuelT (ts.drop (i + 1))) = k + fuelT (ts.drop (i + 1)) + 1 + (ts.getD i z68).f0.length + 1 by omega]
    refine e.trans ?_
    rw [wnext i ts.length (by omega) (by omega), List.drop_zero, ih (i + 1) _ k (by omega) (by omega), Nat.add_assoc]
theorem spec_uses (n : List ByteArray) (s : List Int) (b : Int) (ts : List S68) (h : ∀ x ∈ ts, tree64 x) (ht : ts.length ≤ 9) (f : Int) (k : Nat) (hk : 400 ≤ k) : spec_UsesOf.f k n s b ts f = some ((cntT ts f : Nat) : Int) := by
  have hf := fuelT_le ts h
  have e := spec_uses_trees f n s b ts h ht ts.length 0 0 (k - fuelT ts - 1) (by omega) (by omega)
  rw [List.drop_zero, show k - fuelT ts - 1 + fuelT ts + 1 = k by omega] at e
  unfold spec_UsesOf.f
  refine e.trans ?_
  rw [Nat.zero_add]
theorem cntT_le (ts : List S68) (h : ∀ x ∈ ts, tree64 x) (f : Int) : cntT ts f ≤ 32 * ts.length := by
  induction ts with
  | nil => simp [cntT]
  | cons x l ih =>
    have h1 := ih (fun y hy => h y (List.mem_cons_of_mem _ hy))
    have h2 := (h x (List.mem_cons_self)).1
    have h3 := cntN_le f x.f0
    rw [cntT_cons, List.length_cons]
    omega
def posR (u : Int → Nat) (out : List Int) (f : Int) : Nat → Nat
  | 0 => 0
  | p + 1 => if u (out.getD p 0) < u f then posR u out f p else p + 1
theorem posR_le (u : Int → Nat) (out : List Int) (f : Int) : ∀ p, posR u out f p ≤ p
  | 0 => Nat.le_refl _
  | p + 1 => by
    rw [posR]
    have := posR_le u out f p
    split <;> omega
def insAt (out : List Int) (f : Int) (p : Nat) : List Int := out.take p ++ f :: out.drop p
def ranked (u : Int → Nat) : Nat → List Int
  | 0 => []
  | m + 1 => insAt (ranked u m) (m : Int) (posR u (ranked u m) (m : Int) m)
theorem insAt_len (out : List Int) (f : Int) (p : Nat) : (insAt out f p).length = out.length + 1 := by
  unfold insAt; rw [List.length_append, List.length_cons, List.length_take, List.length_drop]; omega
theorem ranked_len (u : Int → Nat) : ∀ m, (ranked u m).length = m
  | 0 => rfl
  | m + 1 => by rw [ranked, insAt_len, ranked_len u m]
def restR (n i : Nat) : List Int := (List.range' i (n - i)).map (fun x : Nat => (x : Int))
theorem restR_cons (n i : Nat) (h : i < n) : restR n i = (i : Int) :: restR n (i + 1) := by
  unfold restR
  rw [show n - i = (n - (i + 1)) + 1 by omega, List.range'_succ, List.map_cons]
theorem restR_nil (n : Nat) : restR n n = [] := by unfold restR; rw [Nat.sub_self]; rfl
theorem restR_len (n i : Nat) : (restR n i).length = n - i := by unfold restR; rw [List.length_map, List.length_range']
theorem swap_mid (A : List Int) (x y : Int) (D : List Int) : ((A ++ x :: y :: D).set (A.length + 1) x).set A.length y = A ++ y :: x :: D := by
  induction A with
  | nil => rfl
  | cons a A ih =>
    show a :: (((A ++ x :: y :: D).set (A.length + 1) x).set A.length y) = a :: _
    rw [ih]; rfl
theorem mid_get (A : List Int) (x : Int) (D : List Int) : (A ++ x :: D).getD A.length 0 = x := by
  rw [List.getD_eq_getElem?_getD, List.getElem?_append_right (Nat.le_refl _), Nat.sub_self]; rfl
theorem cmp_val (a b : Int) : cmp_Compare_int.f a b = some (if a < b then -1 else if a > b then 1 else 0) := by
  have h : ∀ a : Int, cmp_isNaN_int.f a = some false := fun a => by unfold cmp_isNaN_int.f; rw [bne_self_eq_false]
  unfold cmp_Compare_int.f
  rw [h, Option.bind_some, h, Option.bind_some, if_neg Bool.false_ne_true, if_neg Bool.false_ne_true]
  split
  · rfl
  · split <;> rfl
theorem less_val (n : List ByteArray) (s : List Int) (b : Int) (ts : List S68) (h : ∀ x ∈ ts, tree64 x) (ht : ts.length ≤ 9) (a0 a1 : Int) (k : Nat) (hk : 400 ≤ k) : ∃ v, impl_Ranked_1_c.f k a0 a1 n s b ts = some v ∧ (v < 0 ↔ cntT ts a1 < cntT ts a0) := by
  unfold impl_Ranked_1_c.f
  rw [impl_uses n s b ts h ht a1 k hk, Option.bind_some, impl_uses n s b ts h ht a0 k hk, Option.bind_some, cmp_val, Option.bind_some]
  refine ⟨_, rfl, ?_⟩
  by_cases c : ((cntT ts a1 : Nat) : Int) < ((cntT ts a0 : Nat) : Int)
  · rw [if_pos c]; constructor
    · intro _; omega
    · intro _; decide
  · rw [if_neg c]; constructor
    · intro h; split at h <;> omega
    · intro h; omega
def midR (u : Int → Nat) (n i j : Nat) : List Int := (ranked u i).take j ++ (i : Int) :: ((ranked u i).drop j ++ restR n (i + 1))
theorem midR_len (u : Int → Nat) (n i j : Nat) (h : i < n) : (midR u n i j).length = n := by
  unfold midR; rw [List.length_append, List.length_cons, List.length_append, List.length_take, List.length_drop, restR_len, ranked_len]; omega
theorem take_one (l : List Int) (j : Nat) (h : j < l.length) : l.take (j + 1) = l.take j ++ [l.getD j 0] := (take_snoc1 l j 0 h).symm
theorem midR_split (u : Int → Nat) (n i j : Nat) (h : j < i) : midR u n i (j + 1) = (ranked u i).take j ++ (ranked u i).getD j 0 :: (i : Int) :: ((ranked u i).drop (j + 1) ++ restR n (i + 1)) := by
  unfold midR
  rw [take_one _ j (by rw [ranked_len]; exact h), List.append_assoc]; rfl
theorem midR_swap (u : Int → Nat) (n i j : Nat) (h : j < i) : ((midR u n i (j + 1)).set (j + 1) ((ranked u i).getD j 0)).set j (i : Int) = midR u n i j := by
  have hl : ((ranked u i).take j).length = j := by rw [List.length_take, ranked_len]; omega
  have e := swap_mid ((ranked u i).take j) ((ranked u i).getD j 0) (i : Int) ((ranked u i).drop (j + 1) ++ restR n (i + 1))
  rw [hl] at e
  rw [midR_split u n i j h, e]
  unfold midR
  rw [drop_cons (ranked u i) j 0 (by rw [ranked_len]; exact h)]; rfl
theorem midR_at (u : Int → Nat) (n i j : Nat) (h : j ≤ i) : (midR u n i j).getD j 0 = (i : Int) := by
  have hl : ((ranked u i).take j).length = j := by rw [List.length_take, ranked_len]; omega
  have e := mid_get ((ranked u i).take j) (i : Int) ((ranked u i).drop j ++ restR n (i + 1))
  rw [hl] at e
  exact e
theorem midR_below (u : Int → Nat) (n i j : Nat) (h : j < i) : (midR u n i (j + 1)).getD j 0 = (ranked u i).getD j 0 := by
  have hl : ((ranked u i).take j).length = j := by rw [List.length_take, ranked_len]; omega
  rw [midR_split u n i j h]
  have e := mid_get ((ranked u i).take j) ((ranked u i).getD j 0) ((i : Int) :: ((ranked u i).drop (j + 1) ++ restR n (i + 1)))
  rw [hl] at e
  exact e
theorem sort_in (nm : List ByteArray) (s : List Int) (b : Int) (ts : List S68) (h : ∀ x ∈ ts, tree64 x) (ht : ts.length ≤ 9) (n i : Nat) (hi : i < n) (hn : n ≤ 1000) (r : List Int) : ∀ j, j ≤ i →
    Ev (fun k => slices_insertionSortCmpFunc_int_fc_81_46.l0 k (midR (cntT ts) n i (posR (cntT ts) (ranked (cntT ts) i) (i : Int) j)) 0 (n : Int) (wrap64 ((i : Int) + 1)) nm s b ts) r →
    Ev (fun k => slices_insertionSortCmpFunc_int_fc_81_46.l1 k (midR (cntT ts) n i j) 0 (n : Int) (i : Int) (j : Int) nm s b ts) r := by
  intro j
  induction j with
  | zero =>
    intro _ ⟨K, e⟩
    refine ⟨K + 1, fun k hk => ?_⟩
    obtain ⟨m, rfl⟩ : ∃ m, k = m + 1 := ⟨k - 1, by omega⟩
    dsimp only
    rw [slices_insertionSortCmpFunc_int_fc_81_46.l1, if_neg (by omega)]
    exact e m (by omega)
  | succ j ih =>
    intro hj hE
    have hw : wrap64 (((j + 1 : Nat) : Int) - 1) = (j : Int) := by unfold wrap64; omega
    have hl := midR_len (cntT ts) n i (j + 1) hi
    have step : ∀ m, 400 ≤ m → slices_insertionSortCmpFunc_int_fc_81_46.l1 (m + 1) (midR (cntT ts) n i (j + 1)) 0 (n : Int) (i : Int) ((j + 1 : Nat) : Int) nm s b ts =
        if cntT ts ((ranked (cntT ts) i).getD j 0) < cntT ts (i : Int) then slices_insertionSortCmpFunc_int_fc_81_46.l1 m (midR (cntT ts) n i j) 0 (n : Int) (i : Int) (j : Int) nm s b ts
        else slices_insertionSortCmpFunc_int_fc_81_46.l0 m (midR (cntT ts) n i (j + 1)) 0 (n : Int) (wrap64 ((i : Int) + 1)) nm s b ts := fun m hm => by
      obtain ⟨v, e1, hv⟩ := less_val nm s b ts h ht (i : Int) ((ranked (cntT ts) i).getD j 0) m hm
      rw [slices_insertionSortCmpFunc_int_fc_81_46.l1, if_pos (by omega), if_pos (by omega), if_pos (by omega), hw, if_pos (by omega), if_pos (by omega), rd_nat, rd_nat, midR_at (cntT ts) n i (j + 1) hj, midR_below (cntT ts) n i j (by omega), e1, Option.bind_some, Int.toNat_natCast, Int.toNat_natCast, midR_swap (cntT ts) n i j (by omega)]
      by_cases c : cntT ts ((ranked (cntT ts) i).getD j 0) < cntT ts (i : Int)
      · rw [if_pos (hv.2 c), if_pos c]
      · rw [if_neg (fun h => c (hv.1 h)), if_neg c]
    rw [posR] at hE
    by_cases c : cntT ts ((ranked (cntT ts) i).getD j 0) < cntT ts (i : Int)
    · rw [if_pos c] at hE
      obtain ⟨K, e⟩ := ih (by omega) hE
      refine ⟨max K 400 + 1, fun k hk => ?_⟩
      obtain ⟨m, rfl⟩ : ∃ m, k = m + 1 := ⟨k - 1, by omega⟩
      dsimp only
      rw [step m (by omega), if_pos c]
      exact e m (by omega)
    · rw [if_neg c] at hE
      obtain ⟨K, e⟩ := hE
      refine ⟨max K 400 + 1, fun k hk => ?_⟩
      obtain ⟨m, rfl⟩ : ∃ m, k = m + 1 := ⟨k - 1, by omega⟩
      dsimp only
      rw [step m (by omega), if_neg c]
      exact e m (by omega)
theorem midR_end (u : Int → Nat) (n i : Nat) (hi : i < n) : midR u n i i = ranked u i ++ restR n i := by
  unfold midR
  rw [List.take_of_length_le (by rw [ranked_len]; exact Nat.le_refl _), List.drop_of_length_le (by rw [ranked_len]; exact Nat.le_refl _), restR_cons n i hi]; rfl
theorem midR_pos (u : Int → Nat) (n i : Nat) : midR u n i (posR u (ranked u i) (i : Int) i) = ranked u (i + 1) ++ restR n (i + 1) := by
  rw [ranked]
  unfold midR insAt
  rw [List.append_assoc, List.cons_append]
theorem sort_out (nm : List ByteArray) (s : List Int) (b : Int) (ts : List S68) (h : ∀ x ∈ ts, tree64 x) (ht : ts.length ≤ 9) (n : Nat) (hn : n ≤ 1000) : ∀ d i, i + d = n →
    Ev (fun k => slices_insertionSortCmpFunc_int_fc_81_46.l0 k (ranked (cntT ts) i ++ restR n i) 0 (n : Int) (i : Int) nm s b ts) (ranked (cntT ts) n) := by
  intro d
  induction d with
  | zero =>
    intro i hi
    obtain rfl : i = n := by omega
    refine ⟨1, fun k hk => ?_⟩
    obtain ⟨m, rfl⟩ : ∃ m, k = m + 1 := ⟨k - 1, by omega⟩
    dsimp only
    rw [slices_insertionSortCmpFunc_int_fc_81_46.l0, if_neg (by omega), restR_nil, List.append_nil]
  | succ d ih =>
    intro i hi
    have e0 := ih (i + 1) (by omega)
    rw [← midR_pos (cntT ts) n i] at e0
    obtain ⟨K, e⟩ := sort_in nm s b ts h ht n i (by omega) hn (ranked (cntT ts) n) i (Nat.le_refl _) (e0.congr (fun k => by rw [wnext i n (by omega) (by omega)]))
    refine ⟨K + 1, fun k hk => ?_⟩
    obtain ⟨m, rfl⟩ : ∃ m, k = m + 1 := ⟨k - 1, by omega⟩
    dsimp only
    rw [slices_insertionSortCmpFunc_int_fc_81_46.l0, if_pos (by omega), ← midR_end (cntT ts) n i (by omega)]
    exact e m (by omega)
theorem ranked_one (u : Int → Nat) : ranked u 1 = [0] := rfl
theorem impl_sort (nm : List ByteArray) (s : List Int) (b : Int) (ts : List S68) (h : ∀ x ∈ ts, tree64 x) (ht : ts.length ≤ 9) (n : Nat) (h1 : 1 ≤ n) (hn : n < 20) :
    Ev (fun k => slices_SortStableFunc_int_int_fc_81_46.f k (restR n 0) nm s b ts) (ranked (cntT ts) n) := by
  obtain ⟨K, e⟩ := sort_out nm s b ts h ht n (by omega) (n - 1) 1 (by omega)
  refine ⟨K + 3, fun k hk => ?_⟩
  obtain ⟨m, rfl⟩ : ∃ m, k = m + 2 := ⟨k - 2, by omega⟩
  have g := e (m + 1) (by omega)
  dsimp only at g ⊢
  have hr : restR n 0 = ranked (cntT ts) 1 ++ restR n 1 := by rw [ranked_one, restR_cons n 0 (by omega)]; rfl
  unfold slices_SortStableFunc_int_int_fc_81_46.f slices_stableCmpFunc_int_fc_81_46.f
  rw [restR_len, Nat.sub_zero, slices_stableCmpFunc_int_fc_81_46.l0, if_neg (by omega), slices_insertionSortCmpFunc_int_fc_81_46.f, show wrap64 ((0 : Int) + 1) = ((1 : Nat) : Int) by unfold wrap64; omega, hr, g, Option.bind_some, slices_stableCmpFunc_int_fc_81_46.l1, if_neg (by omega), Option.bind_some]
theorem build_loop (nm : List ByteArray) (s : List Int) (b : Int) (ts : List S68) (n : Nat) (hn : n < 20) (r : List Int) (hs : Ev (fun k => slices_SortStableFunc_int_int_fc_81_46.f k (restR n 0) nm s b ts) r) : ∀ d i, i + d = n →
    Ev (fun k => impl_Ranked.l0 k ((List.range i).map (fun x : Nat => (x : Int))) (n : Int) (i : Int) nm s b ts) r := by
  have hr : restR n 0 = (List.range n).map (fun x : Nat => (x : Int)) := by unfold restR; rw [Nat.sub_zero, List.range_eq_range']
  intro d
  induction d with
  | zero =>
    intro i hi
    obtain rfl : i = n := by omega
    obtain ⟨K, e⟩ := hs
    refine ⟨K + 1, fun k hk => ?_⟩
    obtain ⟨m, rfl⟩ : ∃ m, k = m + 1 := ⟨k - 1, by omega⟩
    have g := e m (by omega)
    dsimp only at g ⊢
    rw [impl_Ranked.l0, if_neg (by omega), ← hr, g, Option.bind_some]
  | succ d ih =>
    intro i hi
    obtain ⟨K, e⟩ := ih (i + 1) (by omega)
    refine ⟨K + 1, fun k hk => ?_⟩
    obtain ⟨m, rfl⟩ : ∃ m, k = m + 1 := ⟨k - 1, by omega⟩
    have g := e m (by omega)
    dsimp only at g ⊢
    rw [impl_Ranked.l0, if_pos (by omega), if_pos (by rw [List.length_map, List.length_range]; omega), wnext i n (by omega) (by omega), ← g, List.range_succ, List.map_append]
    rfl
theorem impl_ranked (nm : List ByteArray) (s : List Int) (b : Int) (ts : List S68) (h : ∀ x ∈ ts, tree64 x) (ht : ts.length ≤ 9) (h1 : 1 ≤ nm.length) (hn : nm.length < 20) : Ev (fun k => impl_Ranked.f k nm s b ts) (ranked (cntT ts) nm.length) :=
  (build_loop nm s b ts nm.length hn _ (impl_sort nm s b ts h ht nm.length h1 hn) nm.length 0 (by omega)).congr (fun k => rfl)
theorem spec_in (nm : List ByteArray) (s : List Int) (b : Int) (ts : List S68) (h : ∀ x ∈ ts, tree64 x) (ht : ts.length ≤ 9) (i : Nat) (hi : i ≤ 1000) (r : List Int) : ∀ j, j ≤ i →
    Ev (fun k => spec_Ranked.l0 k (insAt (ranked (cntT ts) i) (i : Int) (posR (cntT ts) (ranked (cntT ts) i) (i : Int) j)) (wrap64 ((i : Int) + 1)) nm s b ts) r →
    Ev (fun k => spec_Ranked.l1 k (ranked (cntT ts) i) (i : Int) (j : Int) nm s b ts) r := by
  intro j
  have hl := ranked_len (cntT ts) i
  have fin : ∀ j, j ≤ i → ∀ m, ((some (([] : List Int) : List Int)).bind fun y454 => (if 0 ≤ (j : Int) then (if (j : Int) ≤ ((ranked (cntT ts) i).length : Int) then ((some ((ranked (cntT ts) i).take (j : Int).toNat : List Int)).bind fun y457 => (if y454.length + y457.length < 17592186044416 then ((some (y454 ++ y457 : List Int)).bind fun y461 => (if y461.length < 17592186044416 then ((some (y461 ++ [(i : Int)] : List Int)).bind fun y464 => ((some ((ranked (cntT ts) i).drop (j : Int).toNat : List Int)).bind fun y467 => (if y464.length + y467.length < 17592186044416 then (spec_Ranked.l0 m (y464 ++ y467) (wrap64 ((i : Int) + 1)) nm s b ts) else (none)))) else (none))) else (none))) else (none)) else (none))) = spec_Ranked.l0 m (insAt (ranked (cntT ts) i) (i : Int) j) (wrap64 ((i : Int) + 1)) nm s b ts := fun j hj m => by
    have t1 : ((ranked (cntT ts) i).take j).length = j := by rw [List.length_take, hl]; omega
    have t2 : ((ranked (cntT ts) i).drop j).length = i - j := by rw [List.length_drop, hl]
    rw [Option.bind_some, if_pos (by omega), if_pos (by omega), Option.bind_some, Int.toNat_natCast, if_pos (by rw [t1, List.length_nil]; omega), Option.bind_some, List.nil_append, if_pos (by rw [t1]; omega), Option.bind_some, Option.bind_some, if_pos (by rw [List.length_append, List.length_singleton, t1, t2]; omega), List.append_assoc]
    rfl
  induction j with
  | zero =>
    intro _ ⟨K, e⟩
    refine ⟨K + 1, fun k hk => ?_⟩
    obtain ⟨m, rfl⟩ : ∃ m, k = m + 1 := ⟨k - 1, by omega⟩
    dsimp only
    rw [spec_Ranked.l1, if_neg (by omega)]
    exact (fin 0 (by omega) m).trans (e m (by omega))
  | succ j ih =>
    intro hj hE
    have hw : wrap64 (((j + 1 : Nat) : Int) - 1) = (j : Int) := by unfold wrap64; omega
    have step : ∀ m, 400 ≤ m → spec_Ranked.l1 (m + 1) (ranked (cntT ts) i) (i : Int) ((j + 1 : Nat) : Int) nm s b ts =
        if cntT ts ((ranked (cntT ts) i).getD j 0) < cntT ts (i : Int) then spec_Ranked.l1 m (ranked (cntT ts) i) (i : Int) (j : Int) nm s b ts
        else spec_Ranked.l0 m (insAt (ranked (cntT ts) i) (i : Int) (j + 1)) (wrap64 ((i : Int) + 1)) nm s b ts := fun m hm => by
      rw [spec_Ranked.l1, if_pos (by omega), hw, if_pos (by omega), if_pos (by omega), rd_nat, spec_uses nm s b ts h ht _ m hm, Option.bind_some, spec_uses nm s b ts h ht _ m hm, Option.bind_some]
      by_cases c : cntT ts ((ranked (cntT ts) i).getD j 0) < cntT ts (i : Int)
      · rw [if_pos (by omega), if_pos c]
      · rw [if_neg (by omega), if_neg c]
        exact fin (j + 1) hj m
    rw [posR] at hE
    by_cases c : cntT ts ((ranked (cntT ts) i).getD j 0) < cntT ts (i : Int)
    · rw [if_pos c] at hE
      obtain ⟨K, e⟩ := ih (by omega) hE
      refine ⟨max K 400 + 1, fun k hk => ?_⟩
      obtain ⟨m, rfl⟩ : ∃ m, k = m + 1 := ⟨k - 1, by omega⟩
      dsimp only
      rw [step m (by omega), if_pos c]
      exact e m (by omega)
    · rw [if_neg c] at hE
      obtain ⟨K, e⟩ := hE
      refine ⟨max K 400 + 1, fun k hk => ?_⟩
      obtain ⟨m, rfl⟩ : ∃ m, k = m + 1 := ⟨k - 1, by omega⟩
      dsimp only
      rw [step m (by omega), if_neg c]
      exact e m (by omega)
theorem spec_out (nm : List ByteArray) (s : List Int) (b : Int) (ts : List S68) (h : ∀ x ∈ ts, tree64 x) (ht : ts.length ≤ 9) (hn : nm.length ≤ 1000) : ∀ d i, i + d = nm.length →
    Ev (fun k => spec_Ranked.l0 k (ranked (cntT ts) i) (i : Int) nm s b ts) (ranked (cntT ts) nm.length) := by
  intro d
  induction d with
  | zero =>
    intro i hi
    obtain rfl : i = nm.length := by omega
    refine ⟨1, fun k hk => ?_⟩
    obtain ⟨m, rfl⟩ : ∃ m, k = m + 1 := ⟨k - 1, by omega⟩
    dsimp only
    rw [spec_Ranked.l0, if_neg (by omega)]
  | succ d ih =>
    intro i hi
    have e0 := ih (i + 1) (by omega)
    rw [ranked] at e0
    obtain ⟨K, e⟩ := spec_in nm s b ts h ht i (by omega) _ i (Nat.le_refl _) (e0.congr (fun k => by rw [wnext i nm.length (by omega) (by omega)]))
    refine ⟨K + 1, fun k hk => ?_⟩
    obtain ⟨m, rfl⟩ : ∃ m, k = m + 1 := ⟨k - 1, by omega⟩
    dsimp only
    rw [spec_Ranked.l0, if_pos (by omega), ranked_len]
    exact e m (by omega)
theorem spec_ranked (nm : List ByteArray) (s : List Int) (b : Int) (ts : List S68) (h : ∀ x ∈ ts, tree64 x) (ht : ts.length ≤ 9) (hn : nm.length ≤ 1000) : Ev (fun k => spec_Ranked.f k nm s b ts) (ranked (cntT ts) nm.length) :=
  (spec_out nm s b ts h ht hn nm.length 0 (by omega)).congr (fun k => rfl)
theorem name_loop (a : ByteArray) (ha : a.size ≤ 1048576) : ∀ d j, j + d = a.size → ∃ b, Ev (fun k => spec_NameOk.l0 k a (j : Int)) b := by
  intro d
  induction d with
  | zero =>
    intro j hj
    refine ⟨true, 1, fun k hk => ?_⟩
    obtain ⟨m, rfl⟩ : ∃ m, k = m + 1 := ⟨k - 1, by omega⟩
    dsimp only
    rw [spec_NameOk.l0, if_neg (by omega)]
  | succ d ih =>
    intro j hj
    obtain ⟨b, K, e⟩ := ih (j + 1) (by omega)
    by_cases c1 : decide (97 ≤ wrap64 (bt a (j : Int)) ∧ wrap64 (bt a (j : Int)) ≤ 122) = true
    · refine ⟨b, K + 1, fun k hk => ?_⟩
      obtain ⟨m, rfl⟩ : ∃ m, k = m + 1 := ⟨k - 1, by omega⟩
      dsimp only
      rw [spec_NameOk.l0, if_pos (by omega), if_pos (by omega), l1in, Option.bind_some, if_pos c1, wnext j a.size (by omega) (by omega)]
      exact e m (by omega)
    · by_cases c2 : decide (48 ≤ wrap64 (bt a (j : Int)) ∧ wrap64 (bt a (j : Int)) ≤ 57) = true
      · refine ⟨b, K + 1, fun k hk => ?_⟩
        obtain ⟨m, rfl⟩ : ∃ m, k = m + 1 := ⟨k - 1, by omega⟩
        dsimp only
        rw [spec_NameOk.l0, if_pos (by omega), if_pos (by omega), l1in, Option.bind_some, if_neg c1, l1in, Option.bind_some, if_pos c2, wnext j a.size (by omega) (by omega)]
        exact e m (by omega)
      · refine ⟨false, 1, fun k hk => ?_⟩
        obtain ⟨m, rfl⟩ : ∃ m, k = m + 1 := ⟨k - 1, by omega⟩
        dsimp only
        rw [spec_NameOk.l0, if_pos (by omega), if_pos (by omega), l1in, Option.bind_some, if_neg c1, l1in, Option.bind_some, if_neg c2]
theorem name_j0 (a : ByteArray) (ha : a.size ≤ 1048576) (x : Bool) : ∃ b, Ev (fun k => spec_NameOk.j0 k a x) b := by
  obtain ⟨b, K, e⟩ := name_loop a ha a.size 0 (by omega)
  by_cases c : x = true
  · refine ⟨false, 1, fun k hk => ?_⟩
    obtain ⟨m, rfl⟩ : ∃ m, k = m + 1 := ⟨k - 1, by omega⟩
    dsimp only
    rw [spec_NameOk.j0, if_pos c]
  · refine ⟨b, K + 1, fun k hk => ?_⟩
    obtain ⟨m, rfl⟩ : ∃ m, k = m + 1 := ⟨k - 1, by omega⟩
    dsimp only
    rw [spec_NameOk.j0, if_neg c]
    exact e m (by omega)
theorem name_ok (a : ByteArray) (ha : a.size ≤ 1048576) : ∃ b, Ev (fun k => spec_NameOk.f k a) b := by
  by_cases c : decide (1 ≤ (a.size : Int) ∧ (a.size : Int) ≤ 12) = true
  · obtain ⟨b, e⟩ := name_j0 a ha (decide ((bt a 0) < 97))
    refine ⟨b, e.congr fun k => ?_⟩
    unfold spec_NameOk.f
    rw [l1in, Option.bind_some, if_pos c, if_pos (by have := of_decide_eq_true c; omega)]
  · obtain ⟨b, e⟩ := name_j0 a ha true
    refine ⟨b, e.congr fun k => ?_⟩
    unfold spec_NameOk.f
    rw [l1in, Option.bind_some, if_neg c]
theorem has_loop (l : List ByteArray) (a : ByteArray) (hl : l.length ≤ 1048576) : ∀ d j, j + d = l.length → ∃ b, Ev (fun k => spec_l9Has.l0 k l a (j : Int)) b := by
  intro d
  induction d with
  | zero =>
    intro j hj
    refine ⟨false, 1, fun k hk => ?_⟩
    obtain ⟨m, rfl⟩ : ∃ m, k = m + 1 := ⟨k - 1, by omega⟩
    dsimp only
    rw [spec_l9Has.l0, if_neg (by omega)]
  | succ d ih =>
    intro j hj
    obtain ⟨b, K, e⟩ := ih (j + 1) (by omega)
    by_cases c : (rdOf ByteArray.empty l (j : Int)).toList = a.toList
    · refine ⟨true, 1, fun k hk => ?_⟩
      obtain ⟨m, rfl⟩ : ∃ m, k = m + 1 := ⟨k - 1, by omega⟩
      dsimp only
      rw [spec_l9Has.l0, if_pos (by omega), if_pos (by omega), if_pos c]
    · refine ⟨b, K + 1, fun k hk => ?_⟩
      obtain ⟨m, rfl⟩ : ∃ m, k = m + 1 := ⟨k - 1, by omega⟩
      dsimp only
      rw [spec_l9Has.l0, if_pos (by omega), if_pos (by omega), if_neg c, wnext j l.length (by omega) (by omega)]
      exact e m (by omega)
theorem has_ok (l : List ByteArray) (a : ByteArray) (hl : l.length ≤ 1048576) : ∃ b, Ev (fun k => spec_l9Has.f k l a) b := by
  obtain ⟨b, e⟩ := has_loop l a hl l.length 0 (by omega)
  exact ⟨b, e.congr fun k => rfl⟩
def AllOk (ts : List S68) (n : Int) (i : Nat) : Prop := ∀ j, i ≤ j → j < ts.length → ∃ k, spec_TreeOk.f k (ts.getD j z68).f0 n = some true
theorem ok_trees (nm : List ByteArray) (s : List Int) (v n : Int) (ts : List S68) (h : ∀ x ∈ ts, tree64 x) (ht : ts.length ≤ 9) : ∀ d i, i + d = ts.length → ∃ b, Ev (fun k => spec_ModelOk.l2 k n (i : Int) nm s v ts) b ∧ (b = true → AllOk ts n i) := by
  intro d
  induction d with
  | zero =>
    intro i hi
    refine ⟨true, ⟨1, fun k hk => ?_⟩, fun _ j h1 h2 => absurd h2 (by omega)⟩
    obtain ⟨m, rfl⟩ : ∃ m, k = m + 1 := ⟨k - 1, by omega⟩
    dsimp only
    rw [spec_ModelOk.l2, if_neg (by omega)]
  | succ d ih =>
    intro i hi
    obtain ⟨b, ⟨K, e⟩, hb⟩ := ih (i + 1) (by omega)
    have hl := tree_len ts h i (by omega)
    obtain ⟨b1, ⟨K1, e1⟩, _⟩ := tree_ok (ts.getD i z68).f0 (by omega) n
    by_cases c : b1 = true
    · refine ⟨b, ⟨max K K1 + 1, fun k hk => ?_⟩, fun hb1 j h1 h2 => ?_⟩
      · obtain ⟨m, rfl⟩ : ∃ m, k = m + 1 := ⟨k - 1, by omega⟩
        have g := e1 m (by omega)
        dsimp only at g ⊢
        rw [spec_ModelOk.l2, if_pos (by omega), if_pos (by omega), rdt, g, Option.bind_some, if_pos c, wnext i ts.length (by omega) (by omega)]
        exact e m (by omega)
      · by_cases hj : j = i
        · rw [hj]; exact ⟨K1, by rw [← c]; exact e1 K1 (Nat.le_refl _)⟩
        · exact hb hb1 j (by omega) h2
    · refine ⟨false, ⟨K1 + 1, fun k hk => ?_⟩, fun hb1 => by cases hb1⟩
      obtain ⟨m, rfl⟩ : ∃ m, k = m + 1 := ⟨k - 1, by omega⟩
      have g := e1 m (by omega)
      dsimp only at g ⊢
      rw [spec_ModelOk.l2, if_pos (by omega), if_pos (by omega), rdt, g, Option.bind_some, if_neg c]
theorem ok_signs (nm : List ByteArray) (s : List Int) (hs : s.length ≤ 4) (v n : Int) (ts : List S68) (h : ∀ x ∈ ts, tree64 x) (ht : ts.length ≤ 9) : ∀ d i, i + d = s.length → ∃ b, Ev (fun k => spec_ModelOk.l1 k n (i : Int) nm s v ts) b ∧ (b = true → AllOk ts n 0) := by
  intro d
  induction d with
  | zero =>
    intro i hi
    obtain ⟨b, ⟨K, e⟩, hb⟩ := ok_trees nm s v n ts h ht ts.length 0 (by omega)
    refine ⟨b, ⟨K + 1, fun k hk => ?_⟩, hb⟩
    obtain ⟨m, rfl⟩ : ∃ m, k = m + 1 := ⟨k - 1, by omega⟩
    dsimp only
    rw [spec_ModelOk.l1, if_neg (by omega)]
    exact e m (by omega)
  | succ d ih =>
    intro i hi
    obtain ⟨b, ⟨K, e⟩, hb⟩ := ih (i + 1) (by omega)
    by_cases c : decide (-1 ≤ rd s (i : Int) ∧ rd s (i : Int) ≤ 1) = true
    · refine ⟨b, ⟨K + 1, fun k hk => ?_⟩, hb⟩
      obtain ⟨m, rfl⟩ : ∃ m, k = m + 1 := ⟨k - 1, by omega⟩
      dsimp only
      rw [spec_ModelOk.l1, if_pos (by omega), if_pos (by omega), l1in, Option.bind_some, if_pos c, wnext i s.length (by omega) (by omega)]
      exact e m (by omega)
    · refine ⟨false, ⟨1, fun k hk => ?_⟩, fun h => by cases h⟩
      obtain ⟨m, rfl⟩ : ∃ m, k = m + 1 := ⟨k - 1, by omega⟩
      dsimp only
      rw [spec_ModelOk.l1, if_pos (by omega), if_pos (by omega), l1in, Option.bind_some, if_neg c]
theorem ok_names (nm : List ByteArray) (hn : nm.length ≤ 5) (hz : ∀ x ∈ nm, x.size ≤ 13) (s : List Int) (hs : s.length ≤ 4) (v n : Int) (hnn : n = (nm.length : Int)) (ts : List S68) (h : ∀ x ∈ ts, tree64 x) (ht : ts.length ≤ 9) : ∀ d i, i + d = nm.length → ∃ b, Ev (fun k => spec_ModelOk.l0 k n (i : Int) nm s v ts) b ∧ (b = true → AllOk ts n 0) := by
  intro d
  induction d with
  | zero =>
    intro i hi
    obtain ⟨b, ⟨K, e⟩, hb⟩ := ok_signs nm s hs v n ts h ht s.length 0 (by omega)
    refine ⟨b, ⟨K + 1, fun k hk => ?_⟩, hb⟩
    obtain ⟨m, rfl⟩ : ∃ m, k = m + 1 := ⟨k - 1, by omega⟩
    dsimp only
    rw [spec_ModelOk.l0, if_neg (by omega)]
    exact e m (by omega)
  | succ d ih =>
    intro i hi
    obtain ⟨b, ⟨K, e⟩, hb⟩ := ih (i + 1) (by omega)
    have hsz : (rdOf ByteArray.empty nm (i : Int)).size ≤ 13 := by
      rw [rdOf_nat, List.getD_eq_getElem?_getD, List.getElem?_eq_getElem (by omega)]; exact hz _ (List.getElem_mem _)
    obtain ⟨b1, K1, e1⟩ := name_ok (rdOf ByteArray.empty nm (i : Int)) (by omega)
    obtain ⟨b2, K2, e2⟩ := has_ok (nm.take i) (rdOf ByteArray.empty nm (i : Int)) (by rw [List.length_take]; omega)
    by_cases c1 : b1 = true
    · by_cases c2 : b2 = true
      · refine ⟨false, ⟨max K1 K2 + 1, fun k hk => ?_⟩, fun h => by cases h⟩
        obtain ⟨m, rfl⟩ : ∃ m, k = m + 1 := ⟨k - 1, by omega⟩
        have g1 := e1 m (by omega)
        have g2 := e2 m (by omega)
        dsimp only at g1 g2 ⊢
        rw [spec_ModelOk.l0, if_pos (by omega), if_pos (by omega), if_pos (by omega), g1, Option.bind_some, if_pos c1, if_pos (by omega), Int.toNat_natCast, g2, Option.bind_some, if_pos c2]
      · refine ⟨b, ⟨max K (max K1 K2) + 1, fun k hk => ?_⟩, hb⟩
        obtain ⟨m, rfl⟩ : ∃ m, k = m + 1 := ⟨k - 1, by omega⟩
        have g1 := e1 m (by omega)
        have g2 := e2 m (by omega)
        dsimp only at g1 g2 ⊢
        rw [spec_ModelOk.l0, if_pos (by omega), if_pos (by omega), if_pos (by omega), g1, Option.bind_some, if_pos c1, if_pos (by omega), Int.toNat_natCast, g2, Option.bind_some, if_neg c2, wnext i nm.length (by omega) (by omega)]
        exact e m (by omega)
    · refine ⟨false, ⟨K1 + 1, fun k hk => ?_⟩, fun h => by cases h⟩
      obtain ⟨m, rfl⟩ : ∃ m, k = m + 1 := ⟨k - 1, by omega⟩
      have g1 := e1 m (by omega)
      dsimp only at g1 ⊢
      rw [spec_ModelOk.l0, if_pos (by omega), if_pos (by omega), if_pos (by omega), g1, Option.bind_some, if_neg c1]
theorem ok_j0 (nm : List ByteArray) (hn : nm.length ≤ 5) (hz : ∀ x ∈ nm, x.size ≤ 13) (s : List Int) (hs : s.length ≤ 4) (v : Int) (ts : List S68) (h : ∀ x ∈ ts, tree64 x) (ht : ts.length ≤ 9) (x : Bool) : ∃ b, Ev (fun k => spec_ModelOk.j0 k (nm.length : Int) x nm s v ts) b ∧ (b = true → AllOk ts (nm.length : Int) 0) := by
  obtain ⟨b, ⟨K, e⟩, hb⟩ := ok_names nm hn hz s hs v _ rfl ts h ht nm.length 0 (by omega)
  by_cases c : x = true
  · refine ⟨false, ⟨1, fun k hk => ?_⟩, fun h => by cases h⟩
    obtain ⟨m, rfl⟩ : ∃ m, k = m + 1 := ⟨k - 1, by omega⟩
    dsimp only
    rw [spec_ModelOk.j0, if_pos c]
  · refine ⟨b, ⟨K + 1, fun k hk => ?_⟩, hb⟩
    obtain ⟨m, rfl⟩ : ∃ m, k = m + 1 := ⟨k - 1, by omega⟩
    dsimp only
    rw [spec_ModelOk.j0, if_neg c]
    exact e m (by omega)
theorem l6val (v : Int) : ∃ b, spec_l6Value.f v = some b := by unfold spec_l6Value.f; rw [l1in]; exact ⟨_, rfl⟩
theorem model_ok (nm : List ByteArray) (hn : nm.length ≤ 5) (hz : ∀ x ∈ nm, x.size ≤ 13) (s : List Int) (hs : s.length ≤ 4) (v : Int) (ts : List S68) (h : ∀ x ∈ ts, tree64 x) (ht : ts.length ≤ 9) : ∃ b, Ev (fun k => spec_ModelOk.f k nm s v ts) b ∧ (b = true → AllOk ts (nm.length : Int) 0) := by
  obtain ⟨t, et⟩ := l6val v
  obtain ⟨b1, e1, g1⟩ := ok_j0 nm hn hz s hs v ts h ht true
  obtain ⟨b2, e2, g2⟩ := ok_j0 nm hn hz s hs v ts h ht (decide ((ts.length : Int) > 8))
  by_cases c1 : decide (1 ≤ (nm.length : Int) ∧ (nm.length : Int) ≤ 4) = true
  · by_cases c2 : (s.length : Int) = 0
    · by_cases c3 : t = true
      · exact ⟨b2, e2.congr fun k => by unfold spec_ModelOk.f; rw [l1in, Option.bind_some, if_pos c1, if_pos c2, et, Option.bind_some, if_pos c3], g2⟩
      · exact ⟨b1, e1.congr fun k => by unfold spec_ModelOk.f; rw [l1in, Option.bind_some, if_pos c1, if_pos c2, et, Option.bind_some, if_neg c3], g1⟩
    · by_cases c4 : (s.length : Int) = (nm.length : Int)
      · by_cases c3 : t = true
        · exact ⟨b2, e2.congr fun k => by unfold spec_ModelOk.f; rw [l1in, Option.bind_some, if_pos c1, if_neg c2, if_pos c4, et, Option.bind_some, if_pos c3], g2⟩
        · exact ⟨b1, e1.congr fun k => by unfold spec_ModelOk.f; rw [l1in, Option.bind_some, if_pos c1, if_neg c2, if_pos c4, et, Option.bind_some, if_neg c3], g1⟩
      · exact ⟨b1, e1.congr fun k => by unfold spec_ModelOk.f; rw [l1in, Option.bind_some, if_pos c1, if_neg c2, if_neg c4], g1⟩
  · exact ⟨b1, e1.congr fun k => by unfold spec_ModelOk.f; rw [l1in, Option.bind_some, if_neg c1], g1⟩
def relR (u : Int → Nat) (a b : Int) : Prop := u b < u a ∨ (u a = u b ∧ a < b)
theorem pos_facts (u : Int → Nat) (out : List Int) (f : Int) : ∀ p, (∀ j, posR u out f p ≤ j → j < p → u (out.getD j 0) < u f) ∧ (∀ q, posR u out f p = q + 1 → ¬ u (out.getD q 0) < u f)
  | 0 => ⟨fun j _ h => absurd h (by omega), fun q h => by rw [posR] at h; omega⟩
  | p + 1 => by
    obtain ⟨h1, h2⟩ := pos_facts u out f p
    by_cases c : u (out.getD p 0) < u f
    · rw [posR, if_pos c]
      refine ⟨fun j hj hlt => ?_, h2⟩
      by_cases e : j = p
      · rw [e]; exact c
      · exact h1 j hj (by omega)
    · rw [posR, if_neg c]
      refine ⟨fun j hj hlt => absurd hlt (by omega), fun q hq => ?_⟩
      obtain rfl : p = q := by omega
      exact c
theorem mem_getD {l : List Int} {x : Int} (h : x ∈ l) : ∃ j, j < l.length ∧ x = l.getD j 0 := by
  obtain ⟨j, hj, e⟩ := List.mem_iff_getElem.1 h
  exact ⟨j, hj, by rw [List.getD_eq_getElem?_getD, List.getElem?_eq_getElem hj]; exact e.symm⟩
theorem ranked_sorted (u : Int → Nat) : ∀ m, (ranked u m).Pairwise (relR u) ∧ ∀ x ∈ ranked u m, 0 ≤ x ∧ x < (m : Int)
  | 0 => ⟨List.Pairwise.nil, fun x hx => by cases hx⟩
  | m + 1 => by
    obtain ⟨hp, hb⟩ := ranked_sorted u m
    obtain ⟨f1, f2⟩ := pos_facts u (ranked u m) (m : Int) m
    have hl := ranked_len u m
    have hq := posR_le u (ranked u m) (m : Int) m
    rw [ranked]
    generalize hqe : posR u (ranked u m) (m : Int) m = q at f1 f2 hq
    unfold insAt
    have hlow : ∀ x ∈ (ranked u m).take q, relR u x (m : Int) := fun x hx => by
      have hxm := (hb x (List.mem_of_mem_take hx)).2
      have hge : u (m : Int) ≤ u x := by
        cases q with
        | zero => rw [List.take_zero] at hx; cases hx
        | succ q =>
          have c := f2 q rfl
          have hpt : ((ranked u m).take (q + 1)).Pairwise (relR u) := hp.sublist (List.take_sublist _ _)
          rw [take_one _ q (by omega)] at hx hpt
          rcases List.mem_append.1 hx with h1 | h1
          · have := (List.pairwise_append.1 hpt).2.2 x h1 _ (List.mem_singleton.2 rfl)
            rcases this with h2 | ⟨h2, _⟩ <;> omega
          · obtain rfl := List.mem_singleton.1 h1; omega
      unfold relR
      omega
    have hhigh : ∀ y ∈ (ranked u m).drop q, u y < u (m : Int) := fun y hy => by
      obtain ⟨j, hj, rfl⟩ := mem_getD hy
      rw [List.length_drop] at hj
      have := f1 (q + j) (by omega) (by omega)
      rw [List.getD_eq_getElem?_getD, List.getElem?_drop, ← List.getD_eq_getElem?_getD]
      exact this
    refine ⟨List.pairwise_append.2 ⟨hp.sublist (List.take_sublist _ _), List.pairwise_cons.2 ⟨fun y hy => .inl (hhigh y hy), hp.sublist (List.drop_sublist _ _)⟩, fun x hx y hy => ?_⟩, fun x hx => ?_⟩
    · rcases List.mem_cons.1 hy with rfl | hy
      · exact hlow x hx
      · have h1 := hlow x hx
        have h2 := hhigh y hy
        unfold relR at h1 ⊢
        omega
    · rcases List.mem_append.1 hx with h1 | h1
      · have := hb x (List.mem_of_mem_take h1); omega
      · rcases List.mem_cons.1 h1 with rfl | h1
        · omega
        · have := hb x (List.mem_of_mem_drop h1); omega
theorem ranked_step (u : Int → Nat) (n j : Nat) (h : j + 1 < n) : relR u ((ranked u n).getD j 0) ((ranked u n).getD (j + 1) 0) := by
  have hl := ranked_len u n
  have := List.pairwise_iff_getElem.1 (ranked_sorted u n).1 j (j + 1) (by omega) (by omega) (by omega)
  rw [List.getD_eq_getElem?_getD, List.getD_eq_getElem?_getD, List.getElem?_eq_getElem (by omega), List.getElem?_eq_getElem (by omega)]
  exact this
def sumU (u : Int → Nat) (l : List Int) : Nat := (l.map u).sum
def sumTo (u : Int → Nat) : Nat → Nat
  | 0 => 0
  | m + 1 => sumTo u m + u (m : Int)
theorem sumU_append (u : Int → Nat) (a b : List Int) : sumU u (a ++ b) = sumU u a + sumU u b := by unfold sumU; rw [List.map_append, List.sum_append]
theorem sumU_cons (u : Int → Nat) (x : Int) (b : List Int) : sumU u (x :: b) = u x + sumU u b := by unfold sumU; rw [List.map_cons, List.sum_cons]
theorem ranked_sum (u : Int → Nat) : ∀ m, sumU u (ranked u m) = sumTo u m
  | 0 => rfl
  | m + 1 => by
    have h := ranked_sum u m
    rw [ranked, sumTo, ← h]
    generalize posR u (ranked u m) (m : Int) m = q
    unfold insAt
    have e : sumU u (ranked u m) = sumU u ((ranked u m).take q) + sumU u ((ranked u m).drop q) := by rw [← sumU_append, List.take_append_drop]
    rw [sumU_append, sumU_cons, e]
    omega
theorem sumU_le (u : Int → Nat) (c : Nat) (h : ∀ x, u x ≤ c) (l : List Int) : sumU u l ≤ c * l.length := by
  induction l with
  | nil => simp [sumU]
  | cons x l ih =>
    have := h x
    rw [sumU_cons, List.length_cons, Nat.mul_succ]
    omega
theorem same_loop (l : List Int) (hl : l.length ≤ 1048576) : ∀ d j, j + d = l.length → Ev (fun k => laws_sameInts.l0 k l l (j : Int)) true := by
  intro d
  induction d with
  | zero =>
    intro j hj
    refine ⟨1, fun k hk => ?_⟩
    obtain ⟨m, rfl⟩ : ∃ m, k = m + 1 := ⟨k - 1, by omega⟩
    dsimp only
    rw [laws_sameInts.l0, if_neg (by omega)]
  | succ d ih =>
    intro j hj
    obtain ⟨K, e⟩ := ih (j + 1) (by omega)
    refine ⟨K + 1, fun k hk => ?_⟩
    obtain ⟨m, rfl⟩ : ∃ m, k = m + 1 := ⟨k - 1, by omega⟩
    dsimp only
    rw [laws_sameInts.l0, if_pos (by omega), if_pos (by omega), if_pos (by omega), if_pos rfl, wnext j l.length (by omega) (by omega)]
    exact e m (by omega)
theorem same_self (l : List Int) (hl : l.length ≤ 1048576) : Ev (fun k => laws_sameInts.f k l l) true :=
  (same_loop l hl l.length 0 (by omega)).congr fun k => by unfold laws_sameInts.f; rw [if_pos rfl]; rfl
def nodesN (ts : List S68) : Nat := (ts.map (fun x => x.f0.length)).sum
theorem nodesN_cons (x : S68) (l : List S68) : nodesN (x :: l) = x.f0.length + nodesN l := by unfold nodesN; rw [List.map_cons, List.sum_cons]
theorem impl_nodes (ts : List S68) (h : ∀ x ∈ ts, tree64 x) (ht : ts.length ≤ 9) : ∀ d i (acc : Nat), i + d = ts.length → acc + 32 * d ≤ 1048576 → Ev (fun k => impl_NodesIn.l0 k (acc : Int) ts (ts.length : Int) (i : Int)) ((acc + nodesN (ts.drop i) : Nat) : Int) := by
  intro d
  induction d with
  | zero =>
    intro i acc hi ha
    refine ⟨1, fun k hk => ?_⟩
    obtain ⟨m, rfl⟩ : ∃ m, k = m + 1 := ⟨k - 1, by omega⟩
    dsimp only
    rw [impl_NodesIn.l0, if_neg (by omega), List.drop_eq_nil_of_le (by omega)]
    rfl
  | succ d ih =>
    intro i acc hi ha
    have hl := tree_len ts h i (by omega)
    obtain ⟨K, e⟩ := ih (i + 1) (acc + (ts.getD i z68).f0.length) (by omega) (by omega)
    refine ⟨K + 1, fun k hk => ?_⟩
    obtain ⟨m, rfl⟩ : ∃ m, k = m + 1 := ⟨k - 1, by omega⟩
    have g := e m (by omega)
    dsimp only at g ⊢
    rw [impl_NodesIn.l0, if_pos (by omega), if_pos (by omega), if_pos (by omega), rdt, wnext i ts.length (by omega) (by omega), show wrap64 ((acc : Int) + ((ts.getD i z68).f0.length : Int)) = ((acc + (ts.getD i z68).f0.length : Nat) : Int) by unfold wrap64; omega, g, drop_cons ts i z68 (by omega), nodesN_cons, Nat.add_assoc]
theorem spec_nodes (nm : List ByteArray) (s : List Int) (b : Int) (ts : List S68) (h : ∀ x ∈ ts, tree64 x) (ht : ts.length ≤ 9) : ∀ d i (acc : Nat), i + d = ts.length → acc + 32 * d ≤ 1048576 → Ev (fun k => spec_NodesIn.l0 k (acc : Int) (i : Int) nm s b ts) ((acc + nodesN (ts.drop i) : Nat) : Int) := by
  intro d
  induction d with
  | zero =>
    intro i acc hi ha
    refine ⟨1, fun k hk => ?_⟩
    obtain ⟨m, rfl⟩ : ∃ m, k = m + 1 := ⟨k - 1, by omega⟩
    dsimp only
    rw [spec_NodesIn.l0, if_neg (by omega), List.drop_eq_nil_of_le (by omega)]
    rfl
  | succ d ih =>
    intro i acc hi ha
    have hl := tree_len ts h i (by omega)
    obtain ⟨K, e⟩ := ih (i + 1) (acc + (ts.getD i z68).f0.length) (by omega) (by omega)
    refine ⟨K + 1, fun k hk => ?_⟩
    obtain ⟨m, rfl⟩ : ∃ m, k = m + 1 := ⟨k - 1, by omega⟩
    have g := e m (by omega)
    dsimp only at g ⊢
    rw [spec_NodesIn.l0, if_pos (by omega), if_pos (by omega), rdt, wnext i ts.length (by omega) (by omega), show wrap64 ((acc : Int) + ((ts.getD i z68).f0.length : Int)) = ((acc + (ts.getD i z68).f0.length : Nat) : Int) by unfold wrap64; omega, g, drop_cons ts i z68 (by omega), nodesN_cons, Nat.add_assoc]
def inN (t : List S93) : Nat := (t.filter innerB).length
theorem inN_cons (y : S93) (l : List S93) : inN (y :: l) = (if innerB y then 1 else 0) + inN l := by
  unfold inN; rw [List.filter_cons]; split <;> simp [Nat.add_comm]
theorem j1_ne (k : Nat) (x1 x5 x6 : Int) (t : List S93) : spec_l17Shape.j1 k x1 x5 x6 true t ≠ some true := by
  cases k with
  | zero => rw [spec_l17Shape.j1]; exact fun h => by cases h
  | succ k => rw [shape_bad]; exact fun h => by cases h
theorem shape_cnt (t : List S93) (ht : t.length ≤ 1048576) (x1 : Int) : ∀ K k, k ≤ K → ∀ j (next : Nat), j ≤ t.length → next ≤ 2 * j + 1 → spec_l17Shape.l0 k x1 (next : Int) (j : Int) t = some true →
    next + 2 * inN (t.drop j) = t.length ∧ ∀ y ∈ t.drop j, innerB y = true → 0 ≤ y.f0 ∧ y.f0 ≤ wrap64 (x1 - 1) := by
  intro K
  induction K with
  | zero =>
    intro k hk j next hj hn h
    obtain rfl : k = 0 := by omega
    rw [spec_l17Shape.l0] at h; cases h
  | succ K ih =>
    intro k hk j next hj hn h
    cases k with
    | zero => rw [spec_l17Shape.l0] at h; cases h
    | succ k =>
      by_cases cj : j < t.length
      · rw [spec_l17Shape.l0, if_pos (by omega), if_pos (by omega), rdn, inner_f, Option.bind_some] at h
        have hd := drop_cons t j z93 cj
        by_cases c : innerB (t.getD j z93) = true
        · rw [if_pos c, l1in, Option.bind_some] at h
          by_cases c2 : decide (0 ≤ (t.getD j z93).f0 ∧ (t.getD j z93).f0 ≤ wrap64 (x1 - 1)) = true
          · rw [if_pos c2] at h
            obtain ⟨v, hv⟩ := l6val (t.getD j z93).f1
            rw [hv, Option.bind_some] at h
            by_cases c3 : v = true
            · rw [if_pos c3] at h
              by_cases c4 : (t.getD j z93).f4 = 0
              · rw [if_pos c4] at h
                by_cases c5 : (t.getD j z93).f2 = (next : Int)
                · rw [if_pos c5] at h
                  by_cases c6 : (t.getD j z93).f3 = wrap64 ((next : Int) + 1)
                  · rw [if_pos c6] at h
                    cases k with
                    | zero => rw [spec_l17Shape.j1] at h; cases h
                    | succ k =>
                      rw [spec_l17Shape.j1] at h
                      by_cases c7 : decide ((t.getD j z93).f2 ≤ (j : Int)) = true
                      · rw [if_pos c7] at h; cases h
                      · rw [if_neg c7, wnext j t.length cj (by omega), show wrap64 ((next : Int) + 2) = ((next + 2 : Nat) : Int) by unfold wrap64; omega] at h
                        obtain ⟨g1, g2⟩ := ih k (by omega) (j + 1) (next + 2) (by omega) (by omega) h
                        rw [hd, inN_cons, if_pos c]
                        refine ⟨by omega, fun y hy hin => ?_⟩
                        rcases List.mem_cons.1 hy with rfl | hy
                        · exact of_decide_eq_true c2
                        · exact g2 y hy hin
                  · rw [if_neg c6] at h; exact absurd h (j1_ne _ _ _ _ _)
                · rw [if_neg c5] at h; exact absurd h (j1_ne _ _ _ _ _)
              · rw [if_neg c4] at h; exact absurd h (j1_ne _ _ _ _ _)
            · rw [if_neg c3] at h; exact absurd h (j1_ne _ _ _ _ _)
          · rw [if_neg c2] at h; exact absurd h (j1_ne _ _ _ _ _)
        · rw [if_neg c] at h
          split at h
          · cases h
          · obtain ⟨v, _, h⟩ := Option.bind_eq_some_iff.1 h
            by_cases c3 : v = true
            · rw [if_pos c3, wnext j t.length cj (by omega)] at h
              obtain ⟨g1, g2⟩ := ih k (by omega) (j + 1) next (by omega) (by omega) h
              rw [hd, inN_cons, if_neg c]
              refine ⟨by omega, fun y hy hin => ?_⟩
              rcases List.mem_cons.1 hy with rfl | hy
              · exact absurd hin c
              · exact g2 y hy hin
            · rw [if_neg c3] at h; cases h
      · rw [spec_l17Shape.l0, if_neg (by omega)] at h
        have h := Option.some.inj h
        have h := eq_of_beq h
        rw [List.drop_eq_nil_of_le (by omega)]
        exact ⟨by show next + 2 * 0 = _; omega, fun y hy => by cases hy⟩
theorem treeok_shape (k : Nat) (t : List S93) (a : Int) (h : spec_TreeOk.f k t a = some true) : spec_l17Shape.f k t a = some true := by
  unfold spec_TreeOk.f at h
  rw [l1in, Option.bind_some] at h
  split at h
  · rw [l1in, Option.bind_some] at h
    split at h
    · obtain ⟨v, hv, h⟩ := Option.bind_eq_some_iff.1 h
      by_cases c : v = true
      · rw [hv, c]
      · rw [if_neg c] at h; cases h
    · cases h
  · cases h
theorem sum_isF (y : S93) : ∀ n : Nat, sumTo (fun f => if isF f y then 1 else 0) n = if innerB y = true ∧ 0 ≤ y.f0 ∧ y.f0 < (n : Int) then 1 else 0
  | 0 => by rw [sumTo, if_neg (by omega)]
  | n + 1 => by
    rw [sumTo, sum_isF y n]
    by_cases c : innerB y = true
    · by_cases e : y.f0 = (n : Int)
      · have a1 : ¬ (innerB y = true ∧ 0 ≤ y.f0 ∧ y.f0 < (n : Int)) := fun h => by omega
        have a2 : innerB y = true ∧ 0 ≤ y.f0 ∧ y.f0 < ((n + 1 : Nat) : Int) := ⟨c, by omega, by omega⟩
        rw [if_neg a1, if_pos (isF_yes c e), if_pos a2]
      · by_cases c2 : innerB y = true ∧ 0 ≤ y.f0 ∧ y.f0 < (n : Int)
        · have a2 : innerB y = true ∧ 0 ≤ y.f0 ∧ y.f0 < ((n + 1 : Nat) : Int) := ⟨c, by omega, by omega⟩
          rw [if_pos c2, isF_no2 e, if_neg Bool.false_ne_true, if_pos a2]
        · have a2 : ¬ (innerB y = true ∧ 0 ≤ y.f0 ∧ y.f0 < ((n + 1 : Nat) : Int)) := fun h => c2 ⟨c, by omega, by omega⟩
          rw [if_neg c2, isF_no2 e, if_neg Bool.false_ne_true, if_neg a2]
    · have a1 : ¬ (innerB y = true ∧ 0 ≤ y.f0 ∧ y.f0 < (n : Int)) := fun h => c h.1
      have a2 : ¬ (innerB y = true ∧ 0 ≤ y.f0 ∧ y.f0 < ((n + 1 : Nat) : Int)) := fun h => c h.1
      rw [if_neg a1, isF_no1 c, if_neg Bool.false_ne_true, if_neg a2]
theorem sumTo_add (u v : Int → Nat) : ∀ n, sumTo (fun f => u f + v f) n = sumTo u n + sumTo v n
  | 0 => rfl
  | n + 1 => by
    have := sumTo_add u v n
    rw [sumTo, sumTo, sumTo, this]
    omega
theorem sumTo_zero : ∀ n, sumTo (fun _ => 0) n = 0
  | 0 => rfl
  | n + 1 => by rw [sumTo, sumTo_zero n]
theorem sumTo_congr (u v : Int → Nat) (h : ∀ f, u f = v f) (n : Nat) : sumTo u n = sumTo v n := by rw [show u = v from funext h]
theorem sum_nodes (n : Nat) (t : List S93) (h : ∀ y ∈ t, innerB y = true → 0 ≤ y.f0 ∧ y.f0 < (n : Int)) : sumTo (fun f => cntN f t) n = inN t := by
  induction t with
  | nil => exact (sumTo_congr _ (fun _ => 0) (fun f => rfl) n).trans (sumTo_zero n)
  | cons y l ih =>
    rw [sumTo_congr _ (fun f => (if isF f y then 1 else 0) + cntN f l) (fun f => cntN_cons f y l) n, sumTo_add, sum_isF, ih (fun z hz => h z (List.mem_cons_of_mem _ hz)), inN_cons]
    by_cases c : innerB y = true
    · have := h y List.mem_cons_self c
      rw [if_pos ⟨c, this⟩, if_pos c]
    · rw [if_neg (fun h => c h.1), if_neg c]
theorem sum_trees (n : Nat) (ts : List S68) (h : ∀ x ∈ ts, 2 * inN x.f0 + 1 = x.f0.length ∧ ∀ y ∈ x.f0, innerB y = true → 0 ≤ y.f0 ∧ y.f0 < (n : Int)) : 2 * sumTo (cntT ts) n + ts.length = nodesN ts := by
  induction ts with
  | nil => rw [sumTo_congr (cntT []) (fun _ => 0) (fun f => rfl) n, sumTo_zero]; rfl
  | cons x l ih =>
    have h1 := ih (fun z hz => h z (List.mem_cons_of_mem _ hz))
    obtain ⟨h2, h3⟩ := h x List.mem_cons_self
    rw [sumTo_congr (cntT (x :: l)) (fun f => cntN f x.f0 + cntT l f) (fun f => cntT_cons f x l) n, sumTo_add, sum_nodes n x.f0 h3, nodesN_cons, List.length_cons]
    omega
theorem all_ok (n : Nat) (hn : n ≤ 5) (ts : List S68) (h64 : ∀ x ∈ ts, tree64 x) (h : AllOk ts (n : Int) 0) : ∀ x ∈ ts, 2 * inN x.f0 + 1 = x.f0.length ∧ ∀ y ∈ x.f0, innerB y = true → 0 ≤ y.f0 ∧ y.f0 < (n : Int) := fun x hx => by
  obtain ⟨j, hj, e⟩ := List.mem_iff_getElem.1 hx
  obtain ⟨k, hk⟩ := h j (by omega) hj
  rw [show ts.getD j z68 = x by rw [List.getD_eq_getElem?_getD, List.getElem?_eq_getElem hj]; exact e] at hk
  have h1 := treeok_shape k x.f0 (n : Int) hk
  have hx2 := (h64 x hx).1
  obtain ⟨g1, g2⟩ := shape_cnt x.f0 (by omega) (n : Int) k k (Nat.le_refl _) 0 1 (by omega) (by omega) h1
  rw [List.drop_zero] at g1 g2
  refine ⟨by omega, fun y hy hin => ?_⟩
  have := g2 y hy hin
  have hw : wrap64 ((n : Int) - 1) = (n : Int) - 1 := by unfold wrap64; omega
  omega
theorem law_loop (nm : List ByteArray) (s : List Int) (b : Int) (ts : List S68) (hD : Drawn nm s b ts) : ∀ d j, j + d = nm.length →
    Ev (fun k => laws_FnUses.l0 k (ranked (cntT ts) nm.length) ((sumU (cntT ts) ((ranked (cntT ts) nm.length).take j) : Nat) : Int) (j : Int) nm s b ts) true := by
  obtain ⟨hn1, hn2, hz, hs, _, _, ht, h64⟩ := hD
  have hl := ranked_len (cntT ts) nm.length
  have hc : ∀ f, cntT ts f ≤ 288 := fun f => by have := cntT_le ts h64 f; omega
  intro d
  induction d with
  | zero =>
    intro j hj
    obtain rfl : j = nm.length := by omega
    obtain ⟨t, ⟨K1, e1⟩, hok⟩ := model_ok nm hn2 hz s hs b ts h64 ht
    obtain ⟨K2, e2⟩ := impl_nodes ts h64 ht ts.length 0 0 (by omega) (by omega)
    refine ⟨max K1 K2 + 1, fun k hk => ?_⟩
    obtain ⟨m, rfl⟩ : ∃ m, k = m + 1 := ⟨k - 1, by omega⟩
    have g1 := e1 m (by omega)
    have g2 := e2 m (by omega)
    dsimp only at g1 g2 ⊢
    rw [laws_FnUses.l0, if_neg (by omega), g1, Option.bind_some]
    by_cases c : t = true
    · have hsum := sum_trees nm.length ts (all_ok nm.length hn2 ts h64 (hok c))
      have hle := sumU_le (cntT ts) 288 hc (ranked (cntT ts) nm.length)
      rw [if_pos c, show impl_NodesIn.f m nm s b ts = some ((0 + nodesN (ts.drop 0) : Nat) : Int) from g2, Option.bind_some, List.drop_zero, List.take_of_length_le (by omega)]
      rw [← ranked_sum] at hsum
      have hw1 : wrap64 (2 * ((sumU (cntT ts) (ranked (cntT ts) nm.length) : Nat) : Int)) = 2 * ((sumU (cntT ts) (ranked (cntT ts) nm.length) : Nat) : Int) := by unfold wrap64; omega
      have hw2 : wrap64 (((0 + nodesN ts : Nat) : Int) - (ts.length : Int)) = ((0 + nodesN ts : Nat) : Int) - (ts.length : Int) := by unfold wrap64; omega
      rw [hw1, hw2]
      congr 1
      rw [beq_iff_eq]
      omega
    · rw [if_neg c]
  | succ d ih =>
    intro j hj
    obtain ⟨K, e⟩ := ih (j + 1) (by omega)
    have htk : (ranked (cntT ts) nm.length).take (j + 1) = (ranked (cntT ts) nm.length).take j ++ [(ranked (cntT ts) nm.length).getD j 0] := take_one _ j (by omega)
    have hsu : sumU (cntT ts) ((ranked (cntT ts) nm.length).take (j + 1)) = sumU (cntT ts) ((ranked (cntT ts) nm.length).take j) + cntT ts ((ranked (cntT ts) nm.length).getD j 0) := by
      rw [htk, sumU_append, sumU_cons]; rfl
    have hle := sumU_le (cntT ts) 288 hc ((ranked (cntT ts) nm.length).take (j + 1))
    have hle2 : ((ranked (cntT ts) nm.length).take (j + 1)).length ≤ 5 := by rw [List.length_take]; omega
    have hw : wrap64 (((sumU (cntT ts) ((ranked (cntT ts) nm.length).take j) : Nat) : Int) + ((cntT ts ((ranked (cntT ts) nm.length).getD j 0) : Nat) : Int)) = ((sumU (cntT ts) ((ranked (cntT ts) nm.length).take (j + 1)) : Nat) : Int) := by
      rw [hsu] at hle ⊢; unfold wrap64; omega
    refine ⟨max K 400 + 1, fun k hk => ?_⟩
    obtain ⟨m, rfl⟩ : ∃ m, k = m + 1 := ⟨k - 1, by omega⟩
    have g := e m (by omega)
    have gu : ∀ f, impl_UsesOf.f m nm s b ts f = some ((cntT ts f : Nat) : Int) := fun f => impl_uses nm s b ts h64 ht f m (by omega)
    dsimp only at g ⊢
    rw [laws_FnUses.l0, if_pos (by omega), if_pos (by omega), rd_nat, gu, Option.bind_some, hw, wnext j nm.length (by omega) (by omega)]
    cases j with
    | zero => rw [if_neg (by omega)]; exact g
    | succ i =>
      have hr := ranked_step (cntT ts) nm.length i (by omega)
      have hwi : wrap64 (((i + 1 : Nat) : Int) - 1) = (i : Int) := by unfold wrap64; omega
      rw [if_pos (by omega), hwi, if_pos (by omega), if_pos (by omega), rd_nat, gu, Option.bind_some, Option.bind_some]
      unfold relR at hr
      rw [if_neg (by omega), Option.bind_some, Option.bind_some]
      by_cases c : ((cntT ts ((ranked (cntT ts) nm.length).getD i 0) : Nat) : Int) = ((cntT ts ((ranked (cntT ts) nm.length).getD (i + 1) 0) : Nat) : Int)
      · rw [if_pos c, if_neg (by omega)]; exact g
      · rw [if_neg c]; exact g
theorem FnUses : Go.Proofs.Yteoikmbdpofhmaa.fnUses.Pure := by
  intro l hG
  by_cases hbig : (l.length : Int) > 1048576
  · refine ⟨0, ?_⟩
    unfold laws_FnUses.f laws_big.f
    rw [Option.bind_some, if_pos (decide_eq_true hbig)]
  · have hl : l.length ≤ 1099511627776 := by omega
    obtain ⟨h0, e0, a0⟩ := draw_new 4001 l (by omega) hl
    have e0' : ∀ k, 4001 ≤ k → spec_l1New.f k l = some (l, 0, h0) := fun k hk => at_rounds (g := fun k => spec_l1New.f k l) (fun k => spec_l1New.mono l k) hk e0
    obtain ⟨nm, s, b, ts, i1, h1, ⟨K1, e1⟩, _, hD⟩ := draw_model l 0 h0 a0
    have hD' := hD
    obtain ⟨hn1, hn2, hz, hs, _, _, ht, h64⟩ := hD
    obtain ⟨K2, e2⟩ := impl_ranked nm s b ts h64 ht hn1 (by omega)
    obtain ⟨K3, e3⟩ := spec_ranked nm s b ts h64 ht (by omega)
    obtain ⟨K4, e4⟩ := same_self (ranked (cntT ts) nm.length) (by rw [ranked_len]; omega)
    obtain ⟨K5, e5⟩ := impl_nodes ts h64 ht ts.length 0 0 (by omega) (by omega)
    obtain ⟨K6, e6⟩ := spec_nodes nm s b ts h64 ht ts.length 0 0 (by omega) (by omega)
    obtain ⟨K7, e7⟩ := law_loop nm s b ts hD' nm.length 0 (by omega)
    refine ⟨max (max (max 4001 K1) (max K2 K3)) (max (max K4 K5) (max K6 K7)) + 1, ?_⟩
    generalize hk : max (max (max 4001 K1) (max K2 K3)) (max (max K4 K5) (max K6 K7)) = k
    have g0 := e0' (k + 1) (by omega)
    have g1 := e1 (k + 1) (by omega)
    have g2 := e2 (k + 1) (by omega)
    have g3 := e3 (k + 1) (by omega)
    have g4 := e4 (k + 1) (by omega)
    have g5 := e5 (k + 1) (by omega)
    have g6 := e6 (k + 1) (by omega)
    have g7 := e7 (k + 1) (by omega)
    dsimp only at g1 g2 g3 g4 g5 g6 g7
    have dn : spec_DrawRanked.f (k + 1) l = some (nm, s, b, ts) := by
      unfold spec_DrawRanked.f
      rw [g0, Option.bind_some, g1, Option.bind_some]
    have i5 : impl_NodesIn.f (k + 1) nm s b ts = some ((0 + nodesN (ts.drop 0) : Nat) : Int) := g5
    have i6 : spec_NodesIn.f (k + 1) nm s b ts = some ((0 + nodesN (ts.drop 0) : Nat) : Int) := g6
    unfold laws_FnUses.f laws_big.f
    rw [Option.bind_some, if_neg (by simpa using hbig), dn, Option.bind_some]
    dsimp only
    rw [g2, Option.bind_some, g3, Option.bind_some, g4, Option.bind_some, if_pos rfl, i5, Option.bind_some, i6, Option.bind_some, if_pos rfl]
    exact g7
end Go.Proofs.Yteoikmbdpofhmaa.Pure
