import Derived.Test.YteoikmbdpofhmaaVFnUsesWWords
import Derived.ChangeArms
import Derived.WideShapes
namespace Go.Proofs.Yteoikmbdpofhmaa.Opens
open Go.RowKit Go.Proofs.YteoikmbdpofhmaaW.PrintWords
variable {α β : Type}
theorem addr_add_add (a : Addr) (m i : Nat) : (a.add m).add i = a.add (m + i) := by
  unfold Addr.add
  split
  · subst_vars; simp
  · split
    · subst_vars; simp_all
    · simp_all
      omega
def Opens (P : Program) (t : Nat) (d : Kd α) (G : α → Prop) : Prop :=
  ∀ {H : Type} {enc : TypeId × Value → H} {w : World} {base : Nat} {spare : Nat → Bool} {held : Bool} {fuel : Nat} {cs : List Value} {x : DataW H × List MemPlace},
    DataW.trod enc P w base spare held fuel t cs = some x → ∃ a, d.K w a cs ∧ G a
def GInt (k : IntKind) (n : Int) : Prop := (Lit.int k n).wf = true
def GList (G : α → Prop) (l : List α) : Prop := l.length ≤ maxLen ∧ ∀ x, x ∈ l → G x
theorem opens_int {P : Program} {t : Nat} {k : IntKind} (ht : P.underlying t = some (.int k)) : Opens P t (Kd.int k) (GInt k) := by
  intro H enc w base spare held fuel cs x h
  obtain ⟨n, rfl, _, hw⟩ := DataW.trod_int ht h
  exact ⟨n, rfl, hw⟩
theorem opens_slice {P : Program} {t e : Nat} {d : Kd α} {G : α → Prop} (ht : P.underlying t = some (.slice e)) (hd : Opens P e d G) (hs : P.cellsOf e = d.sz) : Opens P t (Kd.slice e d) (GList G) := by
  intro H enc w base spare held fuel cs x h
  rcases DataW.trod_slice ht h with ⟨rfl, _⟩ | ⟨a, len, cap, elems, rest, n, _, rfl, _, _, hl, hm, hlen, hel, _, _⟩
  · exact ⟨[], ⟨none, 0, rfl, Nat.le_refl _, rfl, by simp, fun h0 => absurd h0 (by simp)⟩, by simp [maxLen], by simp⟩
  · have each : ∀ i, i < len → ∃ (y : α) (c : List Value), w.cells? base (a.add (i * P.cellsOf e)) (P.cellsOf e) = some c ∧ d.K w y c ∧ G y := by
      intro i hi
      have h1 := hel i hi
      rw [List.getElem?_eq_getElem (show i < elems.length by omega), Option.bind_eq_some_iff] at h1
      obtain ⟨c, hc, ht'⟩ := h1
      obtain ⟨y, hy, hg⟩ := hd ht'
      exact ⟨y, c, hc, hy, hg⟩
    have list : ∀ m, m ≤ len → ∃ l : List α, l.length = m ∧ ∀ j p, l[j]? = some p → ∃ c, w.cells? base (a.add (j * P.cellsOf e)) (P.cellsOf e) = some c ∧ d.K w p c ∧ G p := by
      intro m
      induction m with
      | zero => exact fun _ => ⟨[], rfl, fun j p hj => by simp at hj⟩
      | succ m ih =>
        intro hm'
        obtain ⟨l, hl', hp⟩ := ih (by omega)
        obtain ⟨y, c, hc, hy, hg⟩ := each m (by omega)
        refine ⟨l ++ [y], by simp [hl'], fun j p hj => ?_⟩
        rcases Nat.lt_or_ge j l.length with h1 | h1
        · rw [List.getElem?_append_left h1] at hj
          exact hp j p hj
        · have hj' : j = l.length := by
            have := (List.getElem?_eq_some_iff.1 hj).1
            simp at this
            omega
          subst hj'
          have : y = p := by simpa using hj
          subst this
          rw [hl']
          exact ⟨c, hc, hy, hg⟩
    obtain ⟨l, hll, hp⟩ := list len (Nat.le_refl _)
    subst hll
    refine ⟨l, ⟨some a, cap, rfl, hl, rfl, by simp only [maxLen] at hm; omega, fun _ => ⟨a, rfl, fun j p hj => ?_⟩⟩, Nat.le_trans hl hm, fun y hy => ?_⟩
    · obtain ⟨c, hc, hk, _⟩ := hp j p hj
      obtain ⟨_, h2, h3⟩ := World.cells?_some hc
      rw [hs] at hc h2 h3
      refine ⟨c, h2, hk, fun i u hu => ?_⟩
      have hi : i < d.sz := by
        have := (List.getElem?_eq_some_iff.1 hu).1
        omega
      have h4 := h3 i hi
      rw [hu] at h4
      rw [show a.add (j * d.sz + i) = (a.add (j * d.sz)).add i from (addr_add_add a _ _).symm]
      exact h4
    · obtain ⟨j, hj⟩ := List.getElem?_of_mem hy
      obtain ⟨_, _, _, hg⟩ := hp j y hj
      exact hg
end Go.Proofs.Yteoikmbdpofhmaa.Opens
