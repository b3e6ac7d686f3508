/- What the row's reading of an argument gives, kind by kind: the kinds' own reading facts ('Kd.K'), and the bounds that every readable datum bears. For any program. -/
import Derived.Test.YteoikmbdpofhmaaWWords
import Derived.ChangeArms
import Derived.WideShapes
namespace Go.Proofs.Yteoikmbdpofhmaa.Opens
open Go.RowKit Go.Proofs.YteoikmbdpofhmaaW.PrintWords
variable {α β : Type}
theorem addr_add_add (a : Addr) (m i : Nat) : (a.add m).add i = a.add (m + i) := by
  unfold Addr.add
  split
  · subst_vars; simp
  · split
    · subst_vars; simp_all
    · simp_all
      omega
/-- Whatever can be read as a datum of type t reads as a value of kind d, of which G holds. -/
def Opens (P : Program) (t : Nat) (d : Kd α) (G : α → Prop) : Prop :=
  ∀ {H : Type} {enc : TypeId × Value → H} {w : World} {base : Nat} {spare : Nat → Bool} {held : Bool} {fuel : Nat} {cs : List Value} {x : DataW H × List MemPlace},
    DataW.trod enc P w base spare held fuel t cs = some x → ∃ a, d.K w a cs ∧ G a
def GInt (k : IntKind) (n : Int) : Prop := (Lit.int k n).wf = true
def GStr (s : ByteArray) : Prop := s.size ≤ maxLen
def GList (G : α → Prop) (l : List α) : Prop := l.length ≤ maxLen ∧ ∀ x, x ∈ l → G x
theorem GInt_i64 {n : Int} (h : GInt .i64 n) : -9223372036854775808 ≤ n ∧ n ≤ 9223372036854775807 := by
  unfold GInt Lit.wf at h
  simp [IntKind.min, IntKind.max, IntKind.signed, IntKind.bits] at h
  omega
theorem GInt_u8 {n : Int} (h : GInt .u8 n) : 0 ≤ n ∧ n ≤ 255 := by
  unfold GInt Lit.wf at h
  simp [IntKind.min, IntKind.max, IntKind.signed, IntKind.bits] at h
  omega
theorem opens_int {P : Program} {t : Nat} {k : IntKind} (ht : P.underlying t = some (.int k)) : Opens P t (Kd.int k) (GInt k) := by
  intro H enc w base spare held fuel cs x h
  obtain ⟨n, rfl, _, hw⟩ := DataW.trod_int ht h
  exact ⟨n, rfl, hw⟩
theorem opens_bool {P : Program} {t : Nat} (ht : P.underlying t = some .bool) : Opens P t Kd.bool (fun _ => True) := by
  intro H enc w base spare held fuel cs x h
  obtain ⟨b, rfl, _⟩ := DataW.trod_bool ht h
  exact ⟨b, rfl, trivial⟩
theorem opens_string {P : Program} {t : Nat} (ht : P.underlying t = some .string) : Opens P t Kd.string GStr := by
  intro H enc w base spare held fuel cs x h
  obtain ⟨s, rfl, _, hs⟩ := DataW.trod_string ht h
  exact ⟨s, rfl, hs⟩
theorem opens_slice {P : Program} {t e : Nat} {d : Kd α} {G : α → Prop} (ht : P.underlying t = some (.slice e)) (hd : Opens P e d G) (hs : P.cellsOf e = d.sz) : Opens P t (Kd.slice e d) (GList G) := by
  intro H enc w base spare held fuel cs x h
  rcases DataW.trod_slice ht h with ⟨rfl, _⟩ | ⟨a, len, cap, elems, rest, n, _, rfl, _, _, hl, hm, hlen, hel, _, _⟩
  · exact ⟨[], ⟨none, 0, rfl, Nat.le_refl _, rfl, by simp, fun h0 => absurd h0 (by simp)⟩, by simp [maxLen], by simp⟩
  · have each : ∀ i, i < len → ∃ (y : α) (c : List Value), w.cells? base (a.add (i * P.cellsOf e)) (P.cellsOf e) = some c ∧ d.K w y c ∧ G y := by
      intro i hi
      have h1 := hel i hi
      rw [List.getElem?_eq_getElem (show i < elems.length by omega), Option.bind_eq_some_iff] at h1
      obtain ⟨c, hc, ht'⟩ := h1
      obtain ⟨y, hy, hg⟩ := hd ht'
      exact ⟨y, c, hc, hy, hg⟩
    have list : ∀ m, m ≤ len → ∃ l : List α, l.length = m ∧ ∀ j p, l[j]? = some p → ∃ c, w.cells? base (a.add (j * P.cellsOf e)) (P.cellsOf e) = some c ∧ d.K w p c ∧ G p := by
      intro m
      induction m with
      | zero => exact fun _ => ⟨[], rfl, fun j p hj => by simp at hj⟩
      | succ m ih =>
        intro hm'
        obtain ⟨l, hl', hp⟩ := ih (by omega)
        obtain ⟨y, c, hc, hy, hg⟩ := each m (by omega)
        refine ⟨l ++ [y], by simp [hl'], fun j p hj => ?_⟩
        rcases Nat.lt_or_ge j l.length with h1 | h1
        · rw [List.getElem?_append_left h1] at hj
          exact hp j p hj
        · have hj' : j = l.length := by
            have := (List.getElem?_eq_some_iff.1 hj).1
            simp at this
            omega
          subst hj'
          have : y = p := by simpa using hj
          subst this
          rw [hl']
          exact ⟨c, hc, hy, hg⟩
    obtain ⟨l, hll, hp⟩ := list len (Nat.le_refl _)
    subst hll
    refine ⟨l, ⟨some a, cap, rfl, hl, rfl, by simp only [maxLen] at hm; omega, fun _ => ⟨a, rfl, fun j p hj => ?_⟩⟩, Nat.le_trans hl hm, fun y hy => ?_⟩
    · obtain ⟨c, hc, hk, _⟩ := hp j p hj
      obtain ⟨_, h2, h3⟩ := World.cells?_some hc
      rw [hs] at hc h2 h3
      refine ⟨c, h2, hk, fun i u hu => ?_⟩
      have hi : i < d.sz := by
        have := (List.getElem?_eq_some_iff.1 hu).1
        omega
      have h4 := h3 i hi
      rw [hu] at h4
      rw [show a.add (j * d.sz + i) = (a.add (j * d.sz)).add i from (addr_add_add a _ _).symm]
      exact h4
    · obtain ⟨j, hj⟩ := List.getElem?_of_mem hy
      obtain ⟨_, _, _, hg⟩ := hp j y hj
      exact hg
/-- A struct's fields from the i-th on, the cells from off on. -/
def OpensF (P : Program) (fs : List (Nat × Nat)) (off : Nat) (d : Kd α) (G : α → Prop) : Prop :=
  ∀ {H : Type} {enc : TypeId × Value → H} {w : World} {base : Nat} {spare : Nat → Bool} {held : Bool} {fuel : Nat} {cs : List Value},
    (∀ f, f ∈ fs → ∃ y, DataW.trod enc P w base spare held fuel f.1 ((cs.drop f.2).take (P.cellsOf f.1)) = some y) → cs.length = off + d.sz → ∃ a, d.K w a (cs.drop off) ∧ G a
theorem opensF_one {P : Program} {t off : Nat} {d : Kd α} {G : α → Prop} (hd : Opens P t d G) (hs : P.cellsOf t = d.sz) : OpensF P [(t, off)] off d G := by
  intro H enc w base spare held fuel cs h hl
  obtain ⟨y, hy⟩ := h (t, off) (by simp)
  have e : (cs.drop off).take (P.cellsOf t) = cs.drop off := by rw [hs]; exact List.take_of_length_le (by rw [List.length_drop]; omega)
  simp only [e] at hy
  exact hd hy
theorem opensF_cons {P : Program} {t off : Nat} {fs : List (Nat × Nat)} {d : Kd α} {d2 : Kd β} {G : α → Prop} {G2 : β → Prop} (hd : Opens P t d G) (hs : P.cellsOf t = d.sz) (h2 : OpensF P fs (off + d.sz) d2 G2) :
    OpensF P ((t, off) :: fs) off (Kd.pair d d2) (fun x => G x.1 ∧ G2 x.2) := by
  intro H enc w base spare held fuel cs h hl
  obtain ⟨y, hy⟩ := h (t, off) (by simp)
  obtain ⟨a, ha, ga⟩ := hd hy
  have hl' : cs.length = off + (d.sz + d2.sz) := hl
  obtain ⟨b, hb, gb⟩ := h2 (cs := cs) (fun f hf => h f (by simp [hf])) (by omega)
  refine ⟨(a, b), ⟨_, _, ?_, ha, hb⟩, ga, gb⟩
  rw [hs, ← List.drop_drop]
  exact (List.take_append_drop d.sz (cs.drop off)).symm
theorem opens_struct {P : Program} {t : Nat} {fs : Array Field} {d : Kd α} {G : α → Prop} (ht : P.underlying t = some (.struct fs)) (hf : OpensF P (fs.toList.map fun f => (f.type, f.offset)) 0 d G) (hs : P.cellsOf t = d.sz) : Opens P t d G := by
  intro H enc w base spare held fuel cs x h
  obtain ⟨xs, n, _, _, hl, hxs, hall⟩ := DataW.trod_struct ht h
  obtain ⟨a, ha, ga⟩ := hf (cs := cs) (fun f hf => by
    obtain ⟨g, hg, rfl⟩ := List.mem_map.1 hf
    obtain ⟨i, hi⟩ := List.getElem?_of_mem hg
    have hi' : fs[i]? = some g := by rw [← Array.getElem?_toList]; exact hi
    have hlt : i < xs.length := by
      have := (Array.getElem?_eq_some_iff.1 hi').1
      omega
    exact ⟨xs[i], by rw [hall i g hi', List.getElem?_eq_getElem hlt]⟩) (by omega)
  exact ⟨a, by simpa using ha, ga⟩
theorem opens_iso {P : Program} {t : Nat} {d : Kd α} {G : α → Prop} (f : β → α) (g : α → β) (hfg : ∀ a, f (g a) = a) (h : Opens P t d G) : Opens P t (Kd.iso d f) (fun b => G (f b)) := by
  intro H enc w base spare held fuel cs x hx
  obtain ⟨a, ha, ga⟩ := h hx
  exact ⟨g a, by show d.K w (f (g a)) cs; rw [hfg]; exact ha, by show G (f (g a)); rw [hfg]; exact ga⟩
theorem opens_imp {P : Program} {t : Nat} {d : Kd α} {G G' : α → Prop} (h : Opens P t d G) (hG : ∀ a, G a → G' a) : Opens P t d G' := by
  intro H enc w base spare held fuel cs x hx
  obtain ⟨a, ha, ga⟩ := h hx
  exact ⟨a, ha, hG a ga⟩
end Go.Proofs.Yteoikmbdpofhmaa.Opens
