/- Slices opened to lists, as arguments and as parts of structs. No condition. -/
import Derived.Test.YthfjaaigncjhlaaGreatDoorOpn
import Derived.Lib.SmallJoins
namespace Go.Opn
open Go Go.RowKit Go.ChangeShapes Go.WideShapes Go.Deep
section
variable {H : Type} {enc : TypeId × Value → H} {P : Program} {w : World} {base : Nat} {spare : Nat → Bool} {held : Bool}
/-- A value of a slice's type, as the one cell that reads. -/
theorem one_of {t e : TypeId} {v : Value} {d : DataW H} {ps : List MemPlace} {r : Reach} {b0 : Nat} (ht : P.underlying t = some (.slice e)) (hv : Value.okWide P w r b0 t v) (h : DataW.Trod enc P w base spare held t v d ps) :
    ∃ f x, DataW.trod enc P w base spare held f t [v] = some x := by
  obtain ⟨fuel, hf⟩ := h
  have hvc : ∀ x : Value, v.cells.toList = [x] → v = x := by
    intro x hx
    cases v <;> simp [Value.cells] at hx <;> first | exact hx | skip
    simp only [Value.okWide, ht] at hv
    simp [Cell.okWide, Cell.ok, ht] at hv
  rcases open_slice ht hf with ⟨h0, _⟩ | ⟨a, len, cap, m, n, D, Pl, hcs, _⟩
  · rw [h0] at hf; rw [hvc _ h0]; exact ⟨_, _, hf⟩
  · rw [hcs] at hf; rw [hvc _ hcs]; exact ⟨_, _, hf⟩
/-- A slice's cell: its value and a list of what its elements read as. -/
theorem open_list {α : Type} [Inhabited α] {ec : α → List Value} {K : α → Prop} {t e : TypeId} {v : Value} {f : Nat} {x : DataW H × List MemPlace} (ht : P.underlying t = some (.slice e)) (h0 : 0 < P.cellsOf e)
    (hel : ∀ (f : Nat) (cs : List Value) (x : DataW H × List MemPlace), DataW.trod enc P w base spare held f e cs = some x → ∃ a : α, K a ∧ ∀ (p : Nat) u, (ec a)[p]? = some u → cs[p]? = some u)
    (h : DataW.trod enc P w base spare held f t [v] = some x) :
    ∃ (A : Option Addr) (c : Nat) (l : List α), v = .slice A l.length c ∧ l.length ≤ 9223372036854775807 ∧ l.length ≤ c ∧ SL w (P.cellsOf e) ec A l ∧ ∀ a ∈ l, K a := by
  rcases open_slice ht h with ⟨h1, _⟩ | ⟨a, len, cap, m, n, D, Pl, hcs, hb, hl, hm, hmm, hx, hi⟩
  · cases h1
    exact ⟨none, 0, [], rfl, Nat.zero_le _, Nat.zero_le _, SL.nil, fun a ha => by cases ha⟩
  · cases hcs
    have hi2 : ∀ i, i < len → ∃ y : α, K y ∧ ∃ b off, a = ⟨b, off, none⟩ ∧ ∀ p u, (ec y)[p]? = some u → w.cell? ⟨b, off + (i * P.cellsOf e + p), none⟩ = some u := by
      intro i hil
      have him : i < m := by rw [hmm]; split <;> omega
      obtain ⟨cs', hc, ht'⟩ := hi i him
      obtain ⟨_, hcl, hat⟩ := World.cells?_some hc
      have hs : a.spot = none := by
        obtain ⟨cs0, hc0, _⟩ := hi 0 (by omega)
        obtain ⟨_, hcl0, hat0⟩ := World.cells?_some hc0
        have h1 := hat0 0 h0
        rw [Nat.zero_mul, List.getElem?_eq_getElem (by omega)] at h1
        have e0 : (a.add 0).add 0 = a := rfl
        rw [e0] at h1
        unfold World.cell? at h1
        split at h1
        · split at h1
          · cases h1
          · rename_i hsp
            simpa using hsp
        · cases h1
      obtain ⟨y, hy, hyc⟩ := hel _ _ _ ht'
      obtain ⟨b, off, sp⟩ := a
      simp only at hs
      subst hs
      refine ⟨y, hy, b, off, rfl, fun p u hu => ?_⟩
      have hu' := hyc p u hu
      have hp : p < P.cellsOf e := by rw [← hcl]; exact (List.getElem?_eq_some_iff.1 hu').1
      have h2 := hat p hp
      rw [add_add, hu'] at h2
      rw [← h2]
      congr 1
      unfold Addr.add
      split
      · rename_i hz; rw [hz]; rfl
      · rfl
    obtain ⟨g, hg⟩ := choose_lt hi2
    unfold maxLen at hm
    refine ⟨some a, cap, (List.range len).map g, by simp, by simp; omega, by simpa using hl, ⟨fun hn => ?_⟩, fun y hy => ?_⟩
    · have h0 : 0 < len := by
        rcases Nat.eq_zero_or_pos len with h | h
        · subst h; simp at hn
        · exact h
      obtain ⟨_, b, off, hA, _⟩ := hg 0 h0
      refine ⟨b, off, by rw [hA], fun i y hie p u hu => ?_⟩
      have hil : i < len := by
        have := (List.getElem?_eq_some_iff.1 hie).1
        simpa using this
      have he : g i = y := by
        rw [List.getElem?_map, List.getElem?_range hil] at hie
        simpa using hie
      obtain ⟨_, b', off', hA', hcell⟩ := hg i hil
      rw [hA] at hA'
      injection hA' with e1 e2
      subst e1 e2
      rw [← he] at hu
      exact hcell p u hu
    · obtain ⟨i, hi, rfl⟩ := List.mem_map.1 hy
      exact (hg i (List.mem_range.1 hi)).1
/-- A slice in a struct. -/
theorem leaf_list {α : Type} [Inhabited α] {ec : α → List Value} {K : α → Prop} {t t' e : TypeId} {f fuel p : Nat} {cs : List Value} {x : DataW H × List MemPlace} (ht : P.underlying t' = some (.slice e)) (h0 : 0 < P.cellsOf e)
    (hel : ∀ (f : Nat) (cs : List Value) (x : DataW H × List MemPlace), DataW.trod enc P w base spare held f e cs = some x → ∃ a : α, K a ∧ ∀ (p : Nat) u, (ec a)[p]? = some u → cs[p]? = some u)
    (h : leafAt P f t p = some t') (hx : DataW.trod enc P w base spare held fuel t cs = some x) :
    ∃ (A : Option Addr) (c : Nat) (l : List α), cs[p]? = some (.slice A l.length c) ∧ l.length ≤ 9223372036854775807 ∧ l.length ≤ c ∧ SL w (P.cellsOf e) ec A l ∧ ∀ a ∈ l, K a := by
  obtain ⟨v, m, y, hv, hy⟩ := leaf f h hx
  obtain ⟨A, c, l, rfl, h1, h2, h3, h4⟩ := open_list ht h0 hel hy
  exact ⟨A, c, l, hv, h1, h2, h3, h4⟩
end
end Go.Opn
