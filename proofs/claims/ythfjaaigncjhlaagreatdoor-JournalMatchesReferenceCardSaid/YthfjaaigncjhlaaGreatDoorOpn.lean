/- Arguments opened: structs and slices of structs whose parts are one cell each; a slice that reads as a list. No condition. -/
import Derived.Deep.Slices
import Derived.ChangeSame
import Derived.WideShapes
import Derived.OpenShut
import Derived.Below
import Derived.WalkKit
import Derived.Laws.AppendOwn
namespace Go.Opn
open Go Go.RowKit Go.ChangeShapes Go.WideShapes Go.Deep

/-- The type of the cell at a place of a type's cells, if all parts are plain. -/
def leafAt (P : Program) : Nat → TypeId → Nat → Option TypeId
  | 0, _, _ => none
  | f + 1, t, p =>
    match P.underlying t with
    | some (.struct fs) => fs.toList.findSome? fun fl => if fl.offset ≤ p ∧ p < fl.offset + P.cellsOf fl.type then leafAt P f fl.type (p - fl.offset) else none
    | some (.int _) => if p = 0 then some t else none
    | some .bool => if p = 0 then some t else none
    | some .string => if p = 0 then some t else none
    | some (.slice _) => if p = 0 then some t else none
    | _ => none

section
variable {H : Type} {enc : TypeId × Value → H} {P : Program} {w : World} {base : Nat} {spare : Nat → Bool} {held : Bool}

theorem leaf : ∀ (f : Nat) {t t' : TypeId} {p fuel : Nat} {cs : List Value} {x : DataW H × List MemPlace}, leafAt P f t p = some t' → DataW.trod enc P w base spare held fuel t cs = some x →
    ∃ v m y, cs[p]? = some v ∧ DataW.trod enc P w base spare held m t' [v] = some y
  | 0, _, _, _, _, _, _, h, _ => by simp [leafAt] at h
  | f + 1, t, t', p, fuel, cs, x, h, hx => by
    unfold leafAt at h
    split at h
    · rename_i fs ht
      obtain ⟨fl, hm, hfl⟩ := List.exists_of_findSome?_eq_some h
      split at hfl
      · rename_i hp
        obtain ⟨xs, n, _, _, _, hxl, hg⟩ := DataW.trod_struct ht hx
        obtain ⟨i, hi⟩ := List.mem_iff_getElem?.1 hm
        have hi' : fs[i]? = some fl := by simpa using hi
        have h1 := hg i fl hi'
        have hil : i < xs.length := by rw [hxl]; exact (Array.getElem?_eq_some_iff.1 hi').1
        rw [List.getElem?_eq_getElem hil] at h1
        obtain ⟨v, m, y, hv, hy⟩ := leaf f hfl h1
        refine ⟨v, m, y, ?_, hy⟩
        rw [List.getElem?_take_of_lt (by omega), List.getElem?_drop] at hv
        rw [← hv]; congr 1; omega
      · cases hfl
    all_goals first | cases h | skip
    all_goals
      rename_i ht
      split at h
      · rename_i hp
        subst hp
        cases h
        first
          | (obtain ⟨n, rfl, rfl, _⟩ := DataW.trod_int ht hx; exact ⟨_, _, _, rfl, hx⟩)
          | (obtain ⟨n, rfl, rfl⟩ := DataW.trod_bool ht hx; exact ⟨_, _, _, rfl, hx⟩)
          | (obtain ⟨n, rfl, rfl, _⟩ := DataW.trod_string ht hx; exact ⟨_, _, _, rfl, hx⟩)
          | (rcases DataW.trod_slice ht hx with ⟨rfl, rfl⟩ | ⟨a, len, cap, el, rs, n, _, rfl, _⟩ <;> exact ⟨_, _, _, rfl, hx⟩)
      · cases h
theorem leaf_int {f : Nat} {t t' : TypeId} {p fuel : Nat} {cs : List Value} {x : DataW H × List MemPlace} {k : IntKind} (ht : P.underlying t' = some (.int k)) (h : leafAt P f t p = some t') (hx : DataW.trod enc P w base spare held fuel t cs = some x) :
    ∃ n, cs[p]? = some (.int k n) ∧ (Lit.int k n).wf = true := by
  obtain ⟨v, m, y, hv, hy⟩ := leaf f h hx
  obtain ⟨n, hn, _, hw⟩ := DataW.trod_int ht hy
  cases hn
  exact ⟨n, hv, hw⟩
theorem leaf_bool {f : Nat} {t t' : TypeId} {p fuel : Nat} {cs : List Value} {x : DataW H × List MemPlace} (ht : P.underlying t' = some .bool) (h : leafAt P f t p = some t') (hx : DataW.trod enc P w base spare held fuel t cs = some x) :
    ∃ b, cs[p]? = some (.bool b) := by
  obtain ⟨v, m, y, hv, hy⟩ := leaf f h hx
  obtain ⟨n, hn, _⟩ := DataW.trod_bool ht hy
  cases hn
  exact ⟨n, hv⟩
theorem leaf_string {f : Nat} {t t' : TypeId} {p fuel : Nat} {cs : List Value} {x : DataW H × List MemPlace} (ht : P.underlying t' = some .string) (h : leafAt P f t p = some t') (hx : DataW.trod enc P w base spare held fuel t cs = some x) :
    ∃ s : ByteArray, cs[p]? = some (.string s) ∧ s.size ≤ maxLen := by
  obtain ⟨v, m, y, hv, hy⟩ := leaf f h hx
  obtain ⟨n, hn, _, hs⟩ := DataW.trod_string ht hy
  cases hn
  exact ⟨n, hv, hs⟩
end

/-- A slice that reads as a list: each element's cells. -/
structure SL {α : Type} (w : World) (sz : Nat) (enc : α → List Value) (A : Option Addr) (es : List α) : Prop where
  cells : es ≠ [] → ∃ b off, A = some ⟨b, off, none⟩ ∧ ∀ i e, es[i]? = some e → ∀ p u, (enc e)[p]? = some u → w.cell? ⟨b, off + (i * sz + p), none⟩ = some u

section
variable {α : Type} {w w' : World} {sz : Nat} {ec : α → List Value} {A : Option Addr} {es : List α}
theorem SL.nil : SL w sz ec A ([] : List α) := ⟨fun h => absurd rfl h⟩
theorem SL.at_ (h : SL w sz ec A es) {i : Nat} {e : α} (hi : es[i]? = some e) : ∃ b off, A = some ⟨b, off, none⟩ ∧ ∀ p u, (ec e)[p]? = some u → w.cell? ⟨b, off + (i * sz + p), none⟩ = some u := by
  obtain ⟨b, off, hA, hc⟩ := h.cells (by rintro rfl; simp at hi)
  exact ⟨b, off, hA, fun p u hu => hc i e hi p u hu⟩
theorem SL.keep (h : SL w sz ec A es) (hk : ∀ p v, w.cell? p = some v → w'.cell? p = some v) : SL w' sz ec A es :=
  ⟨fun hn => by
    obtain ⟨b, off, hA, hc⟩ := h.cells hn
    exact ⟨b, off, hA, fun i e hi p u hu => hk _ _ (hc i e hi p u hu)⟩⟩
theorem SL.below {B : Nat} (h : SL w sz ec A es) (hb : Below B w w') (hB : w.heap.size ≤ B) : SL w' sz ec A es :=
  h.keep fun p v hv => by rw [hb.cell (p := p) (Nat.lt_of_lt_of_le (World.block_lt_of_cell? w _ hv) hB)]; exact hv
theorem SL.alloc (h : SL w sz ec A es) (o : Obj) : SL (w.alloc o) sz ec A es := h.below ((Below.refl _ _).alloc (Nat.le_refl _) o) (Nat.le_refl _)
theorem SL.drew (h : SL w sz ec A es) : SL w.drew sz ec A es := ⟨h.cells⟩
theorem SL.take (h : SL w sz ec A es) (k : Nat) : SL w sz ec A (es.take k) :=
  ⟨fun hn => by
    obtain ⟨b, off, hA, hc⟩ := h.cells (by rintro rfl; simp at hn)
    refine ⟨b, off, hA, fun i e hi p u hu => hc i e ?_ p u hu⟩
    rw [List.getElem?_take] at hi
    split at hi
    · exact hi
    · cases hi⟩
theorem SL.drop (h : SL w sz ec A es) {k cap : Nat} (hc : es.length ≤ cap) : SL w sz ec (if cap = k then A else A.map (·.add (k * sz))) (es.drop k) :=
  ⟨fun hn => by
    have hk : k < es.length := Nat.lt_of_not_le fun hl => hn (List.drop_eq_nil_iff.2 hl)
    obtain ⟨b, off, rfl, hcl⟩ := h.cells (by rintro rfl; simp at hn)
    rw [if_neg (by omega)]
    refine ⟨b, off + k * sz, ?_, fun i e hi p u hu => ?_⟩
    · simp only [Option.map_some, Addr.add]
      split
      · rename_i h0; rw [h0]; rfl
      · rfl
    · rw [List.getElem?_drop] at hi
      have := hcl _ e hi p u hu
      rw [← this]; congr 2
      rw [Nat.add_mul]; omega⟩
end

section
variable {H : Type} {enc : TypeId × Value → H} {P : Program} {w : World} {base : Nat} {spare : Nat → Bool} {held : Bool}
/-- A slice argument: its value, and each element's cells with their reading. -/
theorem open_rows {t e : TypeId} {v : Value} {d : DataW H} {ps : List MemPlace} {r : Reach} {b0 : Nat} (ht : P.underlying t = some (.slice e)) (h0 : 0 < P.cellsOf e) (hv : Value.okWide P w r b0 t v) (h : DataW.Trod enc P w base spare held t v d ps) :
    ∃ (A : Option Addr) (len cap n : Nat), v = .slice A len cap ∧ len ≤ cap ∧ cap ≤ maxLen ∧ ∀ i, i < len → ∃ b off cs x, A = some ⟨b, off, none⟩ ∧ cs.length = P.cellsOf e ∧ DataW.trod enc P w base spare held n e cs = some x ∧
      ∀ p u, cs[p]? = some u → w.cell? ⟨b, off + (i * P.cellsOf e + p), none⟩ = some u := by
  obtain ⟨fuel, hf⟩ := h
  have hvc : ∀ x : Value, v.cells.toList = [x] → v = x := by
    intro x hx
    cases v <;> simp [Value.cells] at hx <;> first | exact hx | skip
    simp only [Value.okWide, ht] at hv
    simp [Cell.okWide, Cell.ok, ht] at hv
  rcases open_slice ht hf with ⟨h0, _⟩ | ⟨a, len, cap, m, n, D, Pl, hcs, hb, hl, hm, hmm, hx, hi⟩
  · exact ⟨none, 0, 0, 0, hvc _ h0, Nat.le_refl _, Nat.zero_le _, fun i hi => absurd hi (by omega)⟩
  · refine ⟨some a, len, cap, n, hvc _ hcs, hl, hm, fun i hil => ?_⟩
    have him : i < m := by rw [hmm]; split <;> omega
    obtain ⟨cs', hc, ht'⟩ := hi i him
    obtain ⟨_, hcl, hat⟩ := World.cells?_some hc
    have hs : a.spot = none := by
      obtain ⟨cs0, hc0, _⟩ := hi 0 (by omega)
      obtain ⟨_, hcl0, hat0⟩ := World.cells?_some hc0
      have h1 := hat0 0 h0
      rw [Nat.zero_mul, List.getElem?_eq_getElem (by omega)] at h1
      have e0 : (a.add 0).add 0 = a := rfl
      rw [e0] at h1
      unfold World.cell? at h1
      split at h1
      · split at h1
        · cases h1
        · rename_i hsp
          simpa using hsp
      · cases h1
    obtain ⟨b, off, sp⟩ := a
    simp only at hs
    subst hs
    refine ⟨b, off, cs', _, rfl, hcl, ht', fun p u hu => ?_⟩
    have hp : p < P.cellsOf e := by rw [← hcl]; exact (List.getElem?_eq_some_iff.1 hu).1
    have h2 := hat p hp
    rw [add_add, hu] at h2
    rw [← h2]
    congr 1
    unfold Addr.add
    split
    · rename_i hz; rw [hz]; rfl
    · rfl
end
end Go.Opn
