/- What a round of a range over a function keeps, but for some blocks and one row that grows. No condition. -/
import Derived.Test.YtekfoaenomgjgaaGreatDoorRf
import Derived.Test.YtekfoaenomgjgaaGreatDoorYB
set_option linter.unusedSimpArgs false
set_option linter.unusedVariables false
namespace Go.Rf
open Go Go.RowKit Go.Opn
/-- The block of the slice in a cell of its own. -/
def obAt (b : Nat) (w : World) : Option Nat := match w.cell? ⟨b, 0, none⟩ with
 | some (.slice (some a) _ _) => some a.block
 | _ => none
/-- All cells but those of X and of the row in block b's slice are as they were. -/
structure KpX (X : Nat → Prop) (b : Nat) (w w' : World) : Prop where
 size : w.heap.size ≤ w'.heap.size
 keep : ∀ k, k < w.heap.size → (∃ c t f, w.heap[k]? = some (.cells c t f)) → ¬ X k → obAt b w ≠ some k → w'.heap[k]? = w.heap[k]?
 own : obAt b w' = obAt b w ∨ ∃ k, obAt b w' = some k ∧ w.heap.size ≤ k
variable {X : Nat → Prop} {b : Nat}
theorem KpX.trans {u v w : World} (h : KpX X b u v) (g : KpX X b v w) : KpX X b u w := by
 refine ⟨Nat.le_trans h.size g.size, fun k hk hc hX ho => ?_, ?_⟩
 ·have e1 := h.keep k hk hc hX ho
  rw [g.keep k (Nat.lt_of_lt_of_le hk h.size) (by rw [e1]; exact hc) hX ?_, e1]
  rcases h.own with e | ⟨j, e, hj⟩
  ·rw [e]; exact ho
  ·rw [e]; intro e2; injection e2 with e2; omega
 ·rcases g.own with e | ⟨j, e, hj⟩
  ·rw [e]; exact h.own
  ·exact .inr ⟨j, e, Nat.le_trans h.size hj⟩
theorem cells_of {w : World} {a : Addr} {v : Value} (h : w.cell? a = some v) : ∃ c t f, w.heap[a.block]? = some (.cells c t f) := by
 unfold World.cell? at h
 split at h
 ·rename_i c t f e; exact ⟨c, t, f, e⟩
 ·cases h
theorem obAt_block {w w' : World} (h : w'.heap[b]? = w.heap[b]?) : obAt b w' = obAt b w := by
 unfold obAt
 rw [World.cell?_of_block (a := ⟨b, 0, none⟩) h]
/-- The loop's books. -/
theorem KpX.book (W : World) (l : Nat) (o o' : Obj) (hl : l ≠ b) (ho : W.heap[l]? = some o) (hc : o.isCells = false) : KpX X b W (W.putObj l o') := by
 have hsz : (W.putObj l o').heap.size = W.heap.size := by simp [World.putObj]
 refine ⟨by omega, fun k _ h _ _ => World.putObj_heap_other (fun e2 => ?_), .inl (obAt_block (World.putObj_heap_other (Ne.symm hl)))⟩
 obtain ⟨c, t, f, e⟩ := h
 subst e2
 rw [e] at ho; cases ho; cases hc
theorem KpX.below {w w' : World} (h : Below w.heap.size w w') (hb : b < w.heap.size) : KpX X b w w' :=
 ⟨h.size, fun k hk _ _ _ => h.block k hk, .inl (obAt_block (h.block b hb))⟩
theorem sl_keepB {α : Type} {w w' : World} {sz : Nat} {enc : α → List Value} {A : Option Addr} {es : List α} (h : SL w sz enc A es) (hk : ∀ k, A.map (·.block) = some k → w'.heap[k]? = w.heap[k]?) : SL w' sz enc A es :=
 ⟨fun hn => by
  obtain ⟨c, off, hA, hc⟩ := h.cells hn
  exact ⟨c, off, hA, fun i e hi p u hu => by rw [World.cell?_of_block (a := ⟨c, off + (i * sz + p), none⟩) (hk c (by rw [hA]; rfl))]; exact hc i e hi p u hu⟩⟩
end Go.Rf
