/- Blocks of cells that are known whole: what a load, a store, a new block and a call that keeps old memory do to them. No condition. -/
import Derived.WalkKit
import Derived.WalkSpells
import Derived.Laws.IdiomStrings
import Derived.Lib.Hide
import Derived.Deep.QuietTactic
set_option linter.unusedSimpArgs false
set_option linter.unusedVariables false
namespace Go
theorem Pt1 {α : Type} (l : List α) (i : Nat) (a : α) : l.toArray.setIfInBounds i a = (l.set i a).toArray := List.setIfInBounds_toArray ..
theorem Pt2 {α : Type} {a b : α} {l : List α} {i : Nat} : (a :: l).set (i + 1) b = a :: l.set i b := List.set_cons_succ
theorem Pt3 {α : Type} {a b : α} {l : List α} : (a :: l).set 0 b = b :: l := List.set_cons_zero
end Go
namespace Go.Blk
open Go Go.RowKit

/-- Block b holds the cells cs, of type T, none of them shared with a string. -/
def Blk (w : World) (b : Nat) (cs : List Value) (T : TypeId) : Prop := w.heap[b]? = some (.cells cs.toArray T (0, 0))

theorem Blk.lt {w : World} {b : Nat} {cs : List Value} {T : TypeId} (h : Blk w b cs T) : b < w.heap.size := by
 unfold Blk at h
 exact (Array.getElem?_eq_some_iff.1 h).1
theorem Blk.cell {w : World} {b : Nat} {cs : List Value} {T : TypeId} (h : Blk w b cs T) (i : Nat) (hi : i < cs.length) : w.cell? ⟨b, i, none⟩ = some cs[i] := by
 unfold Blk at h
 simp [World.cell?, h, hi]
theorem Blk.cellD {w : World} {b : Nat} {cs : List Value} {T : TypeId} (h : Blk w b cs T) (i : Nat) (v : Value) (hi : cs[i]? = some v) : w.cell? ⟨b, i, none⟩ = some v := by
 obtain ⟨hl, rfl⟩ := List.getElem?_eq_some_iff.1 hi
 exact h.cell i hl
theorem Blk.frozen {w : World} {b : Nat} {cs : List Value} {T : TypeId} (h : Blk w b cs T) (i : Nat) : w.frozen? ⟨b, i, none⟩ = false := by
 unfold Blk at h
 simp [World.frozen?, h]
theorem Blk.set {w : World} {b : Nat} {cs : List Value} {T : TypeId} (h : Blk w b cs T) (i : Nat) (v : Value) : Blk (w.setCell ⟨b, i, none⟩ v) b (cs.set i v) T := by
 unfold Blk at *
 simp only [World.setCell, Array.getElem?_modify, if_true, h, Option.map_some]
 simp
theorem Blk.set_ne {w : World} {b : Nat} {cs : List Value} {T : TypeId} (h : Blk w b cs T) {a : Addr} (ha : a.block ≠ b) (v : Value) : Blk (w.setCell a v) b cs T := by
 unfold Blk at *
 rw [Below.heap_setCell _ _ _ _ (Ne.symm ha)]; exact h
theorem Blk.alloc {w : World} {b : Nat} {cs : List Value} {T : TypeId} (h : Blk w b cs T) (o : Obj) : Blk (w.alloc o) b cs T := by
 have := h.lt
 unfold Blk at *
 rw [Below.heap_alloc _ _ _ this]; exact h
theorem Blk.newA (w : World) (cs : Array Value) (T : TypeId) : Blk (w.alloc (.cells cs T (0, 0))) w.heap.size cs.toList T := by
 show (w.heap.push _)[w.heap.size]? = _
 simp
theorem Blk.made {w : World} {b : Nat} {l : List Value} {cs : Array Value} {T : TypeId} (hb : b = w.heap.size) (hl : cs.toList = l) : Blk (w.alloc (.cells cs T (0, 0))) b l T := by
 subst hb; subst hl; exact Blk.newA w cs T
theorem Blk.drew {w : World} {b : Nat} {cs : List Value} {T : TypeId} (h : Blk w b cs T) : Blk w.drew b cs T := h
theorem Blk.below {w w' : World} {b B : Nat} {cs : List Value} {T : TypeId} (h : Blk w b cs T) (hb : Below B w w') (hB : b < B) : Blk w' b cs T := by
 unfold Blk at *
 rw [hb.block b hB]; exact h

/-- A byte as a cell holds it. -/
def C8 (x : UInt8) : Value := .int .u8 x.toNat
theorem addr_add (b o j : Nat) : (⟨b, o, none⟩ : Addr).add j = ⟨b, o + j, none⟩ := by unfold Addr.add; split <;> simp_all
/-- 'string(b)' where b's cells are the bytes l. -/
theorem conv_bytes {P : Program} {w : World} {src dst e : TypeId} {b cap : Nat} {cs : List Value} {T : TypeId} (l : List UInt8) (hs : P.underlying src = some (.slice e)) (he : P.underlying e = some (.int .u8)) (hd : P.underlying dst = some .string)
  (hb : Blk w b cs T) (hl : ∀ j (hj : j < l.length), cs[j]? = some (C8 l[j])) : (convert src dst (.slice (some ⟨b, 0, none⟩) l.length cap)).run P w = .ok (.string ⟨l.toArray⟩) w :=
 run_convert_bytes_back (P := P) w src dst e ⟨b, 0, none⟩ cap l hs he hd (fun j hj => by rw [addr_add, Nat.zero_add]; exact hb.cellD j _ (hl j hj))

end Go.Blk
