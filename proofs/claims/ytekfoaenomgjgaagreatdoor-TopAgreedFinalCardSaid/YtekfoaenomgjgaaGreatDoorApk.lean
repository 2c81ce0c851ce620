/- An append leaves the old view of its row as it was. No condition. -/
import Derived.Maps.AppendAt
import Derived.Laws.Append
import Derived.Laws.AppendOwn
set_option linter.unusedSimpArgs false
set_option linter.unusedVariables false
namespace Go.Apk
open Go
variable {P : Program} (w : World)
theorem foldl_set : ∀ (l : List Value) (k : Nat) (Z : Array Value), k + l.length ≤ Z.size → ((l.zipIdx k).foldl (fun cs (p : Value × Nat) => cs.setIfInBounds (0 + p.2) p.1) Z).toList = Z.toList.take k ++ l ++ Z.toList.drop (k + l.length)
 | [], k, Z, _ => by simp
 | x :: r, k, Z, h => by
  simp only [List.zipIdx_cons, List.foldl_cons]
  have h2 : k + 1 + r.length ≤ (Z.setIfInBounds (0 + k) x).size := by simp at h ⊢; omega
  rw [foldl_set r (k + 1) _ h2]
  have hk : k < Z.toList.length := by simp at h ⊢; omega
  simp only [Nat.zero_add, Array.toList_setIfInBounds, List.length_cons]
  rw [List.take_add_one, List.take_set_of_le (Nat.le_refl _), List.getElem?_set_self hk, List.drop_set_of_lt (by omega)]
  simp only [Option.toList_some, List.append_assoc, List.cons_append, List.nil_append]
  rw [show k + 1 + r.length = k + (r.length + 1) by omega]
/-- '[]T{x}' with a value of several cells. -/
theorem run_slice_one (t e : TypeId) (i : TypeInfo) (z : Value) (ht : P.underlying t = some (.slice e)) (hi : P.info? e = some i) (hz : i.zero = some z) (E : Array Value) (hE : E.size = i.size) (hs0 : 0 < i.size) (hs1 : i.size ≤ 16777216) :
  (Instr.buildSlice t 1 #[(0, .agg E)]).run P w = .ok (.slice (some ⟨w.heap.size, 0, none⟩) 1 1) (w.alloc (.cells E e)) := by
 have hfill : Instr.fill (fun j => some (j * i.size, i.size)) ((Array.range (1 * i.size)).map (z.cells[· % z.cells.size]!)) [(0, .agg E)] = some E := by
  unfold Instr.fill
  simp only [Nat.zero_mul, Value.cells]
  rw [if_neg (by simp [hE])]
  unfold Instr.fill
  congr 1
  apply Array.ext'
  have := foldl_set E.toList 0 ((Array.range (1 * i.size)).map (z.cells[· % z.cells.size]!)) (by simp; omega)
  rw [← Array.foldl_toList, Array.toList_zipIdx]
  refine Eq.trans ?_ (this.trans ?_)
  ·rfl
  ·simp; omega
 have h0 : ¬ (1 * i.size > 2 ^ 24) := by omega
 have h1 : ¬ (1 * i.size = 0) := by omega
 have hsz : (sizeOf e).run P w = .ok i.size w := by simp [sizeOf, typeInfo, hi]
 have hzv : (zeroValue e).run P w = .ok z w := by simp [zeroValue, typeInfo, hi, hz]
 simp only [Instr.buildSlice, Sem.run_bind, run_underlying ht, hsz, Result.andThen_ok, if_neg h0, if_neg h1, hzv, Sem.run_pure, hfill]
 rfl
end Go.Apk
