/- The builder of package strings: what WriteString and String do, laid at this program. No condition. -/
import Derived.Shelf.Strings.BuilderK
import Derived.Test.YthfjaaigncjhlaaDoorShelf
import Derived.Test.YthfjaaigncjhlaaDoorBlk
namespace Go.Proofs.YthfjaaigncjhlaaDoor
open Go.Shelf

def bren : Go.Shelf.Ren := ⟨fun | 166 => 39 | 240 => 56 | 276 => 60 | n => n, fun | 0 => 0 | 3 => 3 | 4 => 4 | 5 => 5 | 9 => 9 | 20 => 20 | 37 => 48 | 70 => 73 | 72 => 75 | 75 => 77 | 164 => 97 | 80 => 61 | n => n, fun | n => n⟩
theorem blays166 : Go.Proofs.Lays.n166 Tryd.prog bren := {
  mixed := by kernel_rfl
  f166 := Tryd.func39.trans (congrArg some (by kernel_rfl))
  f240 := Tryd.func56.trans (congrArg some (by kernel_rfl))
  f276 := Tryd.func60.trans (congrArg some (by kernel_rfl))
  t0 := Tryd.underlying0
  a0 := Tryd.isAgg0
  z0 := Tryd.sizeOf0
  v0 := Tryd.zeroValue0
  t3 := Tryd.underlying3
  a3 := Tryd.isAgg3
  z3 := Tryd.sizeOf3
  v3 := Tryd.zeroValue3
  t4 := Tryd.underlying4
  a4 := Tryd.isAgg4
  z4 := Tryd.sizeOf4
  v4 := Tryd.zeroValue4
  t9 := Tryd.underlying9
  a9 := Tryd.isAgg9
  z9 := Tryd.sizeOf9
  v9 := Tryd.zeroValue9
  t20 := Tryd.underlying20
  a20 := Tryd.isAgg20
  z20 := Tryd.sizeOf20
  v20 := Tryd.zeroValue20
  t37 := Tryd.underlying48
  a37 := Tryd.isAgg48
  z37 := Tryd.sizeOf48
  v37 := Tryd.zeroValue48
  t70 := Tryd.underlying73
  a70 := Tryd.isAgg73
  z70 := Tryd.sizeOf73
  v70 := Tryd.zeroValue73
  t72 := Tryd.underlying75
  a72 := Tryd.isAgg75
  z72 := Tryd.sizeOf75
  v72 := Tryd.zeroValue75
  t75 := Tryd.underlying77
  a75 := Tryd.isAgg77
  z75 := Tryd.sizeOf77
  v75 := Tryd.zeroValue77
  t164 := Tryd.underlying97
  a164 := Tryd.isAgg97
  z164 := Tryd.sizeOf97
  v164 := Tryd.zeroValue97 }
theorem bextra : Builder.Extra Tryd.prog bren := {
  sizeBuilder := by kernel_rfl
  liesBuilder := by kernel_rfl
  t5 := Tryd.underlying5
  a5 := Tryd.isAgg5
  z5 := Tryd.sizeOf5
  v5 := Tryd.zeroValue5
  infoByte := by kernel_rfl
  cellsByte := by kernel_rfl
  sizeByte := by kernel_rfl
  neB5 := by decide }
open Go.RowKit
/-- A builder of the call's own with the bytes l. -/
def Bld (w0 : World) (B b : Nat) (l : List UInt8) (w : World) : Prop := Lib.IsBuilderF 75 5 B b (Lib.byteCells l) w ∧ Below B w0 w ∧ B ≤ w0.heap.size
theorem Bld.bl {w0 w : World} {B b : Nat} {l : List UInt8} (h : Bld w0 B b l w) : Below B w0 w := h.2.1
theorem Bld.str {w0 w : World} {B b : Nat} {l : List UInt8} (h : Bld w0 B b l w) (s : ByteArray) (hl : l.length + s.size ≤ 140737488355328) :
    Calls Tryd.prog 39 #[.pointer (some ⟨b, 0, none⟩), .string s] w fun e w' => e = .returned (.tuple #[.int .i64 s.size, .nilIface]) ∧ Bld w0 B b (l ++ s.data.toList) w' := by
  obtain ⟨h1, h2, h3⟩ := h
  refine (Any.Builder_WriteString_k blays166 bextra B b (Lib.byteCells l) s w h1 (by simpa [Lib.byteCells] using hl) (Nat.le_trans h3 h2.size)).mono ?_
  rintro e w' ⟨rfl, h4, h5, _⟩
  refine ⟨rfl, .inr ?_, h2.trans h5, h3⟩
  have e1 : Lib.byteCells (l ++ s.data.toList) = Lib.byteCells l ++ Lib.strCells s := by simp [Lib.byteCells, Lib.strCells]
  rw [e1]; exact h4
theorem Bld.read {w0 w : World} {B b : Nat} {l : List UInt8} (h : Bld w0 B b l w) :
    Calls Tryd.prog 41 #[.pointer (some ⟨b, 0, none⟩)] w fun e w' => e = .returned (.string ⟨l.toArray⟩) ∧ Bld w0 B b l w' := by
  obtain ⟨h1, h2, h3⟩ := h
  refine (Tryd.Builder_String_any_k B b l w h1 (Nat.le_trans h3 h2.size)).mono ?_
  rintro e w' ⟨rfl, h4, h5, _⟩
  exact ⟨rfl, h4, h2.trans h5, h3⟩
theorem Bld.grow {w0 w w' : World} {B b : Nat} {l : List UInt8} (h : Bld w0 B b l w) (hb : Below w.heap.size w w') : Bld w0 B b l w' := by
  obtain ⟨h1, h2, h3⟩ := h
  refine ⟨?_, h2.trans (hb.mono (Nat.le_trans h3 h2.size)), h3⟩
  have go : ∀ p, Lib.BuilderAtF 75 5 B b p (Lib.byteCells l) w → Lib.BuilderAtF 75 5 B b p (Lib.byteCells l) w' := by
    rintro p ⟨k1, v, k2, ⟨k3, k4⟩, k5⟩
    refine ⟨k1, v, (hb.block b (Array.getElem?_eq_some_iff.1 k2).1).trans k2, ⟨k3, ?_⟩, k5⟩
    rcases k4 with k4 | ⟨g, cap, cur, fz, j1, j2, j3, j4⟩
    · exact .inl k4
    · exact .inr ⟨g, cap, cur, fz, j1, j2, (hb.block g (Array.getElem?_eq_some_iff.1 j3).1).trans j3, j4⟩
  exact h1.imp (go _) (go _)
theorem Bld.new (w0 w : World) (B : Nat) (hb : Below B w0 w) (hB : B ≤ w0.heap.size) : Bld w0 B w.heap.size [] (w.alloc (.cells #[.pointer none, .slice none 0 0] 75)) := by
  refine ⟨.inl ⟨Nat.le_trans hB hb.size, .slice none 0 0, (by show (w.heap.push _)[w.heap.size]? = _; simp), ?_, by simp [Value.ownBlock]⟩, hb.alloc (Nat.le_trans hB hb.size) _, hB⟩
  exact ⟨rfl, .inl ⟨rfl, rfl⟩⟩
end Go.Proofs.YthfjaaigncjhlaaDoor
