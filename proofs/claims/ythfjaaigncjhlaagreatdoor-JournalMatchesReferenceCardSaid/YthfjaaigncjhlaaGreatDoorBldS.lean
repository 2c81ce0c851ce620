/- The builder of package strings: what WriteString and String do, laid at this program. No condition. -/
import Derived.Shelf.Strings.BuilderK
import Derived.Test.YthfjaaigncjhlaaGreatDoorShelf
import Derived.Test.YthfjaaigncjhlaaGreatDoorBlk
namespace Go.Proofs.YthfjaaigncjhlaaGreatDoor
open Go.Shelf

def bren : Go.Shelf.Ren := ⟨fun | 166 => 49 | 240 => 74 | 276 => 80 | n => n, fun | 0 => 0 | 3 => 3 | 4 => 4 | 5 => 5 | 9 => 9 | 20 => 20 | 37 => 50 | 70 => 79 | 72 => 81 | 75 => 83 | 164 => 114 | 80 => 67 | n => n, fun | n => n⟩
theorem blays166 : Go.Proofs.Lays.n166 Tryz.prog bren := {
  mixed := by kernel_rfl
  f166 := Tryz.func49.trans (congrArg some (by kernel_rfl))
  f240 := Tryz.func74.trans (congrArg some (by kernel_rfl))
  f276 := Tryz.func80.trans (congrArg some (by kernel_rfl))
  t0 := Tryz.underlying0
  a0 := Tryz.isAgg0
  z0 := Tryz.sizeOf0
  v0 := Tryz.zeroValue0
  t3 := Tryz.underlying3
  a3 := Tryz.isAgg3
  z3 := Tryz.sizeOf3
  v3 := Tryz.zeroValue3
  t4 := Tryz.underlying4
  a4 := Tryz.isAgg4
  z4 := Tryz.sizeOf4
  v4 := Tryz.zeroValue4
  t9 := Tryz.underlying9
  a9 := Tryz.isAgg9
  z9 := Tryz.sizeOf9
  v9 := Tryz.zeroValue9
  t20 := Tryz.underlying20
  a20 := Tryz.isAgg20
  z20 := Tryz.sizeOf20
  v20 := Tryz.zeroValue20
  t37 := Tryz.underlying50
  a37 := Tryz.isAgg50
  z37 := Tryz.sizeOf50
  v37 := Tryz.zeroValue50
  t70 := Tryz.underlying79
  a70 := Tryz.isAgg79
  z70 := Tryz.sizeOf79
  v70 := Tryz.zeroValue79
  t72 := Tryz.underlying81
  a72 := Tryz.isAgg81
  z72 := Tryz.sizeOf81
  v72 := Tryz.zeroValue81
  t75 := Tryz.underlying83
  a75 := Tryz.isAgg83
  z75 := Tryz.sizeOf83
  v75 := Tryz.zeroValue83
  t164 := Tryz.underlying114
  a164 := Tryz.isAgg114
  z164 := Tryz.sizeOf114
  v164 := Tryz.zeroValue114 }
theorem bextra : Builder.Extra Tryz.prog bren := {
  sizeBuilder := by kernel_rfl
  liesBuilder := by kernel_rfl
  t5 := Tryz.underlying5
  a5 := Tryz.isAgg5
  z5 := Tryz.sizeOf5
  v5 := Tryz.zeroValue5
  infoByte := by kernel_rfl
  cellsByte := by kernel_rfl
  sizeByte := by kernel_rfl
  neB5 := by decide }
open Go.RowKit
/-- A builder of the call's own with the bytes l. -/
def Bld (w0 : World) (B b : Nat) (l : List UInt8) (w : World) : Prop := Lib.IsBuilderF 81 5 B b (Lib.byteCells l) w ∧ Below B w0 w ∧ B ≤ w0.heap.size
theorem Bld.bl {w0 w : World} {B b : Nat} {l : List UInt8} (h : Bld w0 B b l w) : Below B w0 w := h.2.1
theorem Bld.str {w0 w : World} {B b : Nat} {l : List UInt8} (h : Bld w0 B b l w) (s : ByteArray) (hl : l.length + s.size ≤ 140737488355328) :
    Calls Tryz.prog 49 #[.pointer (some ⟨b, 0, none⟩), .string s] w fun e w' => e = .returned (.tuple #[.int .i64 s.size, .nilIface]) ∧ Bld w0 B b (l ++ s.data.toList) w' := by
  obtain ⟨h1, h2, h3⟩ := h
  refine (Any.Builder_WriteString_k blays166 bextra B b (Lib.byteCells l) s w h1 (by simpa [Lib.byteCells] using hl) (Nat.le_trans h3 h2.size)).mono ?_
  rintro e w' ⟨rfl, h4, h5, _⟩
  refine ⟨rfl, .inr ?_, h2.trans h5, h3⟩
  have e1 : Lib.byteCells (l ++ s.data.toList) = Lib.byteCells l ++ Lib.strCells s := by simp [Lib.byteCells, Lib.strCells]
  rw [e1]; exact h4
theorem Bld.read {w0 w : World} {B b : Nat} {l : List UInt8} (h : Bld w0 B b l w) :
    Calls Tryz.prog 51 #[.pointer (some ⟨b, 0, none⟩)] w fun e w' => e = .returned (.string ⟨l.toArray⟩) ∧ Bld w0 B b l w' := by
  obtain ⟨h1, h2, h3⟩ := h
  refine (Tryz.Builder_String_any_k B b l w h1 (Nat.le_trans h3 h2.size)).mono ?_
  rintro e w' ⟨rfl, h4, h5, _⟩
  exact ⟨rfl, h4, h2.trans h5, h3⟩
theorem Bld.grow {w0 w w' : World} {B b : Nat} {l : List UInt8} (h : Bld w0 B b l w) (hb : Below w.heap.size w w') : Bld w0 B b l w' := by
  obtain ⟨h1, h2, h3⟩ := h
  refine ⟨?_, h2.trans (hb.mono (Nat.le_trans h3 h2.size)), h3⟩
  have go : ∀ p, Lib.BuilderAtF 81 5 B b p (Lib.byteCells l) w → Lib.BuilderAtF 81 5 B b p (Lib.byteCells l) w' := by
    rintro p ⟨k1, v, k2, ⟨k3, k4⟩, k5⟩
    refine ⟨k1, v, (hb.block b (Array.getElem?_eq_some_iff.1 k2).1).trans k2, ⟨k3, ?_⟩, k5⟩
    rcases k4 with k4 | ⟨g, cap, cur, fz, j1, j2, j3, j4⟩
    · exact .inl k4
    · exact .inr ⟨g, cap, cur, fz, j1, j2, (hb.block g (Array.getElem?_eq_some_iff.1 j3).1).trans j3, j4⟩
  exact h1.imp (go _) (go _)
theorem Bld.new (w0 w : World) (B : Nat) (hb : Below B w0 w) (hB : B ≤ w0.heap.size) : Bld w0 B w.heap.size [] (w.alloc (.cells #[.pointer none, .slice none 0 0] 81)) := by
  refine ⟨.inl ⟨Nat.le_trans hB hb.size, .slice none 0 0, (by show (w.heap.push _)[w.heap.size]? = _; simp), ?_, by simp [Value.ownBlock]⟩, hb.alloc (Nat.le_trans hB hb.size) _, hB⟩
  exact ⟨rfl, .inl ⟨rfl, rfl⟩⟩
end Go.Proofs.YthfjaaigncjhlaaGreatDoor
