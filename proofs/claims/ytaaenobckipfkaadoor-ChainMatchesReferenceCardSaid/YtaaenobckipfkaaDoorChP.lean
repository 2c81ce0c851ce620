/- Arguments opened: an entry, a key of layer 31. No condition. -/
import Derived.Test.YtaaenobckipfkaaDoorChO
import Derived.Lib.SmallJoins
namespace Go.Proofs.YtaaenobckipfkaaDoor
open Go.RowKit Go.Blk Go.Opn Go.ChangeShapes Go.WideShapes Go.Deep Go.OpenShut

set_option maxRecDepth 100000 in
theorem open_entry {H : Type} {enc : TypeId × Value → H} {w : World} {base : Nat} {spare : Nat → Bool} {held : Bool} {v : Value} {d : DataW H} {ps : List MemPlace} {r : Reach} {b0 : Nat} (hv : Value.okWide Tryd.prog w r b0 37 v) (h : DataW.Trod enc Tryd.prog w base spare held 37 v d ps) :
    ∃ x : E31, v = .agg (encE x).toArray ∧ x.Ok := by
  obtain ⟨cs, rfl, hsz⟩ := okWide_struct Tryd.underlying37 hv
  rw [cellsEntry] at hsz
  obtain ⟨fuel, hf⟩ := h
  obtain ⟨a, ha, hcs⟩ := entry_of hf
  refine ⟨a, ?_, ha⟩
  congr 1
  apply Array.ext'
  show cs.toList = encE a
  apply List.ext_getElem?
  intro i
  by_cases hi : i < 7
  · obtain ⟨u, hu⟩ : ∃ u, (encE a)[i]? = some u := ⟨_, List.getElem?_eq_getElem (by rw [encE_len]; exact hi)⟩
    rw [hu]; exact hcs i u hu
  · rw [List.getElem?_eq_none (by simp; omega), List.getElem?_eq_none (by rw [encE_len]; omega)]
/-- A key of the statements. -/
structure K31 where
  house : Int
  secret : Int
  pub : Int
  day : Int
  body : ByteArray
def encK (k : K31) : List Value := [.int .i64 k.house, .int .i64 k.secret, .int .i64 k.pub, .int .i64 k.day, .string k.body]
structure K31.Ok (k : K31) : Prop where
  h0 : -9223372036854775808 ≤ k.house
  h1 : k.house ≤ 9223372036854775807
  d0 : -9223372036854775808 ≤ k.day
  d1 : k.day ≤ 9223372036854775807
  b1 : k.body.size ≤ 9223372036854775807
theorem cellsKey : Tryd.prog.cellsOf 48 = 5 := by kernel_rfl
set_option maxRecDepth 100000 in
theorem open_key {H : Type} {enc : TypeId × Value → H} {w : World} {base : Nat} {spare : Nat → Bool} {held : Bool} {v : Value} {d : DataW H} {ps : List MemPlace} {r : Reach} {b0 : Nat} (hv : Value.okWide Tryd.prog w r b0 48 v) (h : DataW.Trod enc Tryd.prog w base spare held 48 v d ps) :
    ∃ x : K31, v = .agg (encK x).toArray ∧ x.Ok := by
  obtain ⟨cs, rfl, hsz⟩ := okWide_struct Tryd.underlying48 hv
  rw [cellsKey] at hsz
  obtain ⟨fuel, hf⟩ := h
  obtain ⟨k, hk, wk⟩ := leaf_int (f := 3) (p := 0) Tryd.underlying3 (by kernel_rfl) hf
  obtain ⟨s, hs, ws⟩ := leaf_int (f := 3) (p := 1) Tryd.underlying3 (by kernel_rfl) hf
  obtain ⟨b, hb, wb⟩ := leaf_int (f := 3) (p := 2) Tryd.underlying3 (by kernel_rfl) hf
  obtain ⟨dd, hd, wd⟩ := leaf_int (f := 3) (p := 3) Tryd.underlying3 (by kernel_rfl) hf
  obtain ⟨t, ht, wt⟩ := leaf_string (f := 3) (p := 4) Tryd.underlying9 (by kernel_rfl) hf
  obtain ⟨k0, k1⟩ := bounds_i64 wk
  obtain ⟨d0, d1⟩ := bounds_i64 wd
  unfold maxLen at wt
  refine ⟨⟨k, s, b, dd, t⟩, ?_, ⟨k0, k1, d0, d1, wt⟩⟩
  congr 1
  apply Array.ext'
  show cs.toList = encK ⟨k, s, b, dd, t⟩
  apply List.ext_getElem?
  intro i
  match i with
  | 0 => exact hk
  | 1 => exact hs
  | 2 => exact hb
  | 3 => exact hd
  | 4 => exact ht
  | i + 5 => rw [List.getElem?_eq_none (by simp; omega), List.getElem?_eq_none (by simp [encK])]
end Go.Proofs.YtaaenobckipfkaaDoor
