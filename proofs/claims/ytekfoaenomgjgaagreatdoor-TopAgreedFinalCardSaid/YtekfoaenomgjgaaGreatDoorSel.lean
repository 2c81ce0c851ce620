/- An element of a row of structs written as a whole; a row made with a length. No condition. -/
import Derived.Test.YtekfoaenomgjgaaGreatDoorYB
import Derived.Laws.OwnMore
import Derived.Laws.MakeOwn
import Derived.Below
import Derived.WalkKit
set_option linter.unusedSimpArgs false
set_option linter.unusedVariables false
namespace Go.Sel
open Go Go.RowKit

section
variable {α : Type} {enc : α → List Value} {sz : Nat}
theorem flat_len (hl : ∀ x, (enc x).length = sz) : ∀ es : List α, (es.flatMap enc).length = es.length * sz
 | [] => by simp
 | e :: r => by rw [List.flatMap_cons, List.length_append, hl, flat_len hl r, List.length_cons, Nat.add_mul, Nat.one_mul]; omega
theorem flat_at (hl : ∀ x, (enc x).length = sz) : ∀ {es : List α} {k p : Nat} {e : α} {u : Value}, es[k]? = some e → (enc e)[p]? = some u → (es.flatMap enc)[k * sz + p]? = some u
 | [], k, _, _, _, h, _ => by simp at h
 | x :: r, 0, p, e, u, h, hu => by
  simp at h; subst h
  rw [List.flatMap_cons, Nat.zero_mul, Nat.zero_add, List.getElem?_append_left (List.getElem?_eq_some_iff.1 hu).1]; exact hu
 | x :: r, k + 1, p, e, u, h, hu => by
  rw [List.flatMap_cons, List.getElem?_append_right (by rw [hl, Nat.add_mul]; omega), hl, show (k + 1) * sz + p - sz = k * sz + p by rw [Nat.add_mul]; omega]
  exact flat_at hl (by simpa using h) hu
theorem flat_take (hl : ∀ x, (enc x).length = sz) (es : List α) (k : Nat) : (es.flatMap enc).take (k * sz) = (es.take k).flatMap enc := by
 induction es generalizing k with
 | nil => simp
 | cons e r ih =>
  cases k with
  | zero => simp
  | succ k => rw [List.flatMap_cons, List.take_succ_cons, List.flatMap_cons, List.take_append, hl, List.take_of_length_le (by rw [hl, Nat.add_mul]; omega), show (k + 1) * sz - sz = k * sz by rw [Nat.add_mul]; omega, ih]
theorem flat_drop (hl : ∀ x, (enc x).length = sz) (es : List α) (k : Nat) : (es.flatMap enc).drop (k * sz) = (es.drop k).flatMap enc := by
 induction es generalizing k with
 | nil => simp
 | cons e r ih =>
  cases k with
  | zero => simp
  | succ k => rw [List.flatMap_cons, List.drop_succ_cons, List.drop_append, hl, List.drop_of_length_le (by rw [hl, Nat.add_mul]; omega), show (k + 1) * sz - sz = k * sz by rw [Nat.add_mul]; omega, ih, List.nil_append]
theorem flat_set (hl : ∀ x, (enc x).length = sz) (es : List α) (k : Nat) (hk : k < es.length) (y : α) : (es.flatMap enc).take (k * sz) ++ enc y ++ (es.flatMap enc).drop ((k + 1) * sz) = (es.set k y).flatMap enc := by
 rw [flat_take hl, flat_drop hl, List.set_eq_take_append_cons_drop, if_pos hk, List.flatMap_append, List.flatMap_cons, List.append_assoc]
end
theorem made_flat {α : Type} {enc : α → List Value} {sz : Nat} (hl : ∀ x, (enc x).length = sz) (h0 : 0 < sz) (z : α) (n : Nat) : (madeCells (enc z).toArray (n * sz)).toList = (List.replicate n z).flatMap enc := by
 apply List.ext_getElem?
 intro j
 by_cases hj : j < n * sz
 ·have hq : j / sz < n := (Nat.div_lt_iff_lt_mul h0).2 hj
  have hm : j % sz < sz := Nat.mod_lt _ h0
  have e1 := flat_at hl (es := List.replicate n z) (k := j / sz) (p := j % sz) (e := z) (u := (enc z)[j % sz]'(by rw [hl]; exact hm)) (by simp [hq]) (List.getElem?_eq_getElem _)
  rw [show j / sz * sz + j % sz = j by rw [Nat.mul_comm]; exact Nat.div_add_mod j sz] at e1
  rw [e1, Array.getElem?_toList]
  unfold madeCells
  rw [Array.getElem?_map, Array.getElem?_range, if_pos hj]
  simp only [Option.map_some, List.size_toArray, hl]
  rw [getElem!_pos (enc z).toArray (j % sz) (by simp [hl]; exact hm)]
  simp
 ·rw [List.getElem?_eq_none (by rw [Array.length_toList, size_madeCells]; omega), List.getElem?_eq_none (by rw [flat_len hl]; simp; omega)]
theorem own_made {α : Type} {enc : α → List Value} {sz base : Nat} {T : TypeId} (hl : ∀ x, (enc x).length = sz) (h0 : 0 < sz) (z : α) (w : World) (n c : Nat) (hn : n ≤ c) (hc : c ≤ maxLen) (hb : base ≤ w.heap.size) :
  (w.alloc (.cells (madeCells (enc z).toArray (c * sz)) T)).ownsRow base T sz (.slice (some ⟨w.heap.size, 0, none⟩) n c) n ((List.replicate n z).flatMap enc) := by
 refine ⟨by rw [flat_len hl]; simp, .inr ⟨w.heap.size, c, _, rfl, hb, heap_alloc_new w _, hn, hc, size_madeCells _ _, ?_⟩⟩
 rw [made_flat hl h0, flat_take hl, List.take_replicate, Nat.min_eq_left hn]
/-- Cells of a list written one after the other. -/
def sets (xs : List Value) : Nat → List Value → List Value
 | _, [] => xs
 | o, v :: r => sets (xs.set o v) (o + 1) r
theorem sets_eq : ∀ (vs : List Value) (xs : List Value) (o : Nat), o + vs.length ≤ xs.length → sets xs o vs = xs.take o ++ vs ++ xs.drop (o + vs.length)
 | [], xs, o, _ => by simp [sets]
 | v :: r, xs, o, h => by
  rw [List.length_cons] at h
  rw [sets, sets_eq r _ _ (by simp; omega)]
  rw [List.take_add_one, List.take_set_of_le (Nat.le_refl o), List.getElem?_set_self (by omega), Option.toList_some, List.drop_set_of_lt (by omega)]
  simp only [List.append_assoc, List.cons_append, List.nil_append, List.length_cons]
  rw [show o + 1 + r.length = o + (r.length + 1) by omega]
theorem own_sets {base : Nat} {e : TypeId} {size g n cap : Nat} : ∀ (vs : List Value) (o : Nat) {w : World} {xs : List Value}, w.ownsRow base e size (.slice (some ⟨g, 0, none⟩) n cap) n xs →
  (w.setCells g o vs).ownsRow base e size (.slice (some ⟨g, 0, none⟩) n cap) n (sets xs o vs) ∧ w.grownBy (w.setCells g o vs) (some g)
 | [], o, w, xs, h => ⟨h, ⟨rfl, rfl, rfl, Nat.le_refl _, fun _ _ _ => rfl⟩⟩
 | v :: r, o, w, xs, h => by
  obtain ⟨h1, g1⟩ := h.stored o v
  obtain ⟨h2, g2⟩ := own_sets r (o + 1) h1
  refine ⟨h2, g2.os.trans g1.os, g2.tape.trans g1.tape, g2.output.trans g1.output, Nat.le_trans g1.size g2.size, fun k hk hn => ?_⟩
  have hz := g1.size
  rw [show w.setCells g o (v :: r) = (w.setCell ⟨g, o, none⟩ v).setCells g (o + 1) r from rfl, g2.block k (by omega) hn, g1.block k hk hn]
theorem size_setCells (g : Nat) : ∀ (vs : List Value) (o : Nat) (w : World), (w.setCells g o vs).heap.size = w.heap.size
 | [], _, _ => rfl
 | v :: r, o, w => by rw [World.setCells, size_setCells g r]; simp [World.setCell]
theorem set_same {α : Type} {l : List α} {k : Nat} {e : α} (h : l[k]? = some e) : l.set k e = l := by
 apply List.ext_getElem?
 intro j
 rw [List.getElem?_set]
 by_cases hj : k = j
 ·subst hj
  rw [h]; simp [(List.getElem?_eq_some_iff.1 h).1]
 ·rw [if_neg hj]
section
variable {P : Program} {α : Type} {enc : α → List Value} {sz base g cap : Nat} {T : TypeId} {w : World} {es : List α}
theorem own_there (hl : ∀ x, (enc x).length = sz) (h : w.ownsRow base T sz (.slice (some ⟨g, 0, none⟩) es.length cap) es.length (es.flatMap enc)) {k : Nat} (hk : k < es.length) : w.there g (k * sz) sz := fun j hj => by
 refine ⟨?_, h.frozenAt _⟩
 have hm : (k + 1) * sz ≤ es.length * sz := Nat.mul_le_mul_right _ hk
 rw [Nat.add_mul, Nat.one_mul] at hm
 rw [h.cellAt _ (by omega), List.getElem?_eq_getElem (by rw [flat_len hl]; omega)]
 rfl
/-- A whole struct into a place of a row of one's own. -/
theorem wpList_store_elem {ops : Array Oper} {rest : List Oper} {op : Oper} {a : Act} {Q : Exit → Act → World → Prop} (hgd : op.guard = none) (ty : TypeId) (x y : Operand) (ho : op.op = .store ty x y)
  (hl : ∀ x, (enc x).length = sz) (h1 : ∀ x, ∀ v ∈ enc x, v.oneCell' = true) (h : w.ownsRow base T sz (.slice (some ⟨g, 0, none⟩) es.length cap) es.length (es.flatMap enc)) (k : Nat) (hk : k < es.length) (e : α)
  (hx : a.eval x = .pointer (some ⟨g, k * sz, none⟩)) (hy : a.eval y = .agg (enc e).toArray) (hi : (P.info? ty).map (·.size) = some sz)
  (hK : ∀ w', w'.ownsRow base T sz (.slice (some ⟨g, 0, none⟩) es.length cap) es.length ((es.set k e).flatMap enc) → w.grownBy w' (some g) → w'.heap.size = w.heap.size → wpList P ops Q rest (a.put op.dst undef) w') : wpList P ops Q (op :: rest) a w := by
 refine wpList_store_mid hgd ty x y ho g (k * sz) _ hx hy (by rw [List.size_toArray, hl]; exact own_there hl h hk) (by rw [hi]; simp [hl]) (all_oneCell_toArray (h1 e)) ?_
 have hm : (k + 1) * sz ≤ es.length * sz := Nat.mul_le_mul_right _ hk
 obtain ⟨h2, g2⟩ := own_sets (enc e) (k * sz) h
 rw [sets_eq _ _ _ (by rw [hl, flat_len hl]; rw [Nat.add_mul, Nat.one_mul] at hm; exact hm), hl, show k * sz + sz = (k + 1) * sz by rw [Nat.add_mul, Nat.one_mul], flat_set hl es k hk e] at h2
 exact hK _ (by simpa using h2) (by simpa using g2) (by simpa using size_setCells g _ _ w)
theorem own_cell (hl : ∀ x, (enc x).length = sz)
  (h : w.ownsRow base T sz (.slice (some ⟨g, 0, none⟩) es.length cap) es.length (es.flatMap enc)) (k p : Nat) {e : α} (hk : es[k]? = some e) (e' : α) (u : Value) (hp : p < sz) (hs : (enc e).set p u = enc e') :
  (w.setCell ⟨g, k * sz + p, none⟩ u).ownsRow base T sz (.slice (some ⟨g, 0, none⟩) es.length cap) es.length ((es.set k e').flatMap enc) ∧ w.grownBy (w.setCell ⟨g, k * sz + p, none⟩ u) (some g) := by
 obtain ⟨h2, g2⟩ := h.stored (k * sz + p) u
 refine ⟨?_, g2⟩
 have hkl := (List.getElem?_eq_some_iff.1 hk).1
 have hm : (k + 1) * sz ≤ es.length * sz := Nat.mul_le_mul_right _ hkl
 rw [Nat.add_mul, Nat.one_mul] at hm
 have : (es.flatMap enc).set (k * sz + p) u = (es.set k e').flatMap enc := by
  rw [← flat_set hl es k hkl e', ← hs]
  have hsplit : es.flatMap enc = (es.flatMap enc).take (k * sz) ++ enc e ++ (es.flatMap enc).drop ((k + 1) * sz) := by
   rw [flat_set hl es k hkl e, set_same hk]
  have hlt : ((es.flatMap enc).take (k * sz)).length = k * sz := by rw [List.length_take, flat_len hl]; omega
  generalize (es.flatMap enc).take (k * sz) = A at hsplit hlt ⊢
  generalize (es.flatMap enc).drop ((k + 1) * sz) = B at hsplit ⊢
  rw [hsplit, List.append_assoc, List.set_append, if_neg (by omega), hlt, show k * sz + p - k * sz = p by omega, List.set_append, if_pos (by rw [hl]; exact hp), List.append_assoc]
 rw [← this]; exact h2
end
/-- A struct into a box that has just been made. -/
theorem store_box {P : Program} {T : TypeId} {cs : List Value} (hi : (P.info? T).map (·.size) = some cs.length) (hc1 : ∀ v ∈ cs, v.oneCell' = true) (s t : Nat) (W0 W1 : World) (b : Nat) (hb : b = W0.heap.size) (e1 : W1 = W0.alloc (.cells cs.toArray T))
  (Q : Exit → Act → World → Prop) (ops : Array Oper) (rest : List Oper) (o : Oper) (a : Act) (hgd : o.guard = none) (ho : o.op = .store T (.tmp s) (.tmp t)) (hx : a.eval (.tmp s) = .pointer (some ⟨b, 0, none⟩)) (hy : a.eval (.tmp t) = .agg cs.toArray) (old : Array Value) (hold : old.size = cs.length)
  (hk : wpList P ops Q rest (a.put o.dst undef) W1) : wpList P ops Q (o :: rest) a (W0.alloc (.cells old T)) := by
 rw [e1] at hk
 exact Hk.wpList_store_fresh hgd T (.tmp s) (.tmp t) ho b _ hx hy old T hb (by rw [hi]; simp) (by rw [hold]; simp) (all_oneCell_toArray hc1) hk
/-- A list that is being filled. -/
def part {α : Type} (xs : List α) (z : α) (k : Nat) : List α := xs.take k ++ List.replicate (xs.length - k) z
theorem part_len {α : Type} (xs : List α) (z : α) {k : Nat} (h : k ≤ xs.length) : (part xs z k).length = xs.length := by simp [part]; omega
theorem part_zero {α : Type} (xs : List α) (z : α) : part xs z 0 = List.replicate xs.length z := by simp [part]
theorem part_all {α : Type} (xs : List α) (z : α) {k : Nat} (h : xs.length ≤ k) : part xs z k = xs := by simp [part, List.take_of_length_le h, Nat.sub_eq_zero_of_le h]
theorem part_at {α : Type} (xs : List α) (z : α) {k : Nat} (h : k < xs.length) : (part xs z k)[k]? = some z := by
 unfold part
 rw [List.getElem?_append_right (by simp; omega), List.length_take, Nat.min_eq_left (by omega), Nat.sub_self, List.getElem?_replicate, if_pos (by omega)]
theorem part_set {α : Type} (xs : List α) (z : α) {k : Nat} {x : α} (h : xs[k]? = some x) : (part xs z k).set k x = part xs z (k + 1) := by
 have hl := (List.getElem?_eq_some_iff.1 h).1
 unfold part
 rw [List.set_append, if_neg (by simp; omega), List.length_take, Nat.min_eq_left (by omega), Nat.sub_self, List.take_add_one, h, Option.toList_some, show xs.length - k = (xs.length - (k + 1)) + 1 by omega, List.replicate_succ, List.set_cons_zero, List.append_assoc]
 rfl
/-! ### A slice of one's own as one number -/
def slN (x : Nat) : Option Addr × Nat := if x = 0 then (none, 0) else (some ⟨(x - 1) / 18446744073709551616, 0, none⟩, (x - 1) % 18446744073709551616)
theorem slN_ex {w : World} {base sz n c : Nat} {T : TypeId} {A : Option Addr} {xs : List Value} (h : w.ownsRow base T sz (.slice A n c) n xs) : ∃ x, slN x = (A, c) := by
 rcases h.2 with ⟨e, _⟩ | ⟨g, cap, cur, e, _, _, _, hm, _⟩
 ·injection e with e1 e2 e3
  exact ⟨0, by rw [e1, e3]; rfl⟩
 ·injection e with e1 e2 e3
  have hc : cap < 18446744073709551616 := by unfold maxLen at hm; omega
  refine ⟨g * 18446744073709551616 + cap + 1, ?_⟩
  unfold slN
  rw [if_neg (by omega), e1, e3]
  have h1 : (g * 18446744073709551616 + cap + 1 - 1) / 18446744073709551616 = g := by omega
  have h2 : (g * 18446744073709551616 + cap + 1 - 1) % 18446744073709551616 = cap := by omega
  rw [h1, h2]
end Go.Sel
