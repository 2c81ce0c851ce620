/- A journal's stores on the bytes of a disk, plainly. No condition. -/
import Derived.Test.YthfjaaigncjhlaaGreatDoorJnP
import Derived.Test.YthfjaaigncjhlaaGreatDoorDkP
namespace Go.Jn
open Go Go.Dk

/-- The contents of a sector. -/
def sec (st : List UInt8) (s : Nat) : List UInt8 := (st.drop (32 * s)).take 32
theorem splice_at {l t : List UInt8} {o : Nat} (h : o + t.length ≤ l.length) (p : Nat) : (splice8 l o t)[p]? = if o ≤ p ∧ p < o + t.length then t[p - o]? else l[p]? := by
  unfold splice8
  by_cases h1 : p < o
  · rw [if_neg (by omega), List.getElem?_append_left (by rw [List.length_take]; omega), List.getElem?_take, if_pos h1]
  · rw [List.getElem?_append_right (by rw [List.length_take]; omega), List.length_take, Nat.min_eq_left (by omega)]
    by_cases h2 : p < o + t.length
    · rw [if_pos ⟨by omega, h2⟩, List.getElem?_append_left (by omega)]
    · rw [if_neg (by omega), List.getElem?_append_right (by omega), List.getElem?_drop]
      congr 1; omega
/-- The bytes of a sector with those of a text, which begins at an offset, in their places. -/
def patch (t : List UInt8) (start off : Nat) (text : List UInt8) : List UInt8 := t.mapIdx (fun i b => if off ≤ start + i ∧ start + i < off + text.length then text.getD (start + i - off) b else b)
theorem patch_len (t : List UInt8) (start off : Nat) (text : List UInt8) : (patch t start off text).length = t.length := by unfold patch; simp
theorem patch_at (t : List UInt8) (start off : Nat) (text : List UInt8) (i : Nat) (hi : i < t.length) : (patch t start off text)[i]? = if off ≤ start + i ∧ start + i < off + text.length then text[start + i - off]? else t[i]? := by
  unfold patch
  rw [List.getElem?_mapIdx, List.getElem?_eq_getElem hi]
  by_cases h : off ≤ start + i ∧ start + i < off + text.length
  · simp only [Option.map_some]
    rw [if_pos h, if_pos h, List.getD_eq_getElem?_getD, List.getElem?_eq_getElem (by omega)]; rfl
  · simp only [Option.map_some]
    rw [if_neg h, if_neg h]
theorem sec_len {st : List UInt8} {s : Nat} (h : 32 * s + 32 ≤ st.length) : (sec st s).length = 32 := by unfold sec; rw [List.length_take, List.length_drop]; omega
theorem sec_at {st : List UInt8} {s i : Nat} (h : i < 32) : (sec st s)[i]? = st[32 * s + i]? := by unfold sec; rw [List.getElem?_take, if_pos h, List.getElem?_drop]
/-- The bytes when the first m sectors from k0 on have been stored. -/
def stAt (st : List UInt8) (base k0 off : Nat) (text : List UInt8) : Nat → List UInt8
  | 0 => st
  | m + 1 => splice8 (stAt st base k0 off text m) (32 * (base + (k0 + m))) (patch (sec st (base + (k0 + m))) (32 * (k0 + m)) off text)
theorem stAt_len {st : List UInt8} {base k0 off : Nat} {text : List UInt8} : ∀ m, 32 * (base + (k0 + m)) ≤ st.length → (stAt st base k0 off text m).length = st.length
  | 0, _ => rfl
  | m + 1, h => by
    have ih := stAt_len (st := st) (base := base) (k0 := k0) (off := off) (text := text) m (by omega)
    show (splice8 _ _ _).length = _
    rw [splice8_len, ih]
    rw [patch_len, sec_len (by omega), ih]; omega
theorem stAt_at {st : List UInt8} {base k0 off : Nat} {text : List UInt8} : ∀ m, 32 * (base + (k0 + m)) ≤ st.length → ∀ p, (stAt st base k0 off text m)[p]? =
    if (32 * (base + k0) ≤ p ∧ p < 32 * (base + (k0 + m))) ∧ 32 * base + off ≤ p ∧ p < 32 * base + off + text.length then text[p - (32 * base + off)]? else st[p]?
  | 0, _, p => by rw [if_neg (by omega)]; rfl
  | m + 1, h, p => by
    have hl := stAt_len (st := st) (base := base) (k0 := k0) (off := off) (text := text) m (by omega)
    have ih := stAt_at (st := st) (base := base) (k0 := k0) (off := off) (text := text) m (by omega) p
    have hs : (sec st (base + (k0 + m))).length = 32 := sec_len (by omega)
    show (splice8 _ _ _)[p]? = _
    rw [splice_at (by rw [patch_len, hs, hl]; omega), patch_len, hs]
    by_cases h1 : 32 * (base + (k0 + m)) ≤ p ∧ p < 32 * (base + (k0 + m)) + 32
    · rw [if_pos h1, patch_at _ _ _ _ _ (by omega)]
      by_cases h2 : 32 * base + off ≤ p ∧ p < 32 * base + off + text.length
      · rw [if_pos (by omega), if_pos (by omega)]
        congr 1; omega
      · rw [if_neg (by omega), if_neg (by omega), sec_at (by omega)]
        congr 1; omega
    · rw [if_neg h1, ih]
      by_cases h2 : (32 * (base + k0) ≤ p ∧ p < 32 * (base + (k0 + m))) ∧ 32 * base + off ≤ p ∧ p < 32 * base + off + text.length
      · rw [if_pos h2, if_pos (by omega)]
      · rw [if_neg h2, if_neg (by omega)]
/-- All sectors that have a byte of the text: the text lies in its place. -/
theorem stAt_all {st : List UInt8} {base off : Nat} {text : List UInt8} (hb : 32 * base + off + text.length ≤ st.length) (hs : 32 * (base + (off + text.length + 31) / 32) ≤ st.length) :
    stAt st base (off / 32) off text ((off + text.length + 31) / 32 - off / 32) = splice8 st (32 * base + off) text := by
  apply List.ext_getElem?
  intro p
  have e : off / 32 + ((off + text.length + 31) / 32 - off / 32) = (off + text.length + 31) / 32 := by omega
  rw [stAt_at _ (by rw [e]; exact hs), splice_at hb, e]
  by_cases h : 32 * base + off ≤ p ∧ p < 32 * base + off + text.length
  · rw [if_pos (by omega), if_pos h]
  · rw [if_neg (by omega), if_neg h]
theorem sec_splice_other {st t : List UInt8} {o s : Nat} (h : o + t.length ≤ st.length) (hd : 32 * s + 32 ≤ o ∨ o + t.length ≤ 32 * s) : sec (splice8 st o t) s = sec st s := by
  apply List.ext_getElem?
  intro i
  by_cases hi : i < 32
  · rw [sec_at hi, sec_at hi, splice_at h, if_neg (by omega)]
  · unfold sec
    rw [List.getElem?_take, List.getElem?_take, if_neg hi, if_neg hi]
theorem sec_splice_same {st t : List UInt8} {s : Nat} (ht : t.length = 32) (h : 32 * s + 32 ≤ st.length) : sec (splice8 st (32 * s) t) s = t := by
  apply List.ext_getElem?
  intro i
  by_cases hi : i < 32
  · rw [sec_at hi, splice_at (by omega), if_pos (by omega)]
    congr 1; omega
  · unfold sec
    rw [List.getElem?_take, if_neg hi, List.getElem?_eq_none (by omega)]
/-- What is in the halves. -/
def half (st : List UInt8) (size h len : Nat) : List UInt8 := (st.drop (32 * (2 + h * size))).take len
theorem half_at {st : List UInt8} {size h len i : Nat} (hi : i < len) : (half st size h len)[i]? = st[32 * (2 + h * size) + i]? := by unfold half; rw [List.getElem?_take, if_pos hi, List.getElem?_drop]
theorem half_other {st t : List UInt8} {size h len o : Nat} (hb : o + t.length ≤ st.length) (hd : 32 * (2 + h * size) + len ≤ o ∨ o + t.length ≤ 32 * (2 + h * size)) : half (splice8 st o t) size h len = half st size h len := by
  apply List.ext_getElem?
  intro i
  by_cases hi : i < len
  · rw [half_at hi, half_at hi, splice_at hb, if_neg (by omega)]
  · unfold half
    rw [List.getElem?_take, List.getElem?_take, if_neg hi, if_neg hi]
/-- A half with a text stored at the end of what it has. -/
theorem half_store {st t : List UInt8} {size h len : Nat} (hb : 32 * (2 + h * size) + len + t.length ≤ st.length) : half (splice8 st (32 * (2 + h * size) + len) t) size h (len + t.length) = half st size h len ++ t := by
  have hl : (half st size h len).length = len := by unfold half; rw [List.length_take, List.length_drop]; omega
  apply List.ext_getElem?
  intro i
  by_cases hi : i < len + t.length
  · rw [half_at hi, splice_at hb]
    by_cases h1 : i < len
    · rw [if_neg (by omega), List.getElem?_append_left (by omega), half_at h1]
    · rw [if_pos (by omega), List.getElem?_append_right (by omega), hl]
      congr 1; omega
  · unfold half
    rw [List.getElem?_take, if_neg hi, List.getElem?_eq_none]
    rw [List.length_append, List.length_take, List.length_drop]; omega

/-- The present value and its sector, by the two commit sectors. -/
def presV (a b : List UInt8) (room : Nat) : Option ((Nat × Nat × Nat) × Nat) :=
  match parseV a room, parseV b room with
  | some v, none => some (v, 0)
  | some v, some w => if w.1 ≤ v.1 then some (v, 0) else some (w, 1)
  | none, some w => some (w, 1)
  | none, none => if a = List.replicate 32 0 ∨ b = List.replicate 32 0 then some ((0, 0, 0), 0) else none
/-- What is found on a disk of n sectors with these bytes. -/
structure Found (n : Nat) (st : List UInt8) (v : Nat × Nat × Nat) (a : Nat) (recs : List (List UInt8)) : Prop where
  pres : presV (sec st 0) (sec st 1) (32 * ((n - 2) / 2)) = some (v, a)
  split : splitL (half st ((n - 2) / 2) v.2.1 v.2.2) = some recs
end Go.Jn
