/- The plain laws of a disk: what a failure leaves of the sectors. No condition. -/
import Derived.Test.YtkccfmaimpnbcaaDl2
namespace Go.Proofs.Ytkccfmaimpnbcaa
open Go.RowKit Go.Blk Go.Dk Go.Mp Go.Opn

/-- The disk after operations. -/
def runA (n : Nat) (d : DD) : List Act44 → DD
  | [] => d
  | a :: r => runA n (actD n d a) r
theorem runA_snoc (n : Nat) (l : List Act44) (a : Act44) : ∀ d, runA n d (l ++ [a]) = actD n (runA n d l) a := by
  induction l with
  | nil => intro d; rfl
  | cons x r ih => intro d; exact ih _
theorem take_snoc' {α : Type} {l : List α} {k : Nat} {x : α} (h : l[k]? = some x) : l.take (k + 1) = l.take k ++ [x] := by
  obtain ⟨hk, rfl⟩ := List.getElem?_eq_some_iff.1 h
  rw [List.take_succ_eq_append_getElem hk]
theorem fail_pend (d : DD) (x y : Int) : (d.fail x y).pend.length ≤ d.pend.length := by unfold DD.fail; split <;> simp
theorem tick_len (d : DD) : d.tick.pend.length = d.pend.length := by unfold DD.tick; split <;> rfl
theorem write_pend (n : Nat) (d : DD) (x : Int) (t : List UInt8) : (DD.write n d x t).1.pend.length ≤ d.pend.length + 1 := by
  unfold DD.write
  split
  · split
    · split
      · have := fail_pend (d.push x t) d.writes d.bytes
        simp [DD.push] at this ⊢; omega
      · simp only [tick_len]; simp [DD.push]
    · simp
  · simp
theorem sync_pend (d : DD) : d.sync.1.pend.length ≤ d.pend.length + 1 := by
  unfold DD.sync
  split
  · split
    · have := fail_pend d d.writes d.bytes; simp only; omega
    · simp
  · simp
theorem actD_pend (n : Nat) (d : DD) (a : Act44) : (actD n d a).pend.length ≤ d.pend.length + 1 := by
  unfold actD
  split
  · exact write_pend _ _ _ _
  · split
    · exact sync_pend d
    · split
      · have := fail_pend d a.sector a.bytes; omega
      · split
        · simp [DD.start]
        · split
          · unfold DD.arm; split <;> simp
          · omega
/-- The writes that succeed on a disk that is on and not armed. -/
def okW (n : Nat) (a : Act44) : Option (Nat × List UInt8) :=
  if DD.hasB n a.sector ∧ (actText a.text a.odd).size = 32 then some (a.sector.toNat, (actText a.text a.odd).data.toList) else none
def wrs (n : Nat) (l : List Act44) : List (Nat × List UInt8) := l.filterMap (okW n)
theorem wrs_snoc (n : Nat) (l : List Act44) (a : Act44) : wrs n (l ++ [a]) = wrs n l ++ (okW n a).toList := by
  unfold wrs
  rw [List.filterMap_append]
  cases h : okW n a <;> simp [h]
theorem wrs_len (n : Nat) (l : List Act44) : (wrs n l).length ≤ l.length := List.length_filterMap_le _ _
theorem write_plain {n : Nat} {d : DD} (hon : d.on = true) (harm : d.armed = false) (a : Act44) :
    DD.write n d a.sector (actText a.text a.odd).data.toList = (match okW n a with | some x => ({ d with pend := d.pend ++ [x] }, 0) | none => (d, 1)) := by
  have hl : (actText a.text a.odd).data.toList.length = (actText a.text a.odd).size := by simp
  unfold DD.write okW
  rw [if_pos hon, hl]
  by_cases h : DD.hasB n a.sector = true ∧ (actText a.text a.odd).size = 32
  · rw [if_pos h, if_pos h]
    have hf : d.failsB = false := by simp [DD.failsB, harm]
    rw [hf]
    simp [DD.push, DD.tick, harm]
  · rw [if_neg h, if_neg h]
theorem okW_some {n : Nat} {a : Act44} {x : Nat × List UInt8} (h : okW n a = some x) : 0 ≤ a.sector ∧ a.sector < n ∧ x.1 = a.sector.toNat ∧ x.2 = (actText a.text a.odd).data.toList ∧ x.2.length = 32 := by
  unfold okW at h
  split at h
  · rename_i hc
    simp only [Option.some.injEq] at h
    subst h
    have := hc.1
    simp [DD.hasB] at this
    exact ⟨this.1, this.2, rfl, rfl, by simpa using hc.2⟩
  · cases h
/-- The bytes of a sector. -/
def slc (l : List UInt8) (s : Nat) : List UInt8 := (l.drop (32 * s)).take 32
theorem slc_same {l t : List UInt8} {s n : Nat} (hl : l.length = 32 * n) (hs : s < n) (ht : t.length ≤ 32) : slc (splice8 l (32 * s) t) s = t ++ (slc l s).drop t.length := by
  unfold slc splice8
  have h1 : (l.take (32 * s)).length = 32 * s := by simp; omega
  have h2 : ((l.take (32 * s)) ++ (t ++ l.drop (32 * s + t.length))).drop (32 * s) = t ++ l.drop (32 * s + t.length) := by
    have := List.drop_left (l₁ := l.take (32 * s)) (l₂ := t ++ l.drop (32 * s + t.length))
    rwa [h1] at this
  rw [h2, List.take_append, List.take_of_length_le ht]
  congr 1
  rw [List.drop_take, List.drop_drop]
theorem slc_other {l t : List UInt8} {s r n : Nat} (hl : l.length = 32 * n) (hs : s < n) (hne : r ≠ s) (ht : t.length ≤ 32) : slc (splice8 l (32 * s) t) r = slc l r := by
  unfold slc
  apply List.ext_getElem?
  intro i
  simp only [List.getElem?_take]
  split
  · rename_i hi
    rw [List.getElem?_drop, List.getElem?_drop]
    unfold splice8
    by_cases hlt : r < s
    · rw [List.getElem?_append_left (by simp; omega), List.getElem?_take, if_pos (by omega)]
    · have hgt : 32 * s + 32 ≤ 32 * r := by omega
      rw [List.getElem?_append_right (by simp; omega), List.getElem?_append_right (by simp; omega), List.getElem?_drop]
      congr 1
      simp
      omega
  · rfl
/-- A sector that no pending write concerns stays. -/
theorem sAt_other {n : Nat} {st : List UInt8} {p : List (Nat × List UInt8)} (ws tb : Nat) (hl : st.length = 32 * n) (hp : ∀ (i : Nat) x, p[i]? = some x → x.1 < n ∧ x.2.length = 32) {r : Nat} (hne : ∀ x ∈ p, x.1 ≠ r) : ∀ k, slc (sAt st p ws tb k) r = slc st r
  | 0 => rfl
  | k + 1 => by
    have ih := sAt_other ws tb hl hp hne k
    have hlk := sAt_len ws tb hl hp k
    unfold sAt
    cases hx : p[k]? with
    | none => exact ih
    | some x =>
      obtain ⟨h1, h2⟩ := hp k x hx
      have h3 := hne x (List.mem_of_getElem? hx)
      simp only
      split
      · rw [slc_other hlk h1 (Ne.symm h3) (by omega)]; exact ih
      · split
        · rw [slc_other hlk h1 (Ne.symm h3) (by rw [List.length_take]; omega)]; exact ih
        · exact ih
theorem text_plain {d : DD} (h : d.pend = []) (s : Nat) : d.text s = slc d.st s := by unfold DD.text; rw [h]; rfl
/-- P44.2: what a failure leaves of a sector that was not written. -/
theorem stable_law {n : Nat} {d : DD} (h : d.Ok n) (hon : d.on = true) (x y : Int) {s : Nat} (hne : ∀ z ∈ d.pend, z.1 ≠ s) : (d.fail x y).start.text s = slc d.st s := by
  have e : d.fail x y = { d with on := false, st := settled d.st d.pend (clampW x) (clampB y), pend := [], armed := false } := by simp [DD.fail, hon]
  rw [e, text_plain rfl]
  exact sAt_other _ _ h.len h.sec hne _
end Go.Proofs.Ytkccfmaimpnbcaa
