/- A change of a journal: what is found on the disk behind it, also when the power fails in the middle. No condition. -/
import Derived.Test.YthfjaaigncjhlaaGreatDoorJnR
namespace Go.Jn
open Go Go.Dk

theorem splice_nil (st : List UInt8) (o : Nat) : splice8 st o [] = st := by unfold splice8; simp
theorem sec_splice_part {st t : List UInt8} {s : Nat} (ht : t.length ≤ 32) (h : 32 * s + 32 ≤ st.length) : sec (splice8 st (32 * s) t) s = t ++ (sec st s).drop t.length := by
  apply List.ext_getElem?
  intro i
  by_cases hi : i < 32
  · rw [sec_at hi, splice_at (by omega)]
    by_cases h1 : i < t.length
    · rw [if_pos (by omega), List.getElem?_append_left h1]
      congr 1; omega
    · rw [if_neg (by omega), List.getElem?_append_right (by omega), List.getElem?_drop, sec_at (by omega)]
      congr 1; omega
  · rw [List.getElem?_eq_none (by unfold sec; rw [List.length_take]; omega), List.getElem?_eq_none]
    rw [List.length_append, List.length_drop, sec_len h]; omega
theorem settled_one {st t : List UInt8} {s ws bs : Nat} {q : List (Nat × List UInt8)} (hq : q <+: [(s, t)]) (hb : bs ≤ 32) (ht : t.length = 32) : ∃ k, k ≤ 32 ∧ settled st q ws bs = splice8 st (32 * s) (t.take k) := by
  obtain ⟨r, hr⟩ := hq
  cases q with
  | nil => exact ⟨0, by decide, by rw [List.take_zero, splice_nil]; rfl⟩
  | cons x q =>
    have e : x = (s, t) ∧ q = [] := by
      simp at hr
      exact ⟨hr.1, hr.2.1⟩
    obtain ⟨rfl, rfl⟩ := e
    unfold settled
    show ∃ k, k ≤ 32 ∧ sAt st [(s, t)] ws bs 1 = _
    unfold sAt
    show ∃ k, k ≤ 32 ∧ (if 0 < ws then splice8 st (32 * s) t else if 0 = ws then splice8 st (32 * s) (t.take bs) else st) = _
    by_cases h : 0 < ws
    · exact ⟨32, by decide, by rw [if_pos h, List.take_of_length_le (by omega)]⟩
    · exact ⟨bs, hb, by rw [if_neg h, if_pos (by omega)]⟩
theorem parse_zero {s : List UInt8} {room : Nat} (h : s[0]? = some 0) : parseV s room = none := by
  unfold parseV
  split
  · have : digsL (s.take 9) = none := digsGo_bad _ _ 0 (List.mem_iff_getElem?.2 ⟨0, by rw [List.getElem?_take, if_pos (by decide)]; exact h⟩) (by decide)
    rw [this]
  · rfl
/-- The commit sector of the present value has it, or the disk is as it was new. -/
def Firm (n : Nat) (st : List UInt8) (v : Nat × Nat × Nat) (a : Nat) : Prop := parseV (sec st a) (32 * ((n - 2) / 2)) = some v ∨ (a = 0 ∧ v = (0, 0, 0) ∧ sec st 0 = blankL)
theorem pres_cases {a b : List UInt8} {room : Nat} {v : Nat × Nat × Nat} {at_ : Nat} (h : presV a b room = some (v, at_)) :
    (at_ = 0 ∧ parseV a room = some v) ∨ (at_ = 1 ∧ parseV b room = some v) ∨ (at_ = 0 ∧ v = (0, 0, 0) ∧ parseV a room = none ∧ parseV b room = none) := by
  unfold presV at h
  cases ha : parseV a room with
  | none =>
    cases hb : parseV b room with
    | none =>
      rw [ha, hb] at h
      simp only at h
      split at h
      · cases h; exact .inr (.inr ⟨rfl, rfl, rfl, rfl⟩)
      · cases h
    | some w =>
      rw [ha, hb] at h
      cases h; exact .inr (.inl ⟨rfl, rfl⟩)
  | some u =>
    cases hb : parseV b room with
    | none =>
      rw [ha, hb] at h
      cases h; exact .inl ⟨rfl, rfl⟩
    | some w =>
      rw [ha, hb] at h
      simp only at h
      split at h
      · cases h; exact .inl ⟨rfl, rfl⟩
      · cases h; exact .inr (.inl ⟨rfl, rfl⟩)
theorem pres_at {a b : List UInt8} {room : Nat} {v : Nat × Nat × Nat} {at_ : Nat} (h : presV a b room = some (v, at_)) : at_ = 0 ∨ at_ = 1 := by
  rcases pres_cases h with h | h | h
  · exact .inl h.1
  · exact .inr h.1
  · exact .inl h.1
theorem parse_range {s : List UInt8} {room : Nat} {v : Nat × Nat × Nat} (h : parseV s room = some v) : v.2.1 ≤ 1 ∧ v.2.2 ≤ room := by
  unfold parseV at h
  split at h
  · split at h
    · cases h
    · split at h
      · cases h
      · split at h
        · split at h
          · cases h
          · split at h
            · cases h; exact ⟨by assumption, by assumption⟩
            · cases h
        · cases h
  · cases h
theorem pres_range {a b : List UInt8} {room : Nat} {v : Nat × Nat × Nat} {at_ : Nat} (h : presV a b room = some (v, at_)) : v.2.1 ≤ 1 ∧ v.2.2 ≤ room := by
  rcases pres_cases h with h | h | h
  · exact parse_range h.2
  · exact parse_range h.2
  · rw [h.2.1]; exact ⟨Nat.zero_le _, Nat.zero_le _⟩
/-- A new value in the other sector is the present one. -/
theorem pres_new {st st' : List UInt8} {room : Nat} {v w : Nat × Nat × Nat} {a : Nat} (h : presV (sec st 0) (sec st 1) room = some (v, a)) (hk : sec st' a = sec st a) (hn : parseV (sec st' (1 - a)) room = some w) (hw : w.1 = v.1 + 1) : presV (sec st' 0) (sec st' 1) room = some (w, 1 - a) := by
  rcases pres_cases h with ⟨rfl, hv⟩ | ⟨rfl, hv⟩ | ⟨rfl, hz, hv, _⟩
  · rw [hk]
    unfold presV
    rw [hv, show parseV (sec st' 1) room = some w from hn]
    simp only
    rw [if_neg (by omega)]
  · rw [hk]
    unfold presV
    rw [hv, show parseV (sec st' 0) room = some w from hn]
    simp only
    rw [if_pos (by omega)]
  · rw [hk]
    unfold presV
    rw [hv, show parseV (sec st' 1) room = some w from hn]
/-- Without a value in the other sector the present one stays. -/
theorem pres_keep {n : Nat} {st st' : List UInt8} {v : Nat × Nat × Nat} {a : Nat} (h : presV (sec st 0) (sec st 1) (32 * ((n - 2) / 2)) = some (v, a)) (hf : Firm n st v a) (hk : sec st' a = sec st a) (hn : parseV (sec st' (1 - a)) (32 * ((n - 2) / 2)) = none) : presV (sec st' 0) (sec st' 1) (32 * ((n - 2) / 2)) = some (v, a) := by
  rcases pres_at h with rfl | rfl
  · rw [hk]
    unfold presV
    rw [show parseV (sec st' 1) (32 * ((n - 2) / 2)) = none from hn]
    rcases hf with hf | ⟨_, hv, hf⟩
    · rw [hf]
    · rw [hf, show parseV blankL (32 * ((n - 2) / 2)) = none from parse_blank _]
      simp only
      rw [if_pos (.inl rfl), hv]
  · rw [hk]
    unfold presV
    rw [show parseV (sec st' 0) (32 * ((n - 2) / 2)) = none from hn]
    rcases hf with hf | ⟨h0, _⟩
    · rw [hf]
    · cases h0
theorem Firm.keep {n : Nat} {st st' : List UInt8} {v : Nat × Nat × Nat} {a : Nat} (hf : Firm n st v a) (hk : sec st' a = sec st a) : Firm n st' v a := by
  rcases hf with hf | ⟨rfl, hv, hf⟩
  · exact .inl (by rw [hk]; exact hf)
  · exact .inr ⟨rfl, hv, by rw [hk]; exact hf⟩
theorem sec_agree {st st' : List UInt8} {s : Nat} (h : ∀ q, 32 * s ≤ q → q < 32 * s + 32 → st'[q]? = st[q]?) : sec st' s = sec st s := by
  apply List.ext_getElem?
  intro i
  by_cases hi : i < 32
  · rw [sec_at hi, sec_at hi]; exact h _ (by omega) (by omega)
  · unfold sec
    rw [List.getElem?_take, List.getElem?_take, if_neg hi, if_neg hi]
theorem half_agree {st st' : List UInt8} {size h len : Nat} (hq : ∀ q, 32 * (2 + h * size) ≤ q → q < 32 * (2 + h * size) + len → st'[q]? = st[q]?) : half st' size h len = half st size h len := by
  apply List.ext_getElem?
  intro i
  by_cases hi : i < len
  · rw [half_at hi, half_at hi]; exact hq _ (by omega) (by omega)
  · unfold half
    rw [List.getElem?_take, List.getElem?_take, if_neg hi, if_neg hi]
end Go.Jn
