/- Plain facts on the way from the root to a leaf. No condition. -/
import Derived.Test.YtamiaalfjmppaaaDoorDi3
namespace Go.Proofs.YtamiaalfjmppaaaDoor
open Go.Di

/-- The leaves that are left behind some levels. -/
def restP (l : List ByteArray) : List (Nat × Bool) → List ByteArray
  | [] => l
  | x :: p => restP (if x.2 then l.take x.1 else l.drop x.1) p
/-- The digests of the other parts, from the root on. -/
def outP (l : List ByteArray) : List (Nat × Bool) → List ByteArray
  | [] => []
  | x :: p => rootL (if x.2 then l.drop x.1 else l.take x.1) :: outP (if x.2 then l.take x.1 else l.drop x.1) p
theorem restP_snoc (x : Nat × Bool) : ∀ (pre : List (Nat × Bool)) (l : List ByteArray), restP l (pre ++ [x]) = if x.2 then (restP l pre).take x.1 else (restP l pre).drop x.1
  | [], _ => rfl
  | _ :: p, _ => restP_snoc x p _
theorem outP_snoc (x : Nat × Bool) : ∀ (pre : List (Nat × Bool)) (l : List ByteArray), outP l (pre ++ [x]) = outP l pre ++ [rootL (if x.2 then (restP l pre).drop x.1 else (restP l pre).take x.1)]
  | [], _ => rfl
  | _ :: p, _ => by
    show _ :: outP _ (p ++ [x]) = _ :: (outP _ p ++ _)
    rw [outP_snoc x p]; rfl
theorem outP_length : ∀ (pre : List (Nat × Bool)) (l : List ByteArray), (outP l pre).length = pre.length
  | [], _ => rfl
  | _ :: p, _ => by show (outP _ p).length + 1 = p.length + 1; rw [outP_length p]
theorem Short.rest {l : List ByteArray} (h : Short l) : ∀ pre, Short (restP l pre)
  | [] => h
  | x :: p => by
    show Short (restP (if x.2 then l.take x.1 else l.drop x.1) p)
    cases x.2
    · exact Short.rest (h.drop _) p
    · exact Short.rest (h.take _) p
/-- What the iterator hands on next fits the leaves that are left. -/
theorem next_ok {k : Nat} {b : Bool} : ∀ (pre : List (Nat × Bool)) (i : Nat) (l : List ByteArray), l.length < 4611686018427387904 → pre ++ [(k, b)] <+: lev i l.length →
    2 ≤ (restP l pre).length ∧ k = half (restP l pre).length ∧ (restP l pre).length ≤ l.length
  | [], i, l, hl, h => by
    by_cases h2 : 2 ≤ l.length
    · rw [lev_more h2 (by omega), List.nil_append, List.cons_prefix_cons] at h
      exact ⟨h2, (Prod.mk.inj h.1).1, Nat.le_refl _⟩
    · rw [lev_small (by omega)] at h
      exact absurd (List.prefix_nil.1 h) (by simp)
  | x :: p, i, l, hl, h => by
    by_cases h2 : 2 ≤ l.length
    · obtain ⟨k1, _, _, _⟩ := half_facts l.length h2 (by omega)
      have k0 := half_pos l.length
      rw [lev_more h2 (by omega), List.cons_append, List.cons_prefix_cons] at h
      obtain ⟨rfl, h⟩ := h
      by_cases hi : i < half l.length
      · rw [if_pos hi] at h
        have ht : (l.take (half l.length)).length = half l.length := by rw [List.length_take]; omega
        have := next_ok p i (l.take (half l.length)) (by omega) (by rw [ht]; exact h)
        show 2 ≤ (restP (if decide (i < half l.length) = true then _ else _) p).length ∧ k = half (restP (if decide (i < half l.length) = true then _ else _) p).length ∧ (restP (if decide (i < half l.length) = true then _ else _) p).length ≤ _
        rw [if_pos (decide_eq_true hi)]
        exact ⟨this.1, this.2.1, Nat.le_trans this.2.2 (by omega)⟩
      · rw [if_neg hi] at h
        have ht : (l.drop (half l.length)).length = l.length - half l.length := by rw [List.length_drop]
        have := next_ok p (i - half l.length) (l.drop (half l.length)) (by omega) (by rw [ht]; exact h)
        show 2 ≤ (restP (if decide (i < half l.length) = true then _ else _) p).length ∧ k = half (restP (if decide (i < half l.length) = true then _ else _) p).length ∧ (restP (if decide (i < half l.length) = true then _ else _) p).length ≤ _
        rw [if_neg (by simpa using hi)]
        exact ⟨this.1, this.2.1, Nat.le_trans this.2.2 (by omega)⟩
    · rw [lev_small (by omega)] at h
      exact absurd (List.prefix_nil.1 h) (by simp)
theorem lev_len : ∀ (n i : Nat), (lev i n).length ≤ n := by
  intro n
  induction n using Nat.strongRecOn with
  | _ n ih =>
    intro i
    by_cases h : 2 ≤ n ∧ n < 9223372036854775808
    · obtain ⟨k1, _, _, _⟩ := half_facts n h.1 h.2
      have k0 := half_pos n
      rw [lev_more h.1 h.2, List.length_cons]
      split
      · have := ih (half n) k1 i; omega
      · have := ih (n - half n) (by omega) (i - half n); omega
    · rw [lev, dif_neg h]; simp
/-- The path of a leaf. -/
def pathL (l : List ByteArray) (i : Nat) : List ByteArray := (outP l (lev i l.length)).reverse
end Go.Proofs.YtamiaalfjmppaaaDoor
