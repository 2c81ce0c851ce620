/- Decimal digits: the number that they write. No condition. -/
import Derived.Lib.ItoaNum
namespace Go.Pa
open Go

/-- The number that digits write. -/
def dval (l : List UInt8) : Nat := l.foldl (fun a d => a * 10 + (d.toNat - 48)) 0
theorem dval_snoc (l : List UInt8) (d : UInt8) : dval (l ++ [d]) = dval l * 10 + (d.toNat - 48) := by simp [dval]
theorem dig_nat (d : Nat) (h : d < 10) : (UInt8.ofNat (48 + d)).toNat = 48 + d := by
  rw [UInt8.toNat_ofNat']; omega
theorem decD_facts (m : Nat) : ∀ u, u < m → dval (Lib.decDigits u) = u ∧ (∀ b ∈ Lib.decDigits u, 48 ≤ b.toNat ∧ b.toNat ≤ 57) ∧ Lib.decDigits u ≠ [] := by
  induction m with
  | zero => intro u hu; omega
  | succ m ih =>
    intro u hu
    by_cases h : u < 10
    · rw [Lib.decDigits_one h]
      refine ⟨?_, ?_, by simp⟩
      · show 0 * 10 + ((UInt8.ofNat (48 + u)).toNat - 48) = u
        rw [dig_nat u h]; omega
      · intro b hb; rw [List.mem_singleton] at hb; subst hb; rw [dig_nat u h]; omega
    · rw [Lib.decDigits, dif_neg h]
      obtain ⟨h1, h2, _⟩ := ih (u / 10) (by omega)
      have hd := dig_nat (u % 10) (by omega)
      refine ⟨?_, ?_, by simp⟩
      · rw [dval_snoc, h1, hd]; omega
      · intro b hb
        rcases List.mem_append.1 hb with hb | hb
        · exact h2 b hb
        · rw [List.mem_singleton] at hb; subst hb; rw [hd]; omega
theorem decD_all (u : Nat) : dval (Lib.decDigits u) = u ∧ (∀ b ∈ Lib.decDigits u, 48 ≤ b.toNat ∧ b.toNat ≤ 57) ∧ Lib.decDigits u ≠ [] := decD_facts (u + 1) u (by omega)
end Go.Pa
