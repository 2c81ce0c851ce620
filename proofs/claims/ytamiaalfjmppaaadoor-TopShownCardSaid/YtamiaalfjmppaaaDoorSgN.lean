/- Powers modulo the prime 2147483647: seven generates all numbers of the group, so powers are never zero, the power p - 1 is one, and powers of seven are different for different exponents below p - 1. No condition. -/
import Derived.WalkKit
namespace Go.Sg

def gp : Nat := 2147483647
/-- The power of a number modulo p. -/
def pw (b n : Nat) : Nat := b ^ n % gp

theorem gp_pos : 0 < gp := by decide
theorem pw_lt (b n : Nat) : pw b n < gp := Nat.mod_lt _ gp_pos
theorem pw_zero (b : Nat) : pw b 0 = 1 := by simp [pw, gp]
theorem pw_one (b : Nat) (h : b < gp) : pw b 1 = b := by simp [pw, Nat.mod_eq_of_lt h]
theorem pw_add (b m n : Nat) : pw b (m + n) = pw b m * pw b n % gp := by
  unfold pw; rw [Nat.pow_add, Nat.mul_mod]
theorem pw_succ (b n : Nat) : pw b (n + 1) = pw b n * b % gp := by
  unfold pw; rw [Nat.pow_succ, Nat.mul_mod, Nat.mod_mul_mod]; rw [Nat.mul_mod, Nat.mod_mod, ← Nat.mul_mod]; simp [Nat.mul_mod]
theorem pw_pw (b m n : Nat) : pw (pw b m) n = pw b (m * n) := by
  unfold pw; rw [← Nat.pow_mod, ← Nat.pow_mul]
theorem pw_mul (a b n : Nat) : pw (a * b % gp) n = pw a n * pw b n % gp := by
  unfold pw; rw [← Nat.pow_mod, Nat.mul_pow, Nat.mul_mod]
theorem pw_one_base (n : Nat) : pw 1 n = 1 := by simp [pw, gp]

/-- The same power by squaring, for the kernel. -/
def fast (fuel : Nat) (b n r : Nat) : Nat :=
  match fuel with
  | 0 => r
  | f + 1 => fast f (b * b % gp) (n / 2) (if n % 2 = 1 then r * b % gp else r)
theorem fast_eq (f : Nat) : ∀ b n r, n < 2 ^ f → r < gp → fast f b n r = r * b ^ n % gp := by
  induction f with
  | zero => intro b n r hn hr; obtain rfl : n = 0 := by omega
            simp [fast, Nat.mod_eq_of_lt hr]
  | succ f ih =>
    intro b n r hn hr
    have hn2 : n / 2 < 2 ^ f := by rw [Nat.pow_succ] at hn; omega
    unfold fast
    have hsq : ∀ k, (b * b % gp) ^ k % gp = b ^ (2 * k) % gp := fun k => by
      rw [← Nat.pow_mod, Nat.pow_mul]; congr 2; rw [Nat.pow_two]
    by_cases h : n % 2 = 1
    · rw [if_pos h, ih _ _ _ hn2 (Nat.mod_lt _ gp_pos)]
      have e : n = 1 + 2 * (n / 2) := by omega
      rw [Nat.mul_mod, hsq, Nat.mod_mod, ← Nat.mul_mod, Nat.mul_assoc]
      congr 2
      conv => rhs; rw [e, Nat.pow_add, Nat.pow_one]
    · rw [if_neg h, ih _ _ _ hn2 hr]
      have e : n = 2 * (n / 2) := by omega
      rw [Nat.mul_mod, hsq, ← Nat.mul_mod]
      congr 2
      conv => rhs; rw [e]
theorem pw_fast (b n : Nat) (h : n < 2 ^ 32) : pw b n = fast 32 b n 1 := by
  rw [fast_eq 32 b n 1 h (by decide), Nat.one_mul]; rfl

/-- The order of seven. -/
theorem seven_full : pw 7 2147483646 = 1 := by rw [pw_fast _ _ (by decide)]; decide +kernel
theorem seven_q2 : pw 7 1073741823 ≠ 1 := by rw [pw_fast _ _ (by decide)]; decide +kernel
theorem seven_q3 : pw 7 715827882 ≠ 1 := by rw [pw_fast _ _ (by decide)]; decide +kernel
theorem seven_q7 : pw 7 306783378 ≠ 1 := by rw [pw_fast _ _ (by decide)]; decide +kernel
theorem seven_q11 : pw 7 195225786 ≠ 1 := by rw [pw_fast _ _ (by decide)]; decide +kernel
theorem seven_q31 : pw 7 69273666 ≠ 1 := by rw [pw_fast _ _ (by decide)]; decide +kernel
theorem seven_q151 : pw 7 14221746 ≠ 1 := by rw [pw_fast _ _ (by decide)]; decide +kernel
theorem seven_q331 : pw 7 6487866 ≠ 1 := by rw [pw_fast _ _ (by decide)]; decide +kernel

theorem seven_mul (k : Nat) : pw 7 (2147483646 * k) = 1 := by rw [← pw_pw, seven_full, pw_one_base]
theorem one_of_dvd {g n : Nat} (h : pw 7 g = 1) (hd : g ∣ n) : pw 7 n = 1 := by
  obtain ⟨k, rfl⟩ := hd
  rw [← pw_pw, h, pw_one_base]
/-- Exponents that give one are closed under differences. -/
theorem one_sub {a b : Nat} (ha : pw 7 a = 1) (hb : pw 7 (a + b) = 1) : pw 7 b = 1 := by
  rw [pw_add, ha, Nat.one_mul, Nat.mod_eq_of_lt (pw_lt _ _)] at hb; exact hb
theorem one_mod {a b : Nat} (ha : pw 7 a = 1) (hb : pw 7 b = 1) : pw 7 (b % a) = 1 := by
  have h1 : pw 7 (a * (b / a)) = 1 := one_of_dvd ha ⟨_, rfl⟩
  refine one_sub h1 ?_
  rw [Nat.div_add_mod]; exact hb
theorem one_gcd (a : Nat) : ∀ b, pw 7 a = 1 → pw 7 b = 1 → pw 7 (Nat.gcd a b) = 1 := by
  induction a using Nat.strongRecOn with
  | ind a ih =>
    intro b ha hb
    by_cases h0 : a = 0
    · subst h0; simpa using hb
    · rw [Nat.gcd_rec]
      exact ih (b % a) (Nat.mod_lt _ (by omega)) a (one_mod ha hb) ha

theorem cop_of_not {q m : Nat} (hq : ∀ d, d < q + 1 → d ∣ q → d = 1 ∨ d = q) (h0 : 0 < q) (h : ¬ q ∣ m) : Nat.Coprime m q := by
  have h1 : Nat.gcd m q ∣ q := Nat.gcd_dvd_right _ _
  rcases hq _ (Nat.lt_succ_of_le (Nat.le_of_dvd h0 h1)) h1 with e | e
  · exact e
  · exact absurd (e ▸ Nat.gcd_dvd_left m q) h
theorem prime_of {q : Nat} (h : (List.range (q + 1)).all (fun d => q % d != 0 || d == 1 || d == q) = true) : ∀ d, d < q + 1 → d ∣ q → d = 1 ∨ d = q := by
  intro d hd hdv
  have := List.all_eq_true.1 h d (List.mem_range.2 hd)
  have e : q % d = 0 := Nat.mod_eq_zero_of_dvd hdv
  simp [e] at this
  exact this
theorem some_prime {m : Nat} (hm : m ∣ 2147483646) (h1 : m ≠ 1) : 2 ∣ m ∨ 3 ∣ m ∨ 7 ∣ m ∨ 11 ∣ m ∨ 31 ∣ m ∨ 151 ∣ m ∨ 331 ∣ m := by
  refine Classical.byContradiction fun hn => ?_
  simp only [not_or] at hn
  obtain ⟨n2, n3, n7, n11, n31, n151, n331⟩ := hn
  have c2 := cop_of_not (prime_of (by decide +kernel)) (by decide) n2
  have c3 := cop_of_not (prime_of (by decide +kernel)) (by decide) n3
  have c7 := cop_of_not (prime_of (by decide +kernel)) (by decide) n7
  have c11 := cop_of_not (prime_of (by decide +kernel)) (by decide) n11
  have c31 := cop_of_not (prime_of (by decide +kernel)) (by decide) n31
  have c151 := cop_of_not (prime_of (by decide +kernel)) (by decide) n151
  have c331 := cop_of_not (prime_of (by decide +kernel)) (by decide) n331
  have h2 : m ∣ 2 * (3 * (3 * (7 * (11 * (31 * (151 * (331 * 1))))))) := hm
  have h3 := c2.dvd_of_dvd_mul_left h2
  have h4 := c3.dvd_of_dvd_mul_left h3
  have h5 := c3.dvd_of_dvd_mul_left h4
  have h6 := c7.dvd_of_dvd_mul_left h5
  have h7 := c11.dvd_of_dvd_mul_left h6
  have h8 := c31.dvd_of_dvd_mul_left h7
  have h9 := c151.dvd_of_dvd_mul_left h8
  have h10 := c331.dvd_of_dvd_mul_left h9
  exact h1 (Nat.dvd_one.1 h10)
theorem order {d : Nat} (h0 : 0 < d) (h : d < 2147483646) : pw 7 d ≠ 1 := by
  intro hd
  have hg := one_gcd d 2147483646 hd seven_full
  obtain ⟨g, eg⟩ : ∃ g, g = Nat.gcd d 2147483646 := ⟨_, rfl⟩
  rw [← eg] at hg
  have hgd : g ∣ 2147483646 := eg ▸ Nat.gcd_dvd_right _ _
  have hgl : g ≤ d := Nat.le_of_dvd h0 (eg ▸ Nat.gcd_dvd_left _ _)
  obtain ⟨m, hm⟩ := hgd
  have hm1 : m ≠ 1 := by rintro rfl; omega
  have key : ∀ q k, q ∣ m → 2147483646 = q * k → 0 < q → pw 7 k = 1 := by
    rintro q k ⟨j, rfl⟩ e hq
    refine one_of_dvd hg ⟨j, ?_⟩
    rw [e] at hm
    refine Nat.eq_of_mul_eq_mul_left hq ?_
    rw [hm, Nat.mul_left_comm]
  rcases some_prime ⟨g, by rw [hm, Nat.mul_comm]⟩ hm1 with h | h | h | h | h | h | h
  · exact seven_q2 (key 2 _ h rfl (by decide))
  · exact seven_q3 (key 3 _ h rfl (by decide))
  · exact seven_q7 (key 7 _ h rfl (by decide))
  · exact seven_q11 (key 11 _ h rfl (by decide))
  · exact seven_q31 (key 31 _ h rfl (by decide))
  · exact seven_q151 (key 151 _ h rfl (by decide))
  · exact seven_q331 (key 331 _ h rfl (by decide))
/-- Powers of seven differ. -/
theorem seven_le {i j : Nat} (hj : j < 2147483646) (hij : i ≤ j) (h : pw 7 i = pw 7 j) : i = j := by
  refine Classical.byContradiction fun hne => ?_
  refine order (d := j - i) (by omega) (by omega) ?_
  have e1 : pw 7 (2147483646 - i + i) = pw 7 (2147483646 - i + j) := by rw [pw_add, pw_add 7 _ j, h]
  rw [show 2147483646 - i + i = 2147483646 by omega, seven_full] at e1
  refine one_sub seven_full ?_
  rw [show 2147483646 + (j - i) = 2147483646 - i + j by omega]
  exact e1.symm
theorem seven_inj {i j : Nat} (hi : i < 2147483646) (hj : j < 2147483646) (h : pw 7 i = pw 7 j) : i = j := by
  rcases Nat.le_total i j with hij | hij
  · exact seven_le hj hij h
  · exact (seven_le hi hij h.symm).symm

/-- A list of fewer places than numbers has two equal ones. -/
theorem two_equal (n : Nat) : ∀ f : Nat → Nat, (∀ i, i < n + 1 → f i < n) → ∃ i j, i < j ∧ j < n + 1 ∧ f i = f j := by
  induction n with
  | zero => intro f hf; exact absurd (hf 0 (by omega)) (by omega)
  | succ n ih =>
    intro f hf
    by_cases hx : ∃ i, i < n + 1 ∧ f i = f (n + 1)
    · obtain ⟨i, hi, e⟩ := hx
      exact ⟨i, n + 1, hi, by omega, e⟩
    · have hne : ∀ i, i < n + 1 → f i ≠ f (n + 1) := fun i hi e => hx ⟨i, hi, e⟩
      obtain ⟨i, j, hij, hj, e⟩ := ih (fun i => if f i = n then f (n + 1) else f i) (fun i hi => by
        have h1 := hf i (by omega)
        have h2 := hf (n + 1) (by omega)
        have h3 := hne i hi
        split <;> omega)
      refine ⟨i, j, hij, by omega, ?_⟩
      have h1 := hne i (by omega)
      have h2 := hne j hj
      split at e <;> split at e <;> omega
theorem onto (n : Nat) (f : Nat → Nat) (hf : ∀ i, i < n → f i < n) (inj : ∀ i j, i < n → j < n → f i = f j → i = j) (y : Nat) (hy : y < n) : ∃ i, i < n ∧ f i = y := by
  refine Classical.byContradiction fun hx => ?_
  have hne : ∀ i, i < n → f i ≠ y := fun i hi e => hx ⟨i, hi, e⟩
  obtain ⟨i, j, hij, hj, e⟩ := two_equal n (fun i => if i = n then y else f i) (fun i hi => by
    split
    · exact hy
    · exact hf i (by omega))
  rw [if_neg (by omega)] at e
  split at e
  · exact hne i (by omega) e
  · exact absurd (inj i j (by omega) (by omega) e) (by omega)
theorem seven_pos (n : Nat) : 1 ≤ pw 7 n := by
  refine Classical.byContradiction fun h => ?_
  have h0 : pw 7 n = 0 := by omega
  have e : pw 7 (n * 2147483646) = 1 := by rw [Nat.mul_comm]; exact seven_mul n
  rw [← pw_pw, h0] at e
  have : pw 0 2147483646 = 0 := by rw [pw_fast _ _ (by decide)]; decide +kernel
  omega
/-- Every number of the group is a power of seven. -/
theorem seven_gen (b : Nat) (h1 : 1 ≤ b) (h2 : b < gp) : ∃ k, pw 7 k = b := by
  obtain ⟨i, _, e⟩ := onto 2147483646 (fun i => pw 7 i - 1) (fun i _ => by have := seven_pos i; have := pw_lt 7 i; unfold gp at this; omega)
    (fun i j hi hj e => seven_inj hi hj (by have := seven_pos i; have := seven_pos j; omega)) (b - 1) (by unfold gp at h2; omega)
  have := seven_pos i
  exact ⟨i, by omega⟩
theorem pw_full (b : Nat) (h1 : 1 ≤ b) (h2 : b < gp) : pw b 2147483646 = 1 := by
  obtain ⟨k, rfl⟩ := seven_gen b h1 h2
  rw [pw_pw, Nat.mul_comm]; exact seven_mul k
theorem pw_pos (b n : Nat) (h1 : 1 ≤ b) (h2 : b < gp) : 1 ≤ pw b n := by
  obtain ⟨k, rfl⟩ := seven_gen b h1 h2
  rw [pw_pw]; exact seven_pos _
theorem pw_mod (b n : Nat) (h1 : 1 ≤ b) (h2 : b < gp) : pw b (n % 2147483646) = pw b n := by
  conv => rhs; rw [← Nat.div_add_mod n 2147483646]
  rw [pw_add, ← pw_pw, pw_full b h1 h2, pw_one_base, Nat.one_mul, Nat.mod_eq_of_lt (pw_lt _ _)]
/-- A factor of the group can be cancelled. -/
theorem cancel {r a b : Nat} (h1 : 1 ≤ r) (h2 : r < gp) (ha : a < gp) (hb : b < gp) (h : r * a % gp = r * b % gp) : a = b := by
  have e : ∀ x, x < gp → pw r 2147483645 * (r * x % gp) % gp = x := fun x hx => by
    rw [Nat.mul_mod, Nat.mod_mod, ← Nat.mul_mod, ← Nat.mul_assoc, Nat.mul_mod, ← pw_succ]
    rw [pw_full r h1 h2, Nat.one_mul, Nat.mod_mod, Nat.mod_eq_of_lt hx]
  rw [← e a ha, h, e b hb]
theorem mul_pos {r a : Nat} (h1 : 1 ≤ r) (h2 : r < gp) (ha : a < gp) (ha1 : 1 ≤ a) : 1 ≤ r * a % gp := by
  refine Classical.byContradiction fun h => ?_
  have := cancel h1 h2 ha gp_pos (show r * a % gp = r * 0 % gp by simp; omega)
  omega
end Go.Sg
