/- The plain laws of signatures: a signature belongs to its text and key; S is unique; keys of different secrets differ. No condition. -/
import Derived.Test.YtaaenobckipfkaaDoorSgW
namespace Go.Proofs.YtaaenobckipfkaaDoor
open Go.RowKit Go.W32 Go.Blk Go.Sg

theorem cast_mulmod (a b : Nat) : ((a * b % gp : Nat) : Int) = (a : Int) * (b : Int) % 2147483647 := by rw [Int.natCast_emod, Int.natCast_mul]; rfl
theorem power_nat {b n : Int} (h1 : 1 ≤ b) (h2 : b ≤ 2147483646) (h3 : 0 ≤ n) : ∃ q : Nat, 1 ≤ q ∧ q < gp ∧ power b n = (q : Int) ∧ q = pw b.toNat n.toNat :=
  ⟨pw b.toNat n.toNat, pw_pos _ _ (by omega) (by unfold gp; omega), pw_lt _ _, power_in h1 h2 h3, rfl⟩
theorem power_pos {b n : Int} (h1 : 1 ≤ b) (h2 : b ≤ 2147483646) (h3 : 0 ≤ n) : 1 ≤ power b n := by
  obtain ⟨q, h, _, e, _⟩ := power_nat h1 h2 h3; omega
theorem pubV_in {x : Int} (h : isSec x) : pubV x = power 7 x := by unfold pubV; rw [if_pos h]
theorem pubV_pos {x : Int} (h : isSec x) : 1 ≤ pubV x := by rw [pubV_in h]; exact power_pos (by decide) (by decide) (by have := h.1; omega)
theorem sgR_pos (x : Int) (t : ByteArray) : 1 ≤ sgR x t := power_pos (by decide) (by decide) (by have := sgK_range x t; omega)
theorem sgR_le (x : Int) (t : ByteArray) : sgR x t ≤ 2147483646 := (power_range _ _).2
theorem sgS_range (x : Int) (t : ByteArray) : 0 ≤ sgS x t ∧ sgS x t ≤ 2147483645 := by unfold sgS; omega
theorem verOk_sign {x : Int} (h : isSec x) (t : ByteArray) : verOk (pubV x) (sgR x t) (sgS x t) :=
  ⟨sgR_pos x t, sgR_le x t, (sgS_range x t).1, (sgS_range x t).2, pubV_pos h, (pubV_range x).2⟩
/-- The power of the base with the number S. -/
theorem sign_eq {x : Int} (h : isSec x) (t : ByteArray) : power 7 (sgS x t) = sgR x t * power (pubV x) (chal (sgR x t) (pubV x) t) % 2147483647 := by
  obtain ⟨c, hc⟩ : ∃ c : Nat, chal (sgR x t) (pubV x) t = c := ⟨_, (Int.toNat_of_nonneg (chal_range _ _ _).1).symm⟩
  obtain ⟨k, hk⟩ : ∃ k : Nat, sgK x t = k := ⟨(sgK x t).toNat, by have := sgK_range x t; omega⟩
  obtain ⟨z, hz⟩ : ∃ z : Nat, x = z := ⟨x.toNat, by have := h.1; omega⟩
  have hS : sgS x t = ((k + c * z) % 2147483646 : Nat) := by unfold sgS; rw [hc, hk, hz, Int.natCast_emod, Int.natCast_add, Int.natCast_mul]; rfl
  have hR : sgR x t = (pw 7 k : Nat) := by unfold sgR; rw [hk, power_in (by decide) (by decide) (by omega)]; rfl
  have hV : pubV x = (pw 7 z : Nat) := by rw [pubV_in h, hz, power_in (by decide) (by decide) (by omega)]; rfl
  have hV1 := pubV_pos h
  have hV2 := (pubV_range x).2
  rw [hc, hS, power_in (by decide) (by decide) (by omega), power_in hV1 hV2 (by omega), hR, hV]
  simp only [Int.toNat_natCast]
  rw [show (7 : Int).toNat = 7 from rfl, pw_mod 7 _ (by decide) (by decide), pw_pw, pw_add, Nat.mul_comm z c, cast_mulmod]
theorem ver_sign {x : Int} (h : isSec x) (t : ByteArray) : verB (pubV x) t (sgR x t) (sgS x t) = true := by
  unfold verB; rw [decide_eq_true (verOk_sign h t), sign_eq h t]; simp
theorem power7_inj {a b : Int} (ha : 0 ≤ a) (ha2 : a ≤ 2147483645) (hb : 0 ≤ b) (hb2 : b ≤ 2147483645) (h : power 7 a = power 7 b) : a = b := by
  rw [power_in (by decide) (by decide) ha, power_in (by decide) (by decide) hb] at h
  have := seven_inj (i := a.toNat) (j := b.toNat) (by omega) (by omega) (by exact_mod_cast h)
  omega
theorem verB_iff (y : Int) (t : ByteArray) (r s : Int) : verB y t r s = true ↔ verOk y r s ∧ power 7 s = r * power y (chal r y t) % 2147483647 := by
  unfold verB; simp
theorem ver_once {y : Int} {t : ByteArray} {r a b : Int} (h1 : verB y t r a = true) (h2 : verB y t r b = true) : a = b := by
  obtain ⟨⟨_, _, a1, a2, _⟩, e1⟩ := (verB_iff _ _ _ _).1 h1
  obtain ⟨⟨_, _, b1, b2, _⟩, e2⟩ := (verB_iff _ _ _ _).1 h2
  exact power7_inj a1 a2 b1 b2 (e1.trans e2.symm)
/-- For a signature's R, just its own S belongs. -/
theorem ver_other {x : Int} (h : isSec x) (t : ByteArray) (o : Int) : verB (pubV x) t (sgR x t) o = (o == sgS x t) := by
  by_cases e : o = sgS x t
  · subst e; rw [ver_sign h t]; simp
  · have : verB (pubV x) t (sgR x t) o = false := by
      cases hv : verB (pubV x) t (sgR x t) o
      · rfl
      · exact absurd (ver_once hv (ver_sign h t)) e
    rw [this]; simp [e]
theorem cancelI {r a b : Int} (h1 : 1 ≤ r) (h2 : r ≤ 2147483646) (ha : 0 ≤ a) (ha2 : a ≤ 2147483646) (hb : 0 ≤ b) (hb2 : b ≤ 2147483646) (h : r * a % 2147483647 = r * b % 2147483647) : a = b := by
  obtain ⟨r, rfl⟩ : ∃ n : Nat, r = n := ⟨r.toNat, by omega⟩
  obtain ⟨a, rfl⟩ : ∃ n : Nat, a = n := ⟨a.toNat, by omega⟩
  obtain ⟨b, rfl⟩ : ∃ n : Nat, b = n := ⟨b.toNat, by omega⟩
  have := cancel (r := r) (a := a) (b := b) (by omega) (by unfold gp; omega) (by unfold gp; omega) (by unfold gp; omega) (by rw [← cast_mulmod, ← cast_mulmod] at h; exact Int.ofNat.inj h)
  rw [this]
theorem ver_texts {x : Int} (h : isSec x) (t u : ByteArray) :
    verB (pubV x) u (sgR x t) (sgS x t) = (power (pubV x) (chal (sgR x t) (pubV x) t) == power (pubV x) (chal (sgR x t) (pubV x) u)) := by
  rw [Bool.eq_iff_iff, verB_iff, sign_eq h t]
  simp only [verOk_sign h t, true_and, beq_iff_eq]
  have r1 := power_range (pubV x) (chal (sgR x t) (pubV x) t)
  have r2 := power_range (pubV x) (chal (sgR x t) (pubV x) u)
  exact ⟨fun e => cancelI (sgR_pos x t) (sgR_le x t) r1.1 r1.2 r2.1 r2.2 e, fun e => by rw [e]⟩
theorem pub_keys {a b : Int} (ha : isSec a) (hb : isSec b) : (pubV a == pubV b) = (a == b) := by
  rw [Bool.eq_iff_iff]; simp only [beq_iff_eq]
  rw [pubV_in ha, pubV_in hb]
  exact ⟨fun e => power7_inj (by have := ha.1; omega) (by have := ha.2; omega) (by have := hb.1; omega) (by have := hb.2; omega) e, fun e => by rw [e]⟩
theorem power_sum {b m n : Int} (h1 : 1 ≤ b) (h2 : b ≤ 2147483646) (hm : 0 ≤ m) (hn : 0 ≤ n) : power b (m + n) = power b m * power b n % 2147483647 := by
  rw [power_in h1 h2 hm, power_in h1 h2 hn, power_in h1 h2 (by omega), show (m + n).toNat = m.toNat + n.toNat by omega, pw_add, cast_mulmod]
theorem power_full {b : Int} (h1 : 1 ≤ b) (h2 : b ≤ 2147483646) : power b 2147483646 = 1 := by
  rw [power_in h1 h2 (by decide)]
  have := pw_full b.toNat (by omega) (by unfold gp; omega)
  rw [show (2147483646 : Int).toNat = 2147483646 from rfl, this]; rfl
theorem power_one {b : Int} (h1 : 1 ≤ b) (h2 : b ≤ 2147483646) : power b 1 = b := by
  rw [power_in h1 h2 (by decide)]
  have := pw_one b.toNat (by unfold gp; omega)
  rw [show (1 : Int).toNat = 1 from rfl, this]; omega
theorem power_zero {b : Int} (h1 : 1 ≤ b) (h2 : b ≤ 2147483646) : power b 0 = 1 := by
  rw [power_in h1 h2 (by decide)]
  have := pw_zero b.toNat
  rw [show (0 : Int).toNat = 0 from rfl, this]; rfl

/-- The numeral of a number that is not negative, with a text behind it: as the loop of the law's 'decimal' makes it. -/
theorem dec_nonneg (n : Nat) : dec (n : Int) = ⟨(Lib.decDigits n).toArray⟩ := by unfold dec; rw [Lib.itoa_nonneg]
def digB (d : Nat) : ByteArray := ⟨#[UInt8.ofNat (48 + d)]⟩
theorem ba_ext {a b : ByteArray} (h : a.data.toList = b.data.toList) : a = b := by
  cases a; cases b; congr 1; exact Array.ext' h
theorem ba_append (a b : ByteArray) : (a ++ b).data.toList = a.data.toList ++ b.data.toList := by simp
theorem dec_big (n : Nat) (h : 9 < n) : dec (n : Int) = dec ((n / 10 : Nat) : Int) ++ digB (n % 10) := by
  rw [dec_nonneg, dec_nonneg]
  apply ba_ext
  rw [ba_append, Lib.decDigits, dif_neg (by omega)]
  simp [digB]
theorem dec_small (n : Nat) (h : n ≤ 9) : dec (n : Int) = digB n := by
  rw [dec_nonneg, Lib.decDigits_one (by omega)]; rfl
theorem ba_assoc (a b c : ByteArray) : a ++ b ++ c = a ++ (b ++ c) := by apply ba_ext; simp only [ba_append, List.append_assoc]
theorem dig_slice (d : Nat) (h : d < 10) : (⟨#[48, 49, 50, 51, 52, 53, 54, 55, 56, 57]⟩ : ByteArray).extract d (d + 1) = digB d := by
  have : ∀ d, d < 10 → (⟨#[48, 49, 50, 51, 52, 53, 54, 55, 56, 57]⟩ : ByteArray).extract d (d + 1) = digB d := by decide +kernel
  exact this d h
end Go.Proofs.YtaaenobckipfkaaDoor
