/- Package sign: Power, its closure, keyIs, secretIs: what they return for every number. -/
import Derived.Test.YtamiaalfjmppaaaDoorSgN
import Derived.Test.YtamiaalfjmppaaaDoorTab
import Derived.Lib.ItoaNum
import Derived.Laws.BitsAllLaws
import Derived.Laws.BitsLemmas
namespace Go.Proofs.YtamiaalfjmppaaaDoor
open Go.RowKit Go.W32 Go.Blk Go.Sg

/-- What Power returns. -/
def power (b n : Int) : Int := if 1 ≤ b ∧ b ≤ 2147483646 ∧ 0 ≤ n then (pw b.toNat n.toNat : Int) else 0
theorem power_in {b n : Int} (h1 : 1 ≤ b) (h2 : b ≤ 2147483646) (h3 : 0 ≤ n) : power b n = (pw b.toNat n.toNat : Int) := by
  unfold power; rw [if_pos ⟨h1, h2, h3⟩]
theorem power_out {b n : Int} (h : ¬ (1 ≤ b ∧ b ≤ 2147483646 ∧ 0 ≤ n)) : power b n = 0 := by
  unfold power; rw [if_neg h]

theorem ofInt_i64 (a : Nat) (ha : a < 9223372036854775808) : (BitVec.ofInt 64 (a : Int)).toNat = a := by
  rw [BitVec.ofInt_natCast, BitVec.toNat_ofNat]; exact Nat.mod_eq_of_lt (by omega)
theorem i64_and_nat (a b : Nat) (ha : a < 9223372036854775808) (hb : b < 9223372036854775808) : bits .and .i64 (a : Int) (b : Int) = ((a &&& b : Nat) : Int) := by
  have hx : a &&& b < 2 ^ 63 := Nat.and_lt_two_pow _ (by omega)
  show IntKind.i64.wrap ((BitVec.ofInt 64 (a : Int) &&& BitVec.ofInt 64 (b : Int)).toNat : Int) = _
  rw [BitVec.toNat_and, ofInt_i64 a ha, ofInt_i64 b hb, IntKind.wrap_i64]
  omega
theorem bit_one (m : Nat) (h : m < 9223372036854775808) : bits BinOp.and IntKind.i64 (m : Int) 1 = ((m % 2 : Nat) : Int) := by
  rw [show (1 : Int) = ((1 : Nat) : Int) from rfl, i64_and_nat m 1 h (by decide), Nat.and_one_is_mod]
theorem lt_pow_bitLen (x : Nat) (h : x < 2 ^ 64) : x < 2 ^ Lib.bitLen x := by
  by_cases h0 : x = 0
  · subst h0; exact Nat.two_pow_pos _
  · exact (Lib.bitLenAux_bounds 64 x h h0).2.2
theorem bitLen_le (x : Nat) (h : x < 2 ^ 63) : Lib.bitLen x ≤ 63 := by
  by_cases h0 : x = 0
  · subst h0; decide
  · have := (Lib.bitLenAux_bounds 64 x (by omega) h0).2.1
    refine Classical.byContradiction fun hn => ?_
    have h2 : 2 ^ 63 ≤ 2 ^ (Lib.bitLen x - 1) := Nat.pow_le_pow_right (by omega) (by omega)
    unfold Lib.bitLen at h2
    omega
theorem pw_bit (b n i : Nat) : pw b (n % 2 ^ (i + 1)) = if n / 2 ^ i % 2 = 1 then pw b (n % 2 ^ i) * pw b (2 ^ i) % gp else pw b (n % 2 ^ i) := by
  have e : n % 2 ^ (i + 1) = n % 2 ^ i + 2 ^ i * (n / 2 ^ i % 2) := by rw [Nat.pow_succ, Nat.mod_mul]
  rw [e]
  rcases Nat.mod_two_eq_zero_or_one (n / 2 ^ i) with h | h
  · rw [h, if_neg (by omega), Nat.mul_zero, Nat.add_zero]
  · rw [h, if_pos rfl, Nat.mul_one, pw_add]
theorem pw_sq (b i : Nat) : pw b (2 ^ (i + 1)) = pw b (2 ^ i) * pw b (2 ^ i) % gp := by
  rw [← pw_add, Nat.pow_succ, Nat.mul_two]

theorem prod_any (a b : Int) (w : World) (ha0 : 0 ≤ a) (ha : a ≤ 2147483646) (hb0 : 0 ≤ b) (hb : b ≤ 2147483646) :
    Calls Tryd.prog 64 #[.int .i64 a, .int .i64 b] w fun e w' => e = .returned (.int .i64 (a * b % 2147483647)) ∧ w = w' := by
  have h1 : 0 ≤ a * b := Int.mul_nonneg ha0 hb0
  have h2 : a * b ≤ 4611686009837453316 := by
    have := Int.mul_le_mul ha hb hb0 (by omega)
    omega
  go_enter Tryd.func64, Tryd.ntmps64
  go_wp2
  go_ret
  exact ⟨rfl, rfl⟩
theorem key_yes (y : Int) (w : World) (h1 : 1 ≤ y) (h2 : y ≤ 2147483646) : Calls Tryd.prog 63 #[.int .i64 y] w fun e w' => e = .returned (.bool true) ∧ w = w' := by
  go_enter Tryd.func63, Tryd.ntmps63
  go_wp2
  go_ret
  exact ⟨rfl, rfl⟩
theorem key_no (y : Int) (w : World) (h : ¬ (1 ≤ y ∧ y ≤ 2147483646)) : Calls Tryd.prog 63 #[.int .i64 y] w fun e w' => e = .returned (.bool false) ∧ w = w' := by
  by_cases h1 : 1 ≤ y
  · have h2 : ¬ y ≤ 2147483646 := fun h2 => h ⟨h1, h2⟩
    clear h
    go_enter Tryd.func63, Tryd.ntmps63
    go_wp2
    go_ret
    exact ⟨rfl, rfl⟩
  · clear h
    go_enter Tryd.func63, Tryd.ntmps63
    go_wp2
    go_ret
    exact ⟨rfl, rfl⟩
theorem sec_yes (y : Int) (w : World) (h1 : 1 ≤ y) (h2 : y ≤ 2147483645) : Calls Tryd.prog 39 #[.int .i64 y] w fun e w' => e = .returned (.bool true) ∧ w = w' := by
  go_enter Tryd.func39, Tryd.ntmps39
  go_wp2
  go_ret
  exact ⟨rfl, rfl⟩
theorem sec_no (y : Int) (w : World) (h : ¬ (1 ≤ y ∧ y ≤ 2147483645)) : Calls Tryd.prog 39 #[.int .i64 y] w fun e w' => e = .returned (.bool false) ∧ w = w' := by
  by_cases h1 : 1 ≤ y
  · have h2 : ¬ y ≤ 2147483645 := fun h2 => h ⟨h1, h2⟩
    clear h
    go_enter Tryd.func39, Tryd.ntmps39
    go_wp2
    go_ret
    exact ⟨rfl, rfl⟩
  · clear h
    go_enter Tryd.func39, Tryd.ntmps39
    go_wp2
    go_ret
    exact ⟨rfl, rfl⟩
theorem len_any (x : Int) (w : World) (h0 : 0 ≤ x) (h1 : x ≤ 18446744073709551615) :
    Calls Tryd.prog 65 #[.int .u64 x] w fun e w' => e = .returned (.int .i64 (Lib.bitLen x.toNat)) ∧ w = w' := by
  go_enter Tryd.func65, Tryd.ntmps65
  go_wp2_with (go_at_call 84; refine (Tryd.bits_Len64 _ _ h0 h1).mono ?_; rintro e w' ⟨rfl, rfl⟩)
  go_ret
  exact ⟨rfl, rfl⟩
def RP (b n : Nat) (x r i : Value) : Prop := ∃ k : Nat, k ≤ Lib.bitLen n ∧ i = .int .i64 k ∧ x = .int .i64 (pw b (2 ^ k) : Nat) ∧ r = .int .i64 (pw b (n % 2 ^ k) : Nat)
set_option maxRecDepth 100000 in
theorem power_any (b n : Int) (w : World) (hn : n ≤ 9223372036854775807) :
    Calls Tryd.prog 40 #[.int .i64 b, .int .i64 n] w fun e w' => e = .returned (.int .i64 (power b n)) ∧ w = w' := by
  by_cases hk : 1 ≤ b ∧ b ≤ 2147483646
  · by_cases h3 : n < 0
    · rw [power_out (by omega)]
      go_enter Tryd.func40, Tryd.ntmps40
      go_wp2_with (go_at_call 63; refine (key_yes _ _ hk.1 hk.2).mono ?_; rintro e w' ⟨rfl, rfl⟩)
      go_ret
      exact ⟨rfl, rfl⟩
    · obtain ⟨hb1, hb2⟩ := hk
      have h4 : 0 ≤ n := by omega
      rw [power_in hb1 hb2 h4]
      obtain ⟨m, rfl⟩ : ∃ m : Nat, n = m := ⟨n.toNat, by omega⟩
      obtain ⟨c, rfl⟩ : ∃ c : Nat, b = c := ⟨b.toNat, by omega⟩
      have hm : m < 2 ^ 63 := by omega
      have hL := bitLen_le m hm
      have hLt := lt_pow_bitLen m (by omega)
      have hcg : c < gp := by unfold gp; omega
      have hst : RP c m (.int .i64 c) (.int .i64 1) (.int .i64 0) := ⟨0, Nat.zero_le _, rfl, by rw [Nat.pow_zero, pw_one c hcg], by rw [Nat.pow_zero, Nat.mod_one, pw_zero]; rfl⟩
      have HST := Lib.hid hst
      have HL := Lib.hid hLt
      clear hst hLt hcg
      simp only [Int.toNat_natCast]
      have hlen : ∀ w, Calls Tryd.prog 65 #[.int .u64 (m : Int)] w fun e w' => e = .returned (.int .i64 (Lib.bitLen m)) ∧ w = w' := fun w => len_any m w (by omega) (by omega)
      obtain ⟨L, eL⟩ : ∃ L, L = Lib.bitLen m := ⟨_, rfl⟩
      rw [← eL] at hlen hL HL
      have EL := Lib.hid eL
      have HLEN := Lib.hid hlen
      clear eL hlen
      go_enter Tryd.func40, Tryd.ntmps40
      go_wp2_with (first | (go_at_call 63; refine (key_yes _ _ hb1 hb2).mono ?_; rintro e w' ⟨rfl, rfl⟩) | (go_at_call 65; refine (HLEN.out _).mono ?_; rintro e w' ⟨rfl, rfl⟩))
      go_loop [0, 6, 18] (fun x r i => RP c m x r i) (fun _ _ i => L - (intOf i).toNat)
      case atStart => exact HST.out
      case round =>
        clear HST
        obtain ⟨k, hk, rfl, rfl, rfl⟩ := hrel
        rw [← EL.out] at hk
        have hx := pw_lt c (2 ^ k)
        have hr := pw_lt c (m % 2 ^ k)
        unfold gp at hx hr
        have hsq := pw_sq c k
        have hbit := pw_bit c m k
        obtain ⟨x, ex⟩ : ∃ x, x = pw c (2 ^ k) := ⟨_, rfl⟩
        obtain ⟨r, er⟩ : ∃ r, r = pw c (m % 2 ^ k) := ⟨_, rfl⟩
        by_cases hlt : k < L
        · rw [← ex, ← er] at hbit ⊢
          rw [← ex] at hsq hx
          rw [← er] at hr
          have HSQ := Lib.hid hsq
          have HBIT := Lib.hid hbit
          clear hsq hbit ex er
          have hb1 : bits BinOp.and IntKind.i64 ((m : Int) / 2 ^ k) 1 = ((m / 2 ^ k % 2 : Nat) : Int) := by
            have := bit_one (m / 2 ^ k) (by have := Nat.div_le_self m (2 ^ k); omega)
            rw [← this]; norm_cast
          have hcast : ((m : Int) / 2 ^ k % 2) = ((m / 2 ^ k % 2 : Nat) : Int) := by norm_cast
          by_cases hbt : m / 2 ^ k % 2 = 1
          · have hbb : ((m : Int) / 2 ^ k % 2 == 1) = true := by rw [hcast, hbt]; rfl
            have HB := Lib.hid hbt
            clear hbt hcast
            go_wp2_with (go_at_call 64; refine (prod_any _ _ _ (by omega) (by omega) (by omega) (by omega)).mono ?_; rintro e w' ⟨rfl, rfl⟩)
            go_round
            case rel => exact ⟨k + 1, by rw [← EL.out]; omega, by go_num, by rw [HSQ.out]; rfl, by rw [HBIT.out, if_pos HB.out]; rfl⟩
            case measure => simp [intOf]; omega
          · have hbb : ((m : Int) / 2 ^ k % 2 == 1) = false := by rw [hcast, show m / 2 ^ k % 2 = 0 by omega]; rfl
            have HB := Lib.hid hbt
            clear hbt hcast
            go_wp2_with (go_at_call 64; refine (prod_any _ _ _ (by omega) (by omega) (by omega) (by omega)).mono ?_; rintro e w' ⟨rfl, rfl⟩)
            go_round
            case rel => exact ⟨k + 1, by rw [← EL.out]; omega, by go_num, by rw [HSQ.out]; rfl, by rw [HBIT.out, if_neg HB.out]⟩
            case measure => simp [intOf]; omega
        · obtain rfl : k = L := by omega
          have hfin : r = pw c m := by rw [er, Nat.mod_eq_of_lt HL.out]
          have HF := Lib.hid hfin
          rw [← ex, ← er]
          clear hfin hbit hsq ex er
          go_wp2_with fail
          go_ret
          exact ⟨by rw [HF.out]; rfl, rfl⟩
  · rw [power_out (by omega)]
    go_enter Tryd.func40, Tryd.ntmps40
    go_wp2_with (go_at_call 63; refine (key_no _ _ hk).mono ?_; rintro e w' ⟨rfl, rfl⟩)
    go_ret
    exact ⟨rfl, rfl⟩
end Go.Proofs.YtamiaalfjmppaaaDoor
