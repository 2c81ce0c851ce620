/- The reference of layer 24: numerals. No condition. -/
import Derived.Test.YtekfoaenomgjgaaGreatDoorYC
namespace Go.Proofs.YtekfoaenomgjgaaGreatDoor
open Go.RowKit Go.W32 Go.Blk Go.Cs Go.Lib Go.Opn Go.Mg

theorem nn_dec (n : Nat) : dec (n : Int) = ⟨(Lib.decDigits n).toArray⟩ := by unfold dec; rw [Lib.itoa_nonneg]
theorem small_dec (n : Nat) (h : n ≤ 9) : dec (n : Int) = ⟨#[UInt8.ofNat (48 + n)]⟩ := by
  rw [nn_dec, Lib.decDigits_one (by omega)]
theorem big_dec (n : Nat) (h : 9 < n) : dec (n : Int) = dec ((n / 10 : Nat) : Int) ++ dec ((n % 10 : Nat) : Int) := by
  rw [nn_dec, nn_dec, small_dec (n % 10) (by omega)]
  apply ba_ext
  rw [ba_append, Lib.decDigits, dif_neg (by omega)]
theorem len_dec (N : Nat) (h : N ≤ 9223372036854775808) : (dec (N : Int)).size ≤ 22 := by
  by_cases h9 : 9 < N
  · rw [big_dec N h9, ByteArray.size_append, small_dec (N % 10) (by omega)]
    have := dec_size ((N / 10 : Nat) : Int) (by omega) (by omega)
    have e : (⟨#[UInt8.ofNat (48 + N % 10)]⟩ : ByteArray).size = 1 := rfl
    omega
  · have := dec_size (N : Int) (by omega) (by omega)
    omega
theorem dig_slice24 (d : Nat) (h : d < 10) : (⟨#[48, 49, 50, 51, 52, 53, 54, 55, 56, 57]⟩ : ByteArray).extract d (d + 1) = ⟨#[UInt8.ofNat (48 + d)]⟩ := by
  have : ∀ d, d < 10 → (⟨#[48, 49, 50, 51, 52, 53, 54, 55, 56, 57]⟩ : ByteArray).extract d (d + 1) = ⟨#[UInt8.ofNat (48 + d)]⟩ := by decide +kernel
  exact this d h
set_option maxRecDepth 100000 in
theorem digits24_any : ∀ (m n : Nat) (w : World), n < m → n ≤ 9223372036854775808 → Calls Tryz.prog 116 #[.int .u64 (n : Int)] w fun e w' => e = .returned (.string (dec (n : Int))) ∧ Below w.heap.size w w' := by
  intro m
  induction m with
  | zero => intro n w h; omega
  | succ m ih =>
    intro n w h hn
    by_cases h9 : 9 < n
    · have hj : ¬ ((n : Int) < 10) := by omega
      have CR1 := Lib.hid (fun w' => ih (n / 10) w' (by omega) (by omega))
      have CR2 := Lib.hid (fun w' => ih (n % 10) w' (by omega) (by omega))
      have hz1 := len_dec (n / 10) (by omega)
      have hz2 := len_dec (n % 10) (by omega)
      have ed := big_dec n h9
      have t1 : (n : Int).tdiv 10 = (n : Int) / 10 := Int.tdiv_eq_ediv_of_nonneg (by omega)
      have t2 : (n : Int).tmod 10 = (n : Int) % 10 := Int.tmod_eq_emod_of_nonneg (by omega)
      have t3 : IntKind.u64.wrap ((n : Int) / 10) = (n : Int) / 10 := IntWalk.u64_in _ (by omega)
      have t4 : IntKind.u64.wrap ((n : Int) % 10) = (n : Int) % 10 := IntWalk.u64_in _ (by omega)
      have n0 : (0 : Int) ≤ (n : Int) := by omega
      rw [ed]
      obtain ⟨d1, e1⟩ : ∃ d1, d1 = dec ((n / 10 : Nat) : Int) := ⟨_, rfl⟩
      obtain ⟨d2, e2⟩ : ∃ d2, d2 = dec ((n % 10 : Nat) : Int) := ⟨_, rfl⟩
      rw [← e1] at CR1 hz1 ⊢
      rw [show ((n / 10 : Nat) : Int) = (n : Int) / 10 by omega] at CR1
      rw [← e2] at CR2 hz2 ⊢
      rw [show ((n % 10 : Nat) : Int) = (n : Int) % 10 by omega] at CR2
      clear ih h ed e1 e2
      go_enter Tryz.func116, Tryz.ntmps116
      go_wp2_with fail
      refine (CR1.out _).mono ?_
      rintro e w1 ⟨rfl, hb1⟩
      have L1 := Lib.hid hb1
      clear hb1
      go_wp2_with fail
      refine (CR2.out _).mono ?_
      rintro e w2 ⟨rfl, hb2⟩
      have L2 := Lib.hid (L1.out.trans (hb2.mono L1.out.size))
      clear hb2
      go_wp2_with fail
      go_ret
      exact ⟨rfl, L2.out⟩
    · have hj : (n : Int) < 10 := by omega
      have hd := dig_slice24 n (by omega)
      have HD := Lib.hid hd
      have q1 : (n : Int) + 1 ≤ 10 := by omega
      have q3 : ((n : Int) + 1).toNat = n + 1 := by omega
      have ed := small_dec n (by omega)
      rw [ed]
      clear ih hd ed
      go_enter Tryz.func116, Tryz.ntmps116
      go_wp2_with fail
      go_ret
      exact ⟨by rw [← HD.out]; rfl, Below.refl _ _⟩
theorem dec24_any (n : Int) (w : World) (h0 : -9223372036854775808 ≤ n) (h1 : n ≤ 9223372036854775807) : Calls Tryz.prog 83 #[.int .i64 n] w fun e w' => e = .returned (.string (dec n)) ∧ Below w.heap.size w w' := by
  by_cases hn : n < 0
  · obtain ⟨N, rfl⟩ : ∃ N : Nat, n = -(N : Int) := ⟨n.natAbs, by omega⟩
    have hN : N ≤ 9223372036854775808 := by omega
    have hdn : dec (-(N : Int)) = ⟨#[45]⟩ ++ dec (N : Int) := by
      apply ba_ext
      have e : ∀ n : Int, (dec n).data.toList = Lib.itoa n := fun _ => rfl
      rw [ba_append, e, e, Lib.itoa_neg N (by omega), Lib.itoa_nonneg]; rfl
    have hw1 : IntKind.u64.wrap (-(N : Int)) = 18446744073709551616 - (N : Int) := by unfold IntKind.wrap; simp [IntKind.bits, IntKind.signed]; omega
    have hw2 : IntKind.u64.wrap (0 - (18446744073709551616 - (N : Int))) = (N : Int) := by unfold IntKind.wrap; simp [IntKind.bits, IntKind.signed]; omega
    have hw3 : IntKind.u64.wrap (-(18446744073709551616 - (N : Int))) = (N : Int) := by unfold IntKind.wrap; simp [IntKind.bits, IntKind.signed]; omega
    have CD := Lib.hid (fun w => digits24_any (N + 1) N w (by omega) hN)
    have hz := len_dec N hN
    rw [hdn]
    obtain ⟨d, ed⟩ : ∃ d, d = dec (N : Int) := ⟨_, rfl⟩
    rw [← ed] at CD hz ⊢
    clear ed hdn
    go_enter Tryz.func83, Tryz.ntmps83
    go_wp2_with fail
    refine (CD.out _).mono ?_
    rintro e w1 ⟨rfl, hb⟩
    have L := Lib.hid hb
    clear hb
    go_wp2_with fail
    go_ret
    exact ⟨rfl, L.out⟩
  · obtain ⟨N, rfl⟩ : ∃ N : Nat, n = (N : Int) := ⟨n.toNat, by omega⟩
    have CD := Lib.hid (fun w => digits24_any (N + 1) N w (by omega) (by omega))
    obtain ⟨d, ed⟩ : ∃ d, d = dec (N : Int) := ⟨_, rfl⟩
    rw [← ed] at CD ⊢
    clear ed
    go_enter Tryz.func83, Tryz.ntmps83
    go_wp2_with fail
    refine (CD.out _).mono ?_
    rintro e w1 ⟨rfl, hb⟩
    have L := Lib.hid hb
    clear hb
    go_wp2_with fail
    go_ret
    exact ⟨rfl, L.out⟩
theorem bit24_any (b : Bool) (w : World) : Calls Tryz.prog 115 #[.bool b] w fun e w' => e = .returned (.int .i64 (b2i b)) ∧ w = w' := by
  cases b <;> (go_enter Tryz.func115, Tryz.ntmps115; go_wp2_with fail; go_ret; exact ⟨rfl, rfl⟩)
end Go.Proofs.YtekfoaenomgjgaaGreatDoor
