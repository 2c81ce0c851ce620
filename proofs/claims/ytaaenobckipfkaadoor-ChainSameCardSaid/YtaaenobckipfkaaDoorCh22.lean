/- The reference of layer 31: decimal. No condition. -/
import Derived.Test.YtaaenobckipfkaaDoorCh20
namespace Go.Proofs.YtaaenobckipfkaaDoor
open Go.RowKit Go.Blk Go.Opn

theorem dec_len2 (N : Nat) (h : N ≤ 9223372036854775808) : (dec (N : Int)).size ≤ 22 := by
  by_cases h9 : 9 < N
  · rw [dec_big N h9, ByteArray.size_append]
    have := dec_size ((N / 10 : Nat) : Int) (by omega) (by omega)
    have e : (digB (N % 10)).size = 1 := rfl
    omega
  · have := dec_size (N : Int) (by omega) (by omega)
    omega
theorem conv_dig (d : Nat) (hd : d < 10) (v : Int) (hv : v = 48 + (d : Int)) (W : World) : (convert 77 9 (.slice (some ⟨W.heap.size, 0, none⟩) 1 1)).run Tryd.prog (W.alloc (.cells #[.int .u8 v] 5)) = .ok (.string (digB d)) (W.alloc (.cells #[.int .u8 v] 5)) := by
  have h := conv_bytes (P := Tryd.prog) (cap := 1) [UInt8.ofNat (48 + d)] Tryd.underlying77 Tryd.underlying5 Tryd.underlying9 (Blk.new W [.int .u8 v] 5) (fun j hj => by
    have : j = 0 := by simpa using hj
    subst this
    show some (Value.int .u8 v) = some (C8 (UInt8.ofNat (48 + d)))
    unfold C8
    rw [dig_nat d hd, hv]; simp)
  exact h
def RD31 (w : World) (N : Nat) (u s : Value) (wr : World) : Prop := ∃ (k : Nat) (t : ByteArray), k ≤ N ∧ u = .int .u64 (k : Int) ∧ s = .string (digB (k % 10) ++ t) ∧ dec (N : Int) = dec (k : Int) ++ t ∧ Below w.heap.size w wr
set_option maxRecDepth 100000 in
set_option maxHeartbeats 2000000 in
theorem rdec31_any (n : Int) (w : World) (h0 : -9223372036854775808 ≤ n) (h1 : n ≤ 9223372036854775807) : Calls Tryd.prog 47 #[.int .i64 n] w fun e w' => e = .returned (.string (dec n)) ∧ Below w.heap.size w w' := by
  by_cases hn : n < 0
  · obtain ⟨N, rfl⟩ : ∃ N : Nat, n = -(N : Int) := ⟨n.natAbs, by omega⟩
    have hN : N ≤ 9223372036854775808 := by omega
    have hdn : dec (-(N : Int)) = ⟨#[45]⟩ ++ dec (N : Int) := by
      apply ba_ext
      rw [ba_append, dec_tl, dec_tl, Lib.itoa_neg N (by omega), Lib.itoa_nonneg]; rfl
    have HDN := Lib.hid hdn
    have hw1 : IntKind.u64.wrap (-(N : Int)) = 18446744073709551616 - (N : Int) := by unfold IntKind.wrap; simp [IntKind.bits, IntKind.signed]; omega
    have hw2 : IntKind.u64.wrap (-(18446744073709551616 - (N : Int))) = (N : Int) := by unfold IntKind.wrap; simp [IntKind.bits, IntKind.signed]; omega
    have hcv := fun W => conv_dig (N % 10) (by omega) (48 + (N : Int) % 10) (by omega) W
    have HST : Hid (RD31 w N (.int .u64 N) (.string (digB (N % 10))) (w.alloc (.cells #[.int .u8 (48 + (N : Int) % 10)] 5))) := ⟨N, ⟨#[]⟩, Nat.le_refl _, rfl, by rw [show digB (N % 10) ++ ⟨#[]⟩ = digB (N % 10) from by apply ba_ext; simp], by apply ba_ext; simp, (Below.refl _ _).alloc (Nat.le_refl _) _⟩
    obtain ⟨R, eR⟩ : ∃ R, R = dec (-(N : Int)) := ⟨_, rfl⟩
    rw [← eR] at HDN ⊢
    clear hdn eR
    go_enter Tryd.func47, Tryd.ntmps47
    go_wp2_with fail
    go_loopw [3, 4] (fun u s wr => RD31 w N u s wr) (fun u _ _ => (intOf u).toNat)
    case atStart => exact HST.out
    case round =>
      clear HST
      obtain ⟨k, t, hk, rfl, rfl, heq, hbr⟩ := hrel
      have hts : t.size ≤ 22 := by
        have h1 := dec_len2 N hN
        rw [heq, ByteArray.size_append] at h1; omega
      have HE := Lib.hid heq
      clear heq
      by_cases h9 : 9 < k
      · have hj : (9 : Int) < (k : Int) := by omega
        have hq : IntKind.u64.wrap ((k : Int).tdiv 10) = ((k / 10 : Nat) : Int) := by rw [Int.tdiv_eq_ediv_of_nonneg (by omega), IntWalk.u64_in _ (by omega)]; omega
        have k00 : (0 : Int) ≤ (k : Int) := by omega
        have q00 : (0 : Int) ≤ ((k / 10 : Nat) : Int) := by omega
        have hcv := fun W => conv_dig (k / 10 % 10) (by omega) (48 + ((k / 10 : Nat) : Int) % 10) (by omega) W
        have KEY : Hid (∀ v : Int, RD31 w N (.int .u64 ((k / 10 : Nat) : Int)) (.string (digB (k / 10 % 10) ++ (digB (k % 10) ++ t))) (wr.alloc (.cells #[.int .u8 v] 5))) := fun v => ⟨k / 10, digB (k % 10) ++ t, by omega, rfl, rfl, by rw [HE.out, dec_big k h9]; apply ba_ext; simp only [ba_append, List.append_assoc], hbr.alloc hbr.size _⟩
        have z1 : (digB (k / 10 % 10)).size = 1 := rfl
        have z2 : (digB (k % 10)).size = 1 := rfl
        obtain ⟨q, eq⟩ : ∃ q, q = k / 10 := ⟨_, rfl⟩
        have hqk : q < k := by omega
        have hq2 : (k : Int) / 10 = (q : Int) := by omega
        have HQK := Lib.hid hqk
        rw [← eq] at hq hcv KEY z1 q00
        obtain ⟨d1, ed1⟩ : ∃ d1, d1 = digB (q % 10) := ⟨_, rfl⟩
        obtain ⟨d2, ed2⟩ : ∃ d2, d2 = digB (k % 10) := ⟨_, rfl⟩
        rw [← ed1] at hcv z1 KEY
        rw [← ed2] at z2 KEY ⊢
        clear hbr ed1 ed2 eq hqk
        go_wp2_with fail
        go_roundw
        case rel =>
          go_light
          have key := KEY.out (48 + (q : Int) % 10)
          first | exact key | ((repeat apply Exists.intro); exact ⟨key, rfl⟩)
        case measure => have := HQK.out; simp [intOf]; omega
      · have hj : ¬ ((9 : Int) < (k : Int)) := by omega
        have ed : dec (N : Int) = digB (k % 10) ++ t := by rw [HE.out, dec_small k (by omega), Nat.mod_eq_of_lt (by omega)]
        have z2 : (digB (k % 10)).size = 1 := rfl
        have ED := Lib.hid ed
        have HB := Lib.hid hbr
        obtain ⟨d2, ed2⟩ : ∃ d2, d2 = digB (k % 10) := ⟨_, rfl⟩
        rw [← ed2] at z2 ED ⊢
        clear hbr ed ed2 HE
        go_wp2_with fail
        go_ret
        refine ⟨?_, HB.out⟩
        rw [HDN.out, ED.out]; rfl
  · obtain ⟨N, rfl⟩ : ∃ N : Nat, n = (N : Int) := ⟨n.toNat, by omega⟩
    have hN : N ≤ 9223372036854775808 := by omega
    have hcv := fun W => conv_dig (N % 10) (by omega) (48 + (N : Int) % 10) (by omega) W
    have HST : Hid (RD31 w N (.int .u64 N) (.string (digB (N % 10))) (w.alloc (.cells #[.int .u8 (48 + (N : Int) % 10)] 5))) := ⟨N, ⟨#[]⟩, Nat.le_refl _, rfl, by rw [show digB (N % 10) ++ ⟨#[]⟩ = digB (N % 10) from by apply ba_ext; simp], by apply ba_ext; simp, (Below.refl _ _).alloc (Nat.le_refl _) _⟩
    obtain ⟨R, eR⟩ : ∃ R, R = dec (N : Int) := ⟨_, rfl⟩
    have HDN := Lib.hid eR
    rw [← eR]
    clear eR
    go_enter Tryd.func47, Tryd.ntmps47
    go_wp2_with fail
    go_loopw [3, 4] (fun u s wr => RD31 w N u s wr) (fun u _ _ => (intOf u).toNat)
    case atStart => exact HST.out
    case round =>
      clear HST
      obtain ⟨k, t, hk, rfl, rfl, heq, hbr⟩ := hrel
      have hts : t.size ≤ 22 := by
        have h1 := dec_len2 N hN
        rw [heq, ByteArray.size_append] at h1; omega
      have HE := Lib.hid heq
      clear heq
      by_cases h9 : 9 < k
      · have hj : (9 : Int) < (k : Int) := by omega
        have hq : IntKind.u64.wrap ((k : Int).tdiv 10) = ((k / 10 : Nat) : Int) := by rw [Int.tdiv_eq_ediv_of_nonneg (by omega), IntWalk.u64_in _ (by omega)]; omega
        have k00 : (0 : Int) ≤ (k : Int) := by omega
        have q00 : (0 : Int) ≤ ((k / 10 : Nat) : Int) := by omega
        have hcv := fun W => conv_dig (k / 10 % 10) (by omega) (48 + ((k / 10 : Nat) : Int) % 10) (by omega) W
        have KEY : Hid (∀ v : Int, RD31 w N (.int .u64 ((k / 10 : Nat) : Int)) (.string (digB (k / 10 % 10) ++ (digB (k % 10) ++ t))) (wr.alloc (.cells #[.int .u8 v] 5))) := fun v => ⟨k / 10, digB (k % 10) ++ t, by omega, rfl, rfl, by rw [HE.out, dec_big k h9]; apply ba_ext; simp only [ba_append, List.append_assoc], hbr.alloc hbr.size _⟩
        have z1 : (digB (k / 10 % 10)).size = 1 := rfl
        have z2 : (digB (k % 10)).size = 1 := rfl
        obtain ⟨q, eq⟩ : ∃ q, q = k / 10 := ⟨_, rfl⟩
        have hqk : q < k := by omega
        have hq2 : (k : Int) / 10 = (q : Int) := by omega
        have HQK := Lib.hid hqk
        rw [← eq] at hq hcv KEY z1 q00
        obtain ⟨d1, ed1⟩ : ∃ d1, d1 = digB (q % 10) := ⟨_, rfl⟩
        obtain ⟨d2, ed2⟩ : ∃ d2, d2 = digB (k % 10) := ⟨_, rfl⟩
        rw [← ed1] at hcv z1 KEY
        rw [← ed2] at z2 KEY ⊢
        clear hbr ed1 ed2 eq hqk
        go_wp2_with fail
        go_roundw
        case rel =>
          go_light
          have key := KEY.out (48 + (q : Int) % 10)
          first | exact key | ((repeat apply Exists.intro); exact ⟨key, rfl⟩)
        case measure => have := HQK.out; simp [intOf]; omega
      · have hj : ¬ ((9 : Int) < (k : Int)) := by omega
        have ed : dec (N : Int) = digB (k % 10) ++ t := by rw [HE.out, dec_small k (by omega), Nat.mod_eq_of_lt (by omega)]
        have z2 : (digB (k % 10)).size = 1 := rfl
        have ED := Lib.hid ed
        have HB := Lib.hid hbr
        obtain ⟨d2, ed2⟩ : ∃ d2, d2 = digB (k % 10) := ⟨_, rfl⟩
        rw [← ed2] at z2 ED ⊢
        clear hbr ed ed2 HE
        go_wp2_with fail
        go_ret
        refine ⟨?_, HB.out⟩
        rw [HDN.out, ED.out]; rfl
end Go.Proofs.YtaaenobckipfkaaDoor
