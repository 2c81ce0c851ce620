/- The walk of DigestNumbers: the law answers true for every input. Condition: the variable constants holds its 64 numbers. -/
import Derived.Test.YtkccfmaimpnbcaaDoorLForm28
import Derived.OpenShut
namespace Go.Proofs.YtkccfmaimpnbcaaDoor
open Go.RowKit Go.W32 Go.Blk Go.OpenShut

theorem number_pos (K : List UInt32) (t : ByteArray) (m : Int) (h : 1 ≤ m) : number K t m = (num ((sumL K t).take 15) : Int) % m := by
  unfold number; rw [if_neg (by omega)]

set_option maxRecDepth 100000 in
set_option maxHeartbeats 1000000 in
theorem nums_any (t : ByteArray) (a b : Int) (w : World) (ha : (Lit.int .u32 a).wf = true) (hb : (Lit.int .u32 b).wf = true) (hK : HasK w) : Calls Tryd.prog 5 #[.string t, .int .u32 a, .int .u32 b] w fun r w' => r = .returned (.bool true) ∧ Below w.heap.size w w' := by
  have ha1 := bounds_u32 ha
  have hb1 := bounds_u32 hb
  obtain ⟨ha1, ha2⟩ := ha1
  obtain ⟨hb1, hb2⟩ := hb1
  have HK := Lib.hid hK
  clear hK ha hb
  by_cases hlt : t.size ≤ 1000
  · obtain ⟨N, hN⟩ : ∃ N : Int, N = (num ((sumL KC t).take 15) : Int) := ⟨_, rfl⟩
    have hN0 : 0 ≤ N := by omega
    obtain ⟨m, hm⟩ : ∃ m : Int, m = 1 + a % 1000000 := ⟨_, rfl⟩
    obtain ⟨k, hk⟩ : ∃ k : Int, k = 1 + b % 1000000 := ⟨_, rfl⟩
    have hm1 : 1 ≤ m := by omega
    have hm2 : m ≤ 1000000 := by omega
    have hk1 : 1 ≤ k := by omega
    have hk2 : k ≤ 1000000 := by omega
    have hmk1 : 1 ≤ m * k := by
      have := Int.mul_le_mul hm1 hk1 (by omega) (by omega)
      omega
    have hmk2 : m * k ≤ 1000000000000 := by
      have := Int.mul_le_mul hm2 hk2 (by omega) (by omega)
      omega
    have hr1 : 0 ≤ N % m := Int.emod_nonneg _ (by omega)
    have hr2 : N % m < m := Int.emod_lt_of_pos _ (by omega)
    have hr3 : N % (m * k) % m = N % m := Int.emod_emod_of_dvd _ ⟨k, rfl⟩
    have hr4 : 0 ≤ N % (m * k) := Int.emod_nonneg _ (by omega)
    have c1 : ∀ w, HasK w → Calls Tryd.prog 11 #[.string t, .int .i64 m] w fun r w' => r = .returned (.int .i64 (N % m)) ∧ Below w.heap.size w w' := fun w h => by
      have := number_any KC t m w (by omega) (by omega) h
      rwa [number_pos KC t m hm1, ← hN] at this
    have c2 : ∀ w, HasK w → Calls Tryd.prog 11 #[.string t, .int .i64 (m * k)] w fun r w' => r = .returned (.int .i64 (N % (m * k))) ∧ Below w.heap.size w w' := fun w h => by
      have := number_any KC t (m * k) w (by omega) (by omega) h
      rwa [number_pos KC t (m * k) hmk1, ← hN] at this
    obtain ⟨r, hr⟩ : ∃ r, r = N % m := ⟨_, rfl⟩
    obtain ⟨q, hq⟩ : ∃ q, q = N % (m * k) := ⟨_, rfl⟩
    rw [← hr] at hr1 hr2 hr3 c1
    rw [← hq] at hr3 hr4 c2
    have C1 := Lib.hid c1
    have C2 := Lib.hid c2
    have hm' : 1 + a % 1000000 = m := hm.symm
    have hk' : 1 + b % 1000000 = k := hk.symm
    have hqr : (q % m == r) = true := by simp [hr3]
    clear c1 c2 hr hq hN hm hk hr3
    go_enter Tryd.func5, Tryd.ntmps5
    go_wp2_with fail
    refine (head_any _ HK.out).mono ?_
    rintro e w1 ⟨rfl, hb1⟩
    have HK1 := Lib.hid (HK.out.below hb1 (Nat.le_refl _))
    have HB1 := Lib.hid hb1
    clear hb1
    go_wp2_with fail
    refine (C1.out _ HK1.out).mono ?_
    rintro e w2 ⟨rfl, hb2⟩
    have HK2 := Lib.hid (HK1.out.below hb2 (Nat.le_refl _))
    have HB2 := Lib.hid (HB1.out.trans (hb2.mono HB1.out.size))
    clear hb2
    go_wp2_with fail
    refine (C2.out _ HK2.out).mono ?_
    rintro e w3 ⟨rfl, hb3⟩
    have HB3 := Lib.hid (HB2.out.trans (hb3.mono HB2.out.size))
    clear hb3
    go_wp2_with fail
    go_ret
    exact ⟨rfl, HB3.out⟩
  · go_enter Tryd.func5, Tryd.ntmps5
    go_wp2_with fail
    refine (head_any _ HK.out).mono ?_
    rintro e w1 ⟨rfl, hb1⟩
    have HB1 := Lib.hid hb1
    clear hb1
    go_wp2_with fail
    go_ret
    exact ⟨rfl, HB1.out⟩
end Go.Proofs.YtkccfmaimpnbcaaDoor
