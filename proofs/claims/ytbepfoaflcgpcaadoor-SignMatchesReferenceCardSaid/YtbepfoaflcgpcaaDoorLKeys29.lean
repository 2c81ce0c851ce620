/- The walks of SignKeys and SignPowers: the laws answer true for every input. Condition: the variables of digest and of strconv hold their numbers. -/
import Derived.Test.YtbepfoaflcgpcaaDoorSgH
import Derived.OpenShut
namespace Go.Proofs.YtbepfoaflcgpcaaDoor
open Go.RowKit Go.W32 Go.Blk Go.Sg Go.OpenShut

theorem pub_yes' (x : Int) (w : World) (h : isSec x) : Calls Tryd.prog 11 #[.int .i64 x] w fun e w' => e = .returned (.tuple #[.int .i64 (pubV x), .int .i64 0]) ∧ w = w' := by
  have := pub_any x w
  rwa [pubE, if_pos h] at this
set_option maxRecDepth 100000 in
set_option maxHeartbeats 1000000 in
theorem keys_any (a b : Int) (w : World) (_ha : (Lit.int .i64 a).wf = true) (_hb : (Lit.int .i64 b).wf = true) (hT : HasT w) : Calls Tryd.prog 8 #[.int .i64 a, .int .i64 b] w fun r w' => r = .returned (.bool true) ∧ Below w.heap.size w w' := by
  have HT0 := Lib.hid hT
  have HB0 := Lib.hid (Below.refl w.heap.size w)
  clear hT _ha _hb
  by_cases ha : isSec a
  · by_cases hb : isSec b
    · have c1 := fun w => pub_yes' a w ha
      have c2 := fun w => pub_yes' b w hb
      have hk := pub_keys ha hb
      have h1 := pubV_pos ha
      have h2 := (pubV_range a).2
      have h3 : decide (pubV a < 2147483647) = true := decide_eq_true (by omega)
      obtain ⟨u, eu⟩ : ∃ u, u = pubV a := ⟨_, rfl⟩
      obtain ⟨v, ev⟩ : ∃ v, v = pubV b := ⟨_, rfl⟩
      rw [← eu] at hk h1 h2 h3; simp only [← eu] at c1
      rw [← ev] at hk; simp only [← ev] at c2
      have C1 := Lib.hid c1
      have C2 := Lib.hid c2
      clear c1 c2 eu ev ha hb
      by_cases hab : a = b
      · subst hab
        have k1 : (a == a) = true := by simp
        rw [k1] at hk
        go_enter Tryd.func8, Tryd.ntmps8
        go_wp2_with fail
        refine (head29_any _ HT0.out).mono ?_
        rintro e w1 ⟨rfl, hb1⟩
        have HT1 := Lib.hid (HT0.out.below hb1 (Nat.le_refl _))
        have HB1 := Lib.hid (HB0.out.trans (hb1.mono HB0.out.size))
        clear hb1
        go_wp2_with fail
        refine (C1.out _).mono ?_
        rintro e w' ⟨rfl, rfl⟩
        go_wp2_with fail
        refine (C2.out _).mono ?_
        rintro e w' ⟨rfl, rfl⟩
        go_wp2_with fail
        go_ret
        exact ⟨rfl, HB1.out⟩
      · have k1 : (a == b) = false := by simp [hab]
        rw [k1] at hk
        clear hab
        go_enter Tryd.func8, Tryd.ntmps8
        go_wp2_with fail
        refine (head29_any _ HT0.out).mono ?_
        rintro e w1 ⟨rfl, hb1⟩
        have HT1 := Lib.hid (HT0.out.below hb1 (Nat.le_refl _))
        have HB1 := Lib.hid (HB0.out.trans (hb1.mono HB0.out.size))
        clear hb1
        go_wp2_with fail
        refine (C1.out _).mono ?_
        rintro e w' ⟨rfl, rfl⟩
        go_wp2_with fail
        refine (C2.out _).mono ?_
        rintro e w' ⟨rfl, rfl⟩
        go_wp2_with fail
        go_ret
        exact ⟨rfl, HB1.out⟩
    · skip
      go_enter Tryd.func8, Tryd.ntmps8
      go_wp2_with fail
      refine (head29_any _ HT0.out).mono ?_
      rintro e w1 ⟨rfl, hb1⟩
      have HT1 := Lib.hid (HT0.out.below hb1 (Nat.le_refl _))
      have HB1 := Lib.hid (HB0.out.trans (hb1.mono HB0.out.size))
      clear hb1
      go_wp2_with fail
      refine (pub_yes' a _ ha).mono ?_
      rintro e w' ⟨rfl, rfl⟩
      go_wp2_with fail
      refine (pub_no b _ hb).mono ?_
      rintro e w' ⟨rfl, rfl⟩
      go_wp2_with fail
      go_ret
      exact ⟨rfl, HB1.out⟩
  · skip
    go_enter Tryd.func8, Tryd.ntmps8
    go_wp2_with fail
    refine (head29_any _ HT0.out).mono ?_
    rintro e w1 ⟨rfl, hb1⟩
    have HT1 := Lib.hid (HT0.out.below hb1 (Nat.le_refl _))
    have HB1 := Lib.hid (HB0.out.trans (hb1.mono HB0.out.size))
    clear hb1
    go_wp2_with fail
    refine (pub_no a _ ha).mono ?_
    rintro e w' ⟨rfl, rfl⟩
    go_wp2_with fail
    refine (pub_any b _).mono ?_
    rintro e w' ⟨rfl, rfl⟩
    go_wp2_with fail
    go_ret
    exact ⟨rfl, HB1.out⟩
set_option maxRecDepth 100000 in
set_option maxHeartbeats 1000000 in
theorem pows_any (a m n : Int) (w : World) (ha : (Lit.int .u32 a).wf = true) (hm : (Lit.int .u32 m).wf = true) (hn : (Lit.int .u32 n).wf = true) (hT : HasT w) : Calls Tryd.prog 7 #[.int .u32 a, .int .u32 m, .int .u32 n] w fun r w' => r = .returned (.bool true) ∧ Below w.heap.size w w' := by
  have HT0 := Lib.hid hT
  have HB0 := Lib.hid (Below.refl w.heap.size w)
  obtain ⟨ha1, ha2⟩ := bounds_u32 ha
  obtain ⟨hm1, hm2⟩ := bounds_u32 hm
  obtain ⟨hn1, hn2⟩ := bounds_u32 hn
  clear hT ha hm hn
  obtain ⟨b, hb⟩ : ∃ b : Int, 1 + a % 2147483646 = b := ⟨_, rfl⟩
  have hb1 : 1 ≤ b := by omega
  have hb2 : b ≤ 2147483646 := by omega
  have c1 := fun w => power_any b m w (by omega)
  have c2 := fun w => power_any b n w (by omega)
  have c3 := fun w => power_any b (m + n) w (by omega)
  have e3 := power_sum hb1 hb2 hm1 hn1
  have r1 := power_pos hb1 hb2 hm1
  have r2 := power_range b m
  have r3 := power_range b n
  obtain ⟨u, eu⟩ : ∃ u, u = power b m := ⟨_, rfl⟩
  obtain ⟨v, ev⟩ : ∃ v, v = power b n := ⟨_, rfl⟩
  rw [← eu] at e3 r1 r2; simp only [← eu] at c1
  rw [← ev] at e3 r3; simp only [← ev] at c2
  simp only [e3] at c3
  have hw0 : 0 ≤ u * v := Int.mul_nonneg r2.1 r3.1
  have hw1 : u * v ≤ 4611686009837453316 := by
    have := Int.mul_le_mul r2.2 r3.2 (by omega) (by omega)
    omega
  have C1 := Lib.hid c1
  have C2 := Lib.hid c2
  have C3 := Lib.hid c3
  have c4 := fun w => pow_is b 2147483646 1 w (by decide) (power_full hb1 hb2)
  have c5 := fun w => pow_is b 1 b w (by decide) (power_one hb1 hb2)
  have c6 := fun w => pow_is b 0 1 w (by decide) (power_zero hb1 hb2)
  have C4 := Lib.hid c4
  have C5 := Lib.hid c5
  have C6 := Lib.hid c6
  clear c1 c2 c3 c4 c5 c6 eu ev e3
  go_enter Tryd.func7, Tryd.ntmps7
  go_wp2_with fail
  refine (head29_any _ HT0.out).mono ?_
  rintro e w1 ⟨rfl, hb1⟩
  have HT1 := Lib.hid (HT0.out.below hb1 (Nat.le_refl _))
  have HB1 := Lib.hid (HB0.out.trans (hb1.mono HB0.out.size))
  clear hb1
  go_wp2_with fail
  refine (C1.out _).mono ?_
  rintro e w' ⟨rfl, rfl⟩
  go_wp2_with fail
  refine (C2.out _).mono ?_
  rintro e w' ⟨rfl, rfl⟩
  go_wp2_with fail
  refine (C3.out _).mono ?_
  rintro e w' ⟨rfl, rfl⟩
  go_wp2_with fail
  refine (C4.out _).mono ?_
  rintro e w' ⟨rfl, rfl⟩
  go_wp2_with fail
  refine (C5.out _).mono ?_
  rintro e w' ⟨rfl, rfl⟩
  go_wp2_with fail
  refine (C6.out _).mono ?_
  rintro e w' ⟨rfl, rfl⟩
  go_wp2_with fail
  go_ret
  exact ⟨rfl, HB1.out⟩
end Go.Proofs.YtbepfoaflcgpcaaDoor
