/- The reference of layer 29: decimal, Power, Secret, Public, Challenge, Sign, Verify: they return what package sign returns. -/
import Derived.Test.YtaaenobckipfkaaDoorSgQ
import Derived.Test.YtaaenobckipfkaaDoorRefF
namespace Go.Proofs.YtaaenobckipfkaaDoor
open Go.RowKit Go.W32 Go.Blk Go.Sg

theorem dec_lenN (n : Nat) (h : n ≤ 9223372036854775807) : (dec (n : Int)).size ≤ 21 := dec_size _ (by omega) (by omega)
set_option maxRecDepth 100000 in
theorem rdec_any (m : Nat) : ∀ (n : Nat) (w : World), n < m → n ≤ 9223372036854775807 → Calls Tryd.prog 69 #[.int .i64 (n : Int)] w fun e w' => e = .returned (.string (dec (n : Int))) ∧ Below w.heap.size w w' := by
  induction m with
  | zero => intro n w h; omega
  | succ m ih =>
    intro n w hm hn
    by_cases h9 : n < 10
    · have hd := dig_slice n h9
      rw [dec_small n (by omega), ← hd]
      clear hd ih
      have q1 : (n : Int) + 1 ≤ 10 := by omega
      go_enter Tryd.func69, Tryd.ntmps69
      go_wp2_with fail
      go_ret
      exact ⟨rfl, Below.refl _ _⟩
    · have c1 := fun w => ih (n / 10) w (by omega) (by omega)
      have hl := dec_lenN (n / 10) (by omega)
      rw [dec_big n (by omega)]
      have hd := dig_slice (n % 10) (by omega)
      rw [← hd]
      obtain ⟨a, ea⟩ : ∃ a, a = dec ((n / 10 : Nat) : Int) := ⟨_, rfl⟩
      simp only [← ea] at c1 hl
      rw [← ea]
      have C1 := Lib.hid c1
      clear c1 hd ea ih
      have hw0 : IntKind.i64.wrap ((n : Int) % 10 + 1) = (n : Int) % 10 + 1 := IntWalk.i64_in _ (by omega)
      have h10 : ¬ (n : Int) < 10 := by omega
      have t1 : (n : Int).tdiv 10 = ((n / 10 : Nat) : Int) := by rw [Int.tdiv_eq_ediv_of_nonneg (by omega)]; omega
      have t2 : (n : Int).tmod 10 = (n : Int) % 10 := Int.tmod_eq_emod_of_nonneg (by omega)
      have q0 : 0 ≤ (n : Int) % 10 := by omega
      have q1 : (n : Int) % 10 + 1 ≤ 10 := by omega
      have q2 : ((n : Int) % 10).toNat = n % 10 := by omega
      have q3 : ((n : Int) % 10 + 1).toNat = n % 10 + 1 := by omega
      have T1 := Lib.hid t1
      have T2 := Lib.hid t2
      have W0 := Lib.hid hw0
      have hw5 : IntKind.i64.wrap ((n : Int) / 10) = (n : Int) / 10 := IntWalk.i64_in _ (by omega)
      have W5 := Lib.hid hw5
      have q4 : 0 ≤ (n : Int) % 10 + 1 := by omega
      have q5 : (n : Int) % 10 ≤ (n : Int) % 10 + 1 := by omega
      have q6 : ¬ 9223372036854775807 < a.size + (min (n % 10 + 1) 10 - n % 10) := by omega
      have Q2 := Lib.hid q2
      have Q3 := Lib.hid q3
      clear t1 t2 hw0 hw5 q2 q3
      go_enter Tryd.func69, Tryd.ntmps69
      go_wp2_with fail
      refine Free.wp_region_free 10 [(2, .det (.string a))] (fun _ => True) (by kernel_rfl) (by kernel_rfl) ?_ trivial (fun _ _ _ _ => trivial) ?_
      · intro j mk r hf
        simp only [Free.find] at hf
        repeat' split at hf
        all_goals (first | cases hf | skip)
      · simp only [List.take_succ_cons, List.take_zero]
        have t1 := T1.out
        have t2 := T2.out
        have hw0 := W0.out
        have hw5 := W5.out
        have q2 := Q2.out
        have q3 := Q3.out
        iterate 2 (apply Free.chain_still (by first | exact Free.wanted_of rfl rfl rfl | rfl) rfl; (intro w' hB hA; obtain _ := hB; clear hA ; go_light; go_simp <;> rfl); (try simp only [Act.put, List.setIfInBounds_toArray, List.set_cons_succ, List.set_cons_zero]))
        apply Free.chain_det rfl rfl
        · intro w' _ hA
          refine Free.opRun_call (f := 69) (args := #[.int .i64 ((n / 10 : Nat) : Int)]) (by clear hA; go_simp) ?_
          refine (C1.out _).mono ?_
          rintro e w3 ⟨rfl, hb3⟩
          exact ⟨_, rfl, hb3, rfl⟩
        simp only [Act.put, List.setIfInBounds_toArray, List.set_cons_succ, List.set_cons_zero]
        iterate 7 (apply Free.chain_still (by first | exact Free.wanted_of rfl rfl rfl | rfl) rfl; (intro w' hB hA; obtain _ := hB; clear hA ; go_light; go_simp <;> rfl); (try simp only [Act.put, List.setIfInBounds_toArray, List.set_cons_succ, List.set_cons_zero]))
        apply Free.chain_nil
        intro w3 _ hg _
        have hg' := grow_drew hg
        clear hg
        simp only [List.drop_succ_cons, List.drop_zero]
        go_wp2_with fail
        go_ret
        exact ⟨rfl, hg'⟩

theorem rpow_any (m : Nat) : ∀ (b n : Int) (w : World), n.toNat < m → n ≤ 9223372036854775807 → Calls Tryd.prog 67 #[.int .i64 b, .int .i64 n] w fun e w' => e = .returned (.int .i64 (power b n)) ∧ w = w' := by
  induction m with
  | zero => intro b n w h; omega
  | succ m ih =>
    intro b n w hm hn
    by_cases h : 1 ≤ b ∧ b ≤ 2147483646 ∧ 0 ≤ n
    · obtain ⟨b1, b2, n0⟩ := h
      by_cases hz : n = 0
      · subst hz
        rw [power_zero b1 b2]
        go_enter Tryd.func67, Tryd.ntmps67
        go_wp2_with fail
        go_ret
        exact ⟨rfl, rfl⟩
      · have c1 := fun w => ih b (n / 2) w (by omega) (by omega)
        have r1 := power_range b (n / 2)
        have e1 := power_sum b1 b2 (show 0 ≤ n / 2 by omega) (show 0 ≤ n / 2 by omega)
        have hz1 : (n == 0) = false := by simp [hz]
        have n1 : 1 ≤ n := by omega
        obtain ⟨p, ep⟩ : ∃ p, p = power b (n / 2) := ⟨_, rfl⟩
        simp only [← ep] at c1 r1 e1
        obtain ⟨r1, r2⟩ := r1
        have hm0 : 0 ≤ p * p := Int.mul_nonneg r1 r1
        have hm1 : p * p ≤ 4611686009837453316 := by
          have := Int.mul_le_mul r2 r2 r1 (by omega)
          omega
        have hq0 : 0 ≤ p * p % 2147483647 := by omega
        have hq1 : p * p % 2147483647 ≤ 2147483646 := by omega
        have C1 := Lib.hid c1
        by_cases ho : n % 2 = 1
        · have hv : power b n = p * p % 2147483647 * b % 2147483647 := by
            have e2 := power_sum b1 b2 (show 0 ≤ n / 2 + n / 2 by omega) (show (0 : Int) ≤ 1 by decide)
            rw [power_one b1 b2, e1] at e2
            rw [← e2]; congr 1; omega
          rw [hv]
          obtain ⟨q, eq⟩ : ∃ q, p * p % 2147483647 = q := ⟨_, rfl⟩
          rw [eq] at hq0 hq1 ⊢
          have hk0 : 0 ≤ q * b := Int.mul_nonneg hq0 (by omega)
          have hk1 : q * b ≤ 4611686009837453316 := by
            have := Int.mul_le_mul hq1 b2 (by omega) (by omega)
            omega
          have ho1 : (n % 2 == 1) = true := by simp [ho]
          clear ih e1 ep c1 hv hz ho
          go_enter Tryd.func67, Tryd.ntmps67
          go_wp2_with fail
          refine (C1.out _).mono ?_
          rintro e w' ⟨rfl, rfl⟩
          go_wp2_with fail
          go_ret
          exact ⟨rfl, rfl⟩
        · have hv : power b n = p * p % 2147483647 := by
            rw [← e1]; congr 1; omega
          rw [hv]
          have ho1 : (n % 2 == 1) = false := by simp [ho]
          clear ih e1 ep c1 hv hz ho
          go_enter Tryd.func67, Tryd.ntmps67
          go_wp2_with fail
          refine (C1.out _).mono ?_
          rintro e w' ⟨rfl, rfl⟩
          go_wp2_with fail
          go_ret
          exact ⟨rfl, rfl⟩
    · rw [power_out h]
      by_cases b1 : 1 ≤ b
      · by_cases b2 : b ≤ 2147483646
        · have n1 : n < 0 := Classical.byContradiction fun n0 => h ⟨b1, b2, by omega⟩
          clear h ih
          go_enter Tryd.func67, Tryd.ntmps67
          go_wp2_with fail
          go_ret
          exact ⟨rfl, rfl⟩
        · clear h ih
          go_enter Tryd.func67, Tryd.ntmps67
          go_wp2_with fail
          go_ret
          exact ⟨rfl, rfl⟩
      · clear h ih
        go_enter Tryd.func67, Tryd.ntmps67
        go_wp2_with fail
        go_ret
        exact ⟨rfl, rfl⟩
theorem rpower_any (b n : Int) (w : World) (hn : n ≤ 9223372036854775807) : Calls Tryd.prog 67 #[.int .i64 b, .int .i64 n] w fun e w' => e = .returned (.int .i64 (power b n)) ∧ w = w' :=
  rpow_any (n.toNat + 1) b n w (by omega) hn
theorem rsec_yes (y : Int) (w : World) (h1 : 1 ≤ y) (h2 : y ≤ 2147483645) : Calls Tryd.prog 66 #[.int .i64 y] w fun e w' => e = .returned (.bool true) ∧ w = w' := by
  go_enter Tryd.func66, Tryd.ntmps66
  go_wp2
  go_ret
  exact ⟨rfl, rfl⟩
theorem rsec_no (y : Int) (w : World) (h : ¬ (1 ≤ y ∧ y ≤ 2147483645)) : Calls Tryd.prog 66 #[.int .i64 y] w fun e w' => e = .returned (.bool false) ∧ w = w' := by
  by_cases h1 : 1 ≤ y
  · have h2 : ¬ y ≤ 2147483645 := fun h2 => h ⟨h1, h2⟩
    clear h
    go_enter Tryd.func66, Tryd.ntmps66
    go_wp2
    go_ret
    exact ⟨rfl, rfl⟩
  · clear h
    go_enter Tryd.func66, Tryd.ntmps66
    go_wp2
    go_ret
    exact ⟨rfl, rfl⟩
theorem rpub_any (x : Int) (w : World) : Calls Tryd.prog 49 #[.int .i64 x] w fun e w' => e = .returned (.tuple #[.int .i64 (pubV x), .int .i64 (pubE x)]) ∧ w = w' := by
  by_cases h : isSec x
  · rw [pubV, if_pos h, pubE, if_pos h]
    obtain ⟨h1, h2⟩ := h
    go_enter Tryd.func49, Tryd.ntmps49
    go_wp2_with (first | (go_at_call 66; refine (rsec_yes _ _ h1 h2).mono ?_; rintro e w' ⟨rfl, rfl⟩) | (go_at_call 67; refine (rpower_any _ _ _ (by omega)).mono ?_; rintro e w' ⟨rfl, rfl⟩))
    go_ret2
    exact ⟨rfl, rfl⟩
  · rw [pubV, if_neg h, pubE, if_neg h]
    have h' : ¬ (1 ≤ x ∧ x ≤ 2147483645) := h
    have H := Lib.hid h'
    clear h h'
    go_enter Tryd.func49, Tryd.ntmps49
    go_wp2_with (go_at_call 66; refine (rsec_no _ _ H.out).mono ?_; rintro e w' ⟨rfl, rfl⟩)
    go_ret2
    exact ⟨rfl, rfl⟩
end Go.Proofs.YtaaenobckipfkaaDoor
