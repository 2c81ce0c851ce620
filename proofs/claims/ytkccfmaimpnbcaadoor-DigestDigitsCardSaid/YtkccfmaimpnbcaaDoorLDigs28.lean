/- The walk of DigestDigits: the law answers true for every text. Condition: the variable constants holds its 64 numbers. -/
import Derived.Test.YtkccfmaimpnbcaaDoorLNums28
namespace Go.Proofs.YtkccfmaimpnbcaaDoor
open Go.RowKit Go.W32 Go.Blk

set_option maxRecDepth 100000 in
set_option maxHeartbeats 1000000 in
theorem digs_any (t : ByteArray) (w : World) (hK : HasK w) : Calls Tryd.prog 6 #[.string t] w fun r w' => r = .returned (.bool true) ∧ Below w.heap.size w w' := by
  have HK := Lib.hid hK
  clear hK
  by_cases hlt : t.size ≤ 1000
  · go_enter Tryd.func6, Tryd.ntmps6
    go_wp2_with fail
    refine (head_any _ HK.out).mono ?_
    rintro e w1 ⟨rfl, hb1⟩
    have HK1 := Lib.hid (HK.out.below hb1 (Nat.le_refl _))
    have HB1 := Lib.hid hb1
    clear hb1
    obtain ⟨s, hs⟩ : ∃ s, s = sumB KC t := ⟨_, rfl⟩
    obtain ⟨L, hL⟩ : ∃ L, L = sumL KC t := ⟨_, rfl⟩
    have hs1 := sum_any KC t w1 (by omega) HK1.out
    rw [← hs] at hs1
    have hx := sumL_hex KC t
    have hll := sumL_len KC t
    have hsl : s.data.toList = L := by rw [hs, hL]; rfl
    rw [← hL] at hx hll
    have hlen : s.size = 64 := by show s.data.size = 64; rw [← Array.length_toList, hsl, hll]
    have hl14 : 14 < s.size := by omega
    have c0 : ∀ m : Int, 1 ≤ m → m ≤ 9223372036854775807 → ∀ w, HasK w → Calls Tryd.prog 11 #[.string t, .int .i64 m] w fun r w' => r = .returned (.int .i64 (((num (L.take 15) : Nat) : Int) % m)) ∧ Below w.heap.size w w' := fun m h1 h2 w h => by
      have := number_any KC t m w (by omega) h2 h
      rwa [number_pos KC t _ h1, ← hL] at this
    clear hs hL
    have hnl := num_lt L hx 15 (by omega)
    have hns : num (L.take 15) = num (L.take 14) * 16 + hv (L[14]'(by omega)) := num_snoc L 14 (by omega)
    have hs14 : s[14]'hl14 = L[14]'(by omega) := by
      rw [strByte _ 14 (by omega), hsl, List.getD_eq_getElem?_getD, List.getElem?_eq_getElem (by omega)]; rfl
    have hx14 : IsHex (s[14]'hl14) := by rw [hs14]; exact hx _ (List.getElem_mem _)
    rw [← hs14] at hns
    have hh := hv_lt hx14
    have c1 : ∀ w, HasK w → Calls Tryd.prog 11 #[.string t, .int .i64 1152921504606846976] w fun r w' => r = .returned (.int .i64 (num (L.take 15) : Nat)) ∧ Below w.heap.size w w' := fun w h => by
      have := c0 1152921504606846976 (by omega) (by omega) w h
      have e : ((num (L.take 15) : Nat) : Int) % 1152921504606846976 = ((num (L.take 15) : Nat) : Int) := by
        have : (16 : Nat) ^ 15 = 1152921504606846976 := by decide
        omega
      rwa [e] at this
    have c2 : ∀ w, HasK w → Calls Tryd.prog 11 #[.string t, .int .i64 16] w fun r w' => r = .returned (.int .i64 (hv (s[14]'hl14) : Nat)) ∧ Below w.heap.size w w' := fun w h => by
      have := c0 16 (by omega) (by omega) w h
      have e : ((num (L.take 15) : Nat) : Int) % (16 : Int) = ((hv (s[14]'hl14) : Nat) : Int) := by omega
      rwa [e] at this
    clear hnl hns hh c0 hs14
    have hl1 : s.size ≤ 64 := by omega
    have hl2 : 64 ≤ s.size := by omega
    have hl3 : ((s.size : Int) != 64) = false := by simp; omega
    have C1 := Lib.hid c1
    have C2 := Lib.hid c2
    have HS1 := Lib.hid hs1
    have HX := Lib.hid hx
    have HLL := Lib.hid hll
    have HSL := Lib.hid hsl
    have HX14 := Lib.hid hx14
    clear hs1 hx hll hsl hlen c1 c2 hx14
    have hd9 : decide ((1000 : Int) < (t.size : Int)) = false := by simp; omega
    go_wp2_with fail
    refine HS1.out.mono ?_
    rintro e w2 ⟨rfl, hb2⟩
    have HK2 := Lib.hid (HK1.out.below hb2 (Nat.le_refl _))
    have HB2 := Lib.hid (HB1.out.trans (hb2.mono HB1.out.size))
    clear hb2
    go_wp2_with fail
    go_loop [5, 6] (fun n i => ∃ k : Nat, k ≤ 15 ∧ i = .int .i64 k ∧ n = .int .i64 (num (L.take k) : Nat)) (fun _ i => 15 - (intOf i).toNat)
    case atStart => exact ⟨0, by omega, rfl, rfl⟩
    case round =>
      obtain ⟨k, hk, rfl, rfl⟩ := hrel
      by_cases hlt : k < 15
      · have hks : k < s.size := by omega
        have hkl : k < L.length := by have := HLL.out; omega
        have hsk : s[k] = L[k] := by
          rw [strByte s k hks, HSL.out, List.getD_eq_getElem?_getD, List.getElem?_eq_getElem hkl]; rfl
        have hxk : IsHex s[k] := by rw [hsk]; exact HX.out _ (List.getElem_mem _)
        have hsn := num_snoc L k hkl
        rw [← hsk] at hsn
        have hnl := num_lt L HX.out k (by omega)
        have hnp : 16 ^ k ≤ 16 ^ 14 := Nat.pow_le_pow_right (by omega) (by omega)
        have h14 : (16 : Nat) ^ 14 = 72057594037927936 := by decide
        obtain ⟨n, en⟩ : ∃ n, n = num (L.take k) := ⟨_, rfl⟩
        rw [← en] at hsn hnl ⊢
        have hn1 : n < 72057594037927936 := by omega
        have hh := hv_lt hxk
        have HXK := Lib.hid hxk
        have HSN := Lib.hid hsn
        clear hxk hsn hsk hnl hnp h14 en
        go_wp2_with (go_at_call 13; refine (digit_hex _ _ HXK.out).mono ?_; rintro e w' ⟨rfl, rfl⟩)
        go_round
        case rel => exact ⟨k + 1, by omega, by go_num, by rw [HSN.out]; congr 1; omega⟩
        case measure => simp [intOf]; omega
      · obtain rfl : k = 15 := by omega
        clear hlt hk
        have c1 := C1.out
        have c2 := C2.out
        have c3 : ∀ w, Calls Tryd.prog 13 #[.int .u8 (s[14]'hl14).toNat] w fun r w' => r = .returned (.int .i64 (hv (s[14]'hl14) : Nat)) ∧ w = w' := fun w => digit_hex _ w HX14.out
        generalize num (L.take 15) = N at c1 ⊢
        generalize hv (s[14]'hl14) = V at c2 c3
        clear C1 C2 HX14 HX HSL HLL
        have C1 := Lib.hid c1
        have C2 := Lib.hid c2
        have C3 := Lib.hid c3
        clear c1 c2 c3
        have hi14 : (14 : Int) < (s.size : Int) := by omega
        go_wp2_with fail
        refine Free.wp_region_free 16 [(3, .det (.int .i64 N)), (9, .det (.int .i64 V)), (12, .det (.int .i64 V))] HasK (by kernel_rfl) (by kernel_rfl) ?_ HK2.out (fun _ _ h g => h.below g (Nat.le_refl _)) ?_
        · intro j mk r hf
          simp only [Free.find] at hf
          repeat' split at hf
          all_goals (first | cases hf | skip)
        · simp only [List.take_succ_cons, List.take_zero]
          iterate 3 (apply Free.chain_still (by kernel_rfl) (by rfl); (intro w' hb hA; clear hA; go_light; go_simp <;> rfl))
          apply Free.chain_det (by kernel_rfl) (by rfl)
          · intro w' hb hA
            refine Free.opRun_call (by go_simp; exact ⟨rfl, rfl⟩) ?_
            refine (C1.out _ hb).mono ?_
            rintro e w3 ⟨rfl, hb3⟩
            exact ⟨_, rfl, hb3, rfl⟩
          iterate 5 (apply Free.chain_still (by kernel_rfl) (by rfl); (intro w' hb hA; clear hA; go_light; go_simp <;> rfl))
          apply Free.chain_det (by kernel_rfl) (by rfl)
          · intro w' hb hA
            refine Free.opRun_call (by go_simp; exact ⟨rfl, rfl⟩) ?_
            refine (C2.out _ hb).mono ?_
            rintro e w3 ⟨rfl, hb3⟩
            exact ⟨_, rfl, hb3, rfl⟩
          iterate 2 (apply Free.chain_still (by kernel_rfl) (by rfl); (intro w' hb hA; clear hA; go_light; go_simp <;> rfl))
          apply Free.chain_det (by kernel_rfl) (by rfl)
          · intro w' hb hA
            refine Free.opRun_call (by go_simp; exact ⟨rfl, rfl⟩) ?_
            refine (C3.out _).mono ?_
            rintro e w3 ⟨rfl, rfl⟩
            exact ⟨_, rfl, Free.Grow.refl _, rfl⟩
          iterate 3 (apply Free.chain_still (by kernel_rfl) (by rfl); (intro w' hb hA; clear hA; go_light; go_simp <;> rfl))
          apply Free.chain_nil
          intro w3 _ hg _
          have HB3 := Lib.hid (HB2.out.trans ((grow_drew hg).mono HB2.out.size))
          clear hg
          simp only [List.drop_succ_cons, List.drop_zero, Act.put, List.setIfInBounds_toArray, List.set_cons_succ, List.set_cons_zero]
          go_wp2
          go_ret
          exact ⟨rfl, HB3.out⟩
  · go_enter Tryd.func6, Tryd.ntmps6
    go_wp2_with fail
    refine (head_any _ HK.out).mono ?_
    rintro e w1 ⟨rfl, hb1⟩
    have HB1 := Lib.hid hb1
    clear hb1
    go_wp2_with fail
    go_ret
    exact ⟨rfl, HB1.out⟩
end Go.Proofs.YtkccfmaimpnbcaaDoor
