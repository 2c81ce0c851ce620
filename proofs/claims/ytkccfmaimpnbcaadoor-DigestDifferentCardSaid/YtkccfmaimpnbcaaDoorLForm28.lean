/- The walks of digit and DigestForm: the law answers true for every text. Condition: the variable constants holds its 64 numbers. -/
import Derived.Test.YtkccfmaimpnbcaaDoorLHead28
namespace Go.Proofs.YtkccfmaimpnbcaaDoor
open Go.RowKit Go.W32 Go.Blk

theorem ret_i64 {a b : Int} (h : a = b) : Ending.returned (.int .i64 a) = .returned (.int .i64 b) := by rw [h]
set_option maxHeartbeats 400000 in
theorem digit_hex (c : UInt8) (w : World) (h : IsHex c) : Calls Tryd.prog 13 #[.int .u8 c.toNat] w fun r w' => r = .returned (.int .i64 (hv c : Nat)) ∧ w = w' := by
  unfold IsHex at h
  have hcb : c.toNat < 256 := c.toNat_lt
  by_cases h97 : 97 ≤ c.toNat
  · have hhv : hv c = c.toNat - 87 := by unfold hv; rw [if_pos h97]
    have HHV := Lib.hid hhv
    have h1 : c.toNat ≤ 102 := by omega
    clear hhv h
    go_enter Tryd.func13, Tryd.ntmps13
    go_wp2
    go_ret
    exact ⟨ret_i64 (by rw [HHV.out]; omega), rfl⟩
  · have hhv : hv c = c.toNat - 48 := by unfold hv; rw [if_neg h97]
    have HHV := Lib.hid hhv
    have h1 : c.toNat ≤ 57 := by omega
    have h2 : 48 ≤ c.toNat := by omega
    clear hhv h
    go_enter Tryd.func13, Tryd.ntmps13
    go_wp2
    go_ret
    exact ⟨ret_i64 (by rw [HHV.out]; omega), rfl⟩

theorem strByte (s : ByteArray) (k : Nat) (h : k < s.size) : s[k] = s.data.toList.getD k 0 := by
  rw [List.getD_eq_getElem?_getD, List.getElem?_eq_getElem (by simpa using h)]; rfl

set_option maxRecDepth 100000 in
set_option maxHeartbeats 1000000 in
theorem form_any (t : ByteArray) (w : World) (hK : HasK w) : Calls Tryd.prog 4 #[.string t] w fun r w' => r = .returned (.bool true) ∧ Below w.heap.size w w' := by
  have HK := Lib.hid hK
  clear hK
  by_cases hlt : t.size ≤ 1000
  · go_enter Tryd.func4, Tryd.ntmps4
    go_wp2_with fail
    refine (head_any _ HK.out).mono ?_
    rintro e w1 ⟨rfl, hb1⟩
    have HK1 := Lib.hid (HK.out.below hb1 (Nat.le_refl _))
    have HB1 := Lib.hid hb1
    clear hb1
    have hlen : (sumB KC t).size = 64 := by rw [sumB_eq]; show (sumL KC t).toArray.size = 64; simp [sumL_len]
    have hs1 := sum_any KC t w1 (by omega) HK1.out
    have hs2 : ∀ w2, HasK w2 → Calls Tryd.prog 9 #[.string t] w2 fun r w' => r = .returned (.string (sumB KC t)) ∧ Below w2.heap.size w2 w' := fun w2 h2 => sum_any KC t w2 (by omega) h2
    have hx := sumL_hex KC t
    have hll := sumL_len KC t
    have hsl : (sumB KC t).data.toList = sumL KC t := rfl
    generalize sumB KC t = s at *
    generalize sumL KC t = L at *
    have HS1 := Lib.hid hs1
    have HS2 := Lib.hid hs2
    have HX := Lib.hid hx
    have HLL := Lib.hid hll
    have HSL := Lib.hid hsl
    have HLEN := Lib.hid hlen
    have hl1 : s.size ≤ 64 := by omega
    have hl2 : 64 ≤ s.size := by omega
    clear hs1 hs2 hx hll hsl hlen
    have hd9 : decide ((1000 : Int) < (t.size : Int)) = false := by simp; omega
    go_wp2_with fail
    refine HS1.out.mono ?_
    rintro e w2 ⟨rfl, hb2⟩
    have HK2 := Lib.hid (HK1.out.below hb2 (Nat.le_refl _))
    have HB2 := Lib.hid (HB1.out.trans (hb2.mono HB1.out.size))
    clear hb2
    go_wp2_with fail
    go_loop [5] (fun i => ∃ k : Nat, k ≤ 64 ∧ i = .int .i64 k) (fun i => 64 - (intOf i).toNat)
    case atStart => exact ⟨0, by omega, rfl⟩
    case round =>
      obtain ⟨k, hk, rfl⟩ := hrel
      by_cases hlt : k < 64
      · have hks : k < s.size := by omega
        have hxk : IsHex s[k] := by
          rw [strByte s k hks, HSL.out]
          have hkl : k < L.length := by have := HLL.out; omega
          rw [List.getD_eq_getElem?_getD, List.getElem?_eq_getElem hkl]
          exact HX.out _ (List.getElem_mem _)
        have HXK := Lib.hid hxk
        clear hxk
        go_wp2_with (go_at_call 13; refine (digit_hex _ _ HXK.out).mono ?_; rintro e w' ⟨rfl, rfl⟩)
        go_round
        case rel => exact ⟨k + 1, by omega, by go_num⟩
        case measure => simp [intOf]; omega
      · obtain rfl : k = 64 := by omega
        clear hlt hk
        have hl3 : ((s.size : Int) == 64) = true := by simp; omega
        go_wp2_with fail
        refine (HS2.out w2 HK2.out).mono ?_
        rintro e w3 ⟨rfl, hb3⟩
        have HB3 := Lib.hid (HB2.out.trans (hb3.mono HB2.out.size))
        clear hb3
        go_wp2_with fail
        go_ret
        exact ⟨by simp, HB3.out⟩
  · go_enter Tryd.func4, Tryd.ntmps4
    go_wp2_with fail
    refine (head_any _ HK.out).mono ?_
    rintro e w1 ⟨rfl, hb1⟩
    have HB1 := Lib.hid hb1
    clear hb1
    go_wp2_with fail
    go_ret
    exact ⟨rfl, HB1.out⟩
end Go.Proofs.YtkccfmaimpnbcaaDoor
