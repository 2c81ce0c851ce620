/- The walk of DigestMatchesReference: the law answers true for every input. Condition: the variable constants holds its 64 numbers. -/
import Derived.Test.YtkccfmaimpnbcaaDoorLForm28
import Derived.Test.YtkccfmaimpnbcaaDoorRefG
import Derived.OpenShut
namespace Go.Proofs.YtkccfmaimpnbcaaDoor
open Go.RowKit Go.W32 Go.Blk Go.OpenShut

set_option maxRecDepth 100000 in
set_option maxHeartbeats 1000000 in
theorem mat_any (t : ByteArray) (m : Int) (w : World) (hm : (Lit.int .i64 m).wf = true) (hK : HasK w) : Calls Tryd.prog 3 #[.string t, .int .i64 m] w fun r w' => r = .returned (.bool true) ∧ Below w.heap.size w w' := by
  obtain ⟨hm1, hm2⟩ := bounds_i64 hm
  have HK := Lib.hid hK
  clear hK hm
  by_cases hlt : t.size ≤ 1000
  · have c1 : ∀ w, HasK w → Calls Tryd.prog 9 #[.string t] w fun r w' => r = .returned (.string (sumB KC t)) ∧ Below w.heap.size w w' := fun w h => sum_any KC t w (by omega) h
    have c2 : ∀ w, Calls Tryd.prog 10 #[.string t] w fun r w' => r = .returned (.string (sumB KC t)) ∧ Below w.heap.size w w' := fun w => refsum_any t w (by omega)
    have c3 : ∀ w, HasK w → Calls Tryd.prog 11 #[.string t, .int .i64 m] w fun r w' => r = .returned (.int .i64 (number KC t m)) ∧ Below w.heap.size w w' := fun w h => number_any KC t m w (by omega) (by omega) h
    have c4 : ∀ w, Calls Tryd.prog 12 #[.string t, .int .i64 m] w fun r w' => r = .returned (.int .i64 (number KC t m)) ∧ Below w.heap.size w w' := fun w => refnum_any t m w (by omega) (by omega)
    obtain ⟨s, hs⟩ : ∃ s, s = sumB KC t := ⟨_, rfl⟩
    obtain ⟨q, hq⟩ : ∃ q, q = number KC t m := ⟨_, rfl⟩
    rw [← hs] at c1 c2
    rw [← hq] at c3 c4
    have C1 := Lib.hid c1
    have C2 := Lib.hid c2
    have C3 := Lib.hid c3
    have C4 := Lib.hid c4
    clear c1 c2 c3 c4 hs hq
    go_enter Tryd.func3, Tryd.ntmps3
    go_wp2_with fail
    refine (head_any _ HK.out).mono ?_
    rintro e w1 ⟨rfl, hb1⟩
    have HK1 := Lib.hid (HK.out.below hb1 (Nat.le_refl _))
    have HB1 := Lib.hid hb1
    clear hb1
    go_wp2_with fail
    refine (C1.out _ HK1.out).mono ?_
    rintro e w2 ⟨rfl, hb2⟩
    have HK2 := Lib.hid (HK1.out.below hb2 (Nat.le_refl _))
    have HB2 := Lib.hid (HB1.out.trans (hb2.mono HB1.out.size))
    clear hb2
    go_wp2_with fail
    refine (C2.out _).mono ?_
    rintro e w3 ⟨rfl, hb3⟩
    have HK3 := Lib.hid (HK2.out.below hb3 (Nat.le_refl _))
    have HB3 := Lib.hid (HB2.out.trans (hb3.mono HB2.out.size))
    clear hb3
    go_wp2_with fail
    refine (C3.out _ HK3.out).mono ?_
    rintro e w4 ⟨rfl, hb4⟩
    have HB4 := Lib.hid (HB3.out.trans (hb4.mono HB3.out.size))
    clear hb4
    go_wp2_with fail
    refine (C4.out _).mono ?_
    rintro e w5 ⟨rfl, hb5⟩
    have HB5 := Lib.hid (HB4.out.trans (hb5.mono HB4.out.size))
    clear hb5
    go_wp2_with fail
    go_ret
    exact ⟨rfl, HB5.out⟩
  · go_enter Tryd.func3, Tryd.ntmps3
    go_wp2_with fail
    refine (head_any _ HK.out).mono ?_
    rintro e w1 ⟨rfl, hb1⟩
    have HB1 := Lib.hid hb1
    clear hb1
    go_wp2_with fail
    go_ret
    exact ⟨rfl, HB1.out⟩
end Go.Proofs.YtkccfmaimpnbcaaDoor
