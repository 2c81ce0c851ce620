/- The walk of DigestDifferent: the law answers true for every input. Condition: the variable constants holds its 64 numbers. -/
import Derived.Test.YtkccfmaimpnbcaaDoorLForm28
import Derived.Test.YtkccfmaimpnbcaaDoorRefG
import Derived.OpenShut
namespace Go.Proofs.YtkccfmaimpnbcaaDoor
open Go.RowKit Go.W32 Go.Blk Go.OpenShut

set_option maxRecDepth 100000 in
set_option maxHeartbeats 1000000 in
theorem dif_any (t u : ByteArray) (w : World) (hK : HasK w) : Calls Tryd.prog 7 #[.string t, .string u] w fun r w' => r = .returned (.bool true) ∧ Below w.heap.size w w' := by
  have HK := Lib.hid hK
  clear hK
  by_cases hlt : t.size ≤ 1000
  · by_cases hlu : u.size ≤ 1000
    · have c1 : ∀ w, HasK w → Calls Tryd.prog 9 #[.string t] w fun r w' => r = .returned (.string (sumB KC t)) ∧ Below w.heap.size w w' := fun w h => sum_any KC t w (by omega) h
      have c2 : ∀ w, Calls Tryd.prog 10 #[.string t] w fun r w' => r = .returned (.string (sumB KC t)) ∧ Below w.heap.size w w' := fun w => refsum_any t w (by omega)
      have c3 : ∀ w, HasK w → Calls Tryd.prog 9 #[.string u] w fun r w' => r = .returned (.string (sumB KC u)) ∧ Below w.heap.size w w' := fun w h => sum_any KC u w (by omega) h
      have c4 : ∀ w, Calls Tryd.prog 10 #[.string u] w fun r w' => r = .returned (.string (sumB KC u)) ∧ Below w.heap.size w w' := fun w => refsum_any u w (by omega)
      obtain ⟨s, hs⟩ : ∃ s, s = sumB KC t := ⟨_, rfl⟩
      obtain ⟨q, hq⟩ : ∃ q, q = sumB KC u := ⟨_, rfl⟩
      rw [← hs] at c1 c2
      rw [← hq] at c3 c4
      have C1 := Lib.hid c1
      have C2 := Lib.hid c2
      have C3 := Lib.hid c3
      have C4 := Lib.hid c4
      clear c1 c2 c3 c4 hs hq
      by_cases htu : t.toList = u.toList
      · go_enter Tryd.func7, Tryd.ntmps7
        go_wp2_with fail
        refine (head_any _ HK.out).mono ?_
        rintro e w1 ⟨rfl, hb1⟩
        have HB1 := Lib.hid hb1
        clear hb1
        go_wp2_with fail
        go_ret
        exact ⟨rfl, HB1.out⟩
      · go_enter Tryd.func7, Tryd.ntmps7
        go_wp2_with fail
        refine (head_any _ HK.out).mono ?_
        rintro e w1 ⟨rfl, hb1⟩
        have HK1 := Lib.hid (HK.out.below hb1 (Nat.le_refl _))
        have HB1 := Lib.hid hb1
        clear hb1
        go_wp2_with fail
        refine (C1.out _ HK1.out).mono ?_
        rintro e w2 ⟨rfl, hb2⟩
        have HK2 := Lib.hid (HK1.out.below hb2 (Nat.le_refl _))
        have HB2 := Lib.hid (HB1.out.trans (hb2.mono HB1.out.size))
        clear hb2
        go_wp2_with fail
        refine (C3.out _ HK2.out).mono ?_
        rintro e w3 ⟨rfl, hb3⟩
        have HB3 := Lib.hid (HB2.out.trans (hb3.mono HB2.out.size))
        clear hb3
        by_cases hsq : s.toList = q.toList
        · go_wp2_with fail
          refine (C2.out _).mono ?_
          rintro e w4 ⟨rfl, hb4⟩
          have HB4 := Lib.hid (HB3.out.trans (hb4.mono HB3.out.size))
          clear hb4
          go_wp2_with fail
          refine (C4.out _).mono ?_
          rintro e w5 ⟨rfl, hb5⟩
          have HB5 := Lib.hid (HB4.out.trans (hb5.mono HB4.out.size))
          clear hb5
          go_wp2_with fail
          go_ret
          exact ⟨rfl, HB5.out⟩
        · go_wp2_with fail
          go_ret
          exact ⟨rfl, HB3.out⟩
    · go_enter Tryd.func7, Tryd.ntmps7
      go_wp2_with fail
      refine (head_any _ HK.out).mono ?_
      rintro e w1 ⟨rfl, hb1⟩
      have HB1 := Lib.hid hb1
      clear hb1
      go_wp2_with fail
      go_ret
      exact ⟨rfl, HB1.out⟩
  · go_enter Tryd.func7, Tryd.ntmps7
    go_wp2_with fail
    refine (head_any _ HK.out).mono ?_
    rintro e w1 ⟨rfl, hb1⟩
    have HB1 := Lib.hid hb1
    clear hb1
    go_wp2_with fail
    go_ret
    exact ⟨rfl, HB1.out⟩
end Go.Proofs.YtkccfmaimpnbcaaDoor
