/- The walk of SignVerifies: the law answers true for every input. Condition: the variables of digest and of strconv hold their numbers. -/
import Derived.Test.YtbepfoaflcgpcaaDoorLKeys29
namespace Go.Proofs.YtbepfoaflcgpcaaDoor
open Go.RowKit Go.W32 Go.Blk Go.Sg Go.OpenShut

set_option maxRecDepth 100000 in
set_option maxHeartbeats 1000000 in
theorem vers_any (x : Int) (t : ByteArray) (w : World) (_hx : (Lit.int .i64 x).wf = true) (hT : HasT w) : Calls Tryd.prog 4 #[.int .i64 x, .string t] w fun r w' => r = .returned (.bool true) ∧ Below w.heap.size w w' := by
  have HT0 := Lib.hid hT
  have HB0 := Lib.hid (Below.refl w.heap.size w)
  clear hT _hx
  by_cases ht : t.size ≤ 300
  · by_cases hs : isSec x
    · have c1 := fun w => pub_yes' x w hs
      have c2 := fun w h => sign_yes x t w hs (by omega) h
      have c3 := fun w h => ver_any (pubV x) t (sgR x t) (sgS x t) w (by omega) h
      simp only [ver_sign hs t] at c3
      have r1 := sgR_pos x t
      have r2 := sgR_le x t
      have s1 := sgS_range x t
      obtain ⟨s1, s2⟩ := s1
      have x1 : 1 ≤ x := hs.1
      have x2 : x ≤ 2147483645 := hs.2
      have k1 : decide (1 ≤ x) = true := decide_eq_true x1
      have k2 : decide (x ≤ 2147483645) = true := decide_eq_true x2
      obtain ⟨y, ey⟩ : ∃ y, y = pubV x := ⟨_, rfl⟩
      obtain ⟨r, er⟩ : ∃ r, r = sgR x t := ⟨_, rfl⟩
      obtain ⟨s, es⟩ : ∃ s, s = sgS x t := ⟨_, rfl⟩
      simp only [← ey, ← er, ← es] at c1 c2 c3 r1 r2 s1 s2
      have C1 := Lib.hid c1
      have C2 := Lib.hid c2
      have C3 := Lib.hid c3
      clear c1 c2 c3 ey er es hs
      go_enter Tryd.func4, Tryd.ntmps4
      go_wp2_with fail
      refine (head29_any _ HT0.out).mono ?_
      rintro e w1 ⟨rfl, hb1⟩
      have HT1 := Lib.hid (HT0.out.below hb1 (Nat.le_refl _))
      have HB1 := Lib.hid (HB0.out.trans (hb1.mono HB0.out.size))
      clear hb1
      go_wp2_with fail
      refine (C1.out _).mono ?_
      rintro e w' ⟨rfl, rfl⟩
      go_wp2_with fail
      refine (C2.out _ HT1.out).mono ?_
      rintro e w2 ⟨rfl, hb2⟩
      have HT2 := Lib.hid (HT1.out.below hb2 (Nat.le_refl _))
      have HB2 := Lib.hid (HB1.out.trans (hb2.mono HB1.out.size))
      clear hb2
      have HT2a := Lib.hid (HT2.out.alloc (.cells #[.int .i64 r, .int .i64 s] 23))
      have HB2a := Lib.hid (HB2.out.alloc HB2.out.size (.cells #[.int .i64 r, .int .i64 s] 23))
      have B2 := Blk.new w2 [.int .i64 r, .int .i64 s] 23
      go_wp2_with fail
      refine (C2.out _ HT2a.out).mono ?_
      rintro e w3 ⟨rfl, hb3⟩
      have HT3 := Lib.hid ((HT2a.out.below hb3 (Nat.le_refl _)).alloc (.cells #[.int .i64 r, .int .i64 s] 23))
      have HB3 := Lib.hid ((HB2a.out.trans (hb3.mono HB2a.out.size)).alloc (Nat.le_trans HB2a.out.size hb3.size) (.cells #[.int .i64 r, .int .i64 s] 23))
      have B3 := B2.below hb3 B2.lt
      have hz : w2.heap.size < w3.heap.size := B3.lt
      have h30 := B3.cell 0 (by simp)
      have h31 := B3.cell 1 (by simp)
      simp only [List.getElem_cons_zero, List.getElem_cons_succ] at h30 h31
      clear B2 B3 hb3
      go_wp2_with fail
      refine (C3.out _ HT3.out).mono ?_
      rintro e w4 ⟨rfl, hb4⟩
      have HT4 := Lib.hid (HT3.out.below hb4 (Nat.le_refl _))
      have HB4 := Lib.hid (HB3.out.trans (hb4.mono HB3.out.size))
      clear hb4
      go_wp2_with fail
      go_ret
      exact ⟨rfl, HB4.out⟩
    · have hns : ¬ (1 ≤ x ∧ x ≤ 2147483645) := hs
      by_cases x1 : 1 ≤ x
      · have x2 : ¬ x ≤ 2147483645 := fun h => hns ⟨x1, h⟩
        have k1 : decide (1 ≤ x) = true := decide_eq_true x1
        have k2 : decide (x ≤ 2147483645) = false := decide_eq_false x2
        have HS := Lib.hid hs
        clear hs hns
        go_enter Tryd.func4, Tryd.ntmps4
        go_wp2_with fail
        refine (head29_any _ HT0.out).mono ?_
        rintro e w1 ⟨rfl, hb1⟩
        have HT1 := Lib.hid (HT0.out.below hb1 (Nat.le_refl _))
        have HB1 := Lib.hid (HB0.out.trans (hb1.mono HB0.out.size))
        clear hb1
        go_wp2_with fail
        refine (pub_no x _ HS.out).mono ?_
        rintro e w' ⟨rfl, rfl⟩
        go_wp2_with fail
        refine (sign_no x t _ HS.out).mono ?_
        rintro e w2 ⟨rfl, hb2⟩
        have HT2 := Lib.hid (HT1.out.below hb2 (Nat.le_refl _))
        have HB2 := Lib.hid (HB1.out.trans (hb2.mono HB1.out.size))
        clear hb2
        go_wp2_with fail
        go_ret
        exact ⟨rfl, HB2.out.alloc HB2.out.size _⟩
      · have k1 : decide (1 ≤ x) = false := decide_eq_false x1
        have HS := Lib.hid hs
        clear hs hns
        go_enter Tryd.func4, Tryd.ntmps4
        go_wp2_with fail
        refine (head29_any _ HT0.out).mono ?_
        rintro e w1 ⟨rfl, hb1⟩
        have HT1 := Lib.hid (HT0.out.below hb1 (Nat.le_refl _))
        have HB1 := Lib.hid (HB0.out.trans (hb1.mono HB0.out.size))
        clear hb1
        go_wp2_with fail
        refine (pub_no x _ HS.out).mono ?_
        rintro e w' ⟨rfl, rfl⟩
        go_wp2_with fail
        refine (sign_no x t _ HS.out).mono ?_
        rintro e w2 ⟨rfl, hb2⟩
        have HT2 := Lib.hid (HT1.out.below hb2 (Nat.le_refl _))
        have HB2 := Lib.hid (HB1.out.trans (hb2.mono HB1.out.size))
        clear hb2
        go_wp2_with fail
        go_ret
        exact ⟨rfl, HB2.out.alloc HB2.out.size _⟩
  · skip
    go_enter Tryd.func4, Tryd.ntmps4
    go_wp2_with fail
    refine (head29_any _ HT0.out).mono ?_
    rintro e w1 ⟨rfl, hb1⟩
    have HT1 := Lib.hid (HT0.out.below hb1 (Nat.le_refl _))
    have HB1 := Lib.hid (HB0.out.trans (hb1.mono HB0.out.size))
    clear hb1
    go_wp2_with fail
    go_ret
    exact ⟨rfl, HB1.out⟩
end Go.Proofs.YtbepfoaflcgpcaaDoor
