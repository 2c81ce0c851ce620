/- The walk of SignTexts: the law answers true for every input. Condition: the variables of digest and of strconv hold their numbers. -/
import Derived.Test.YtbepfoaflcgpcaaDoorLEqn29
namespace Go.Proofs.YtbepfoaflcgpcaaDoor
open Go.RowKit Go.W32 Go.Blk Go.Sg Go.OpenShut

set_option maxRecDepth 100000 in
set_option maxHeartbeats 2000000 in
theorem txt_any (x : Int) (t u : ByteArray) (w : World) (_h1 : (Lit.int .i64 x).wf = true) (hT : HasT w) :
    Calls Tryd.prog 9 #[.int .i64 x, .string t, .string u] w fun r w' => r = .returned (.bool true) ∧ Below w.heap.size w w' := by
  have HT0 := Lib.hid hT
  have HB0 := Lib.hid (Below.refl w.heap.size w)
  clear hT _h1
  by_cases ht : t.size ≤ 300
  · by_cases hu : u.size ≤ 300
    · by_cases hs : isSec x
      · have c1 := fun w => pub_yes' x w hs
        have c2 := fun w h => sign_yes x t w hs (by omega) h
        have c3 := fun w h => ver_any (pubV x) u (sgR x t) (sgS x t) w (by omega) h
        simp only [ver_texts hs t u] at c3
        have r1 := sgR_pos x t
        have r2 := sgR_le x t
        have y1 := pubV_pos hs
        have y2 := (pubV_range x).2
        obtain ⟨y, ey⟩ : ∃ y, y = pubV x := ⟨_, rfl⟩
        obtain ⟨r, er⟩ : ∃ r, r = sgR x t := ⟨_, rfl⟩
        obtain ⟨s, es⟩ : ∃ s, s = sgS x t := ⟨_, rfl⟩
        simp only [← ey, ← er, ← es] at c1 c2 c3 r1 r2 y1 y2
        have d1 := fun w h => lch_int r y t w (by omega) (by omega) (by omega) (by omega) (by omega) h
        have d2 := fun w h => lch_int r y u w (by omega) (by omega) (by omega) (by omega) (by omega) h
        have k1 := chal_range r y t
        have k2 := chal_range r y u
        have p1 := fun w => power_any y (chal r y t) w (by omega)
        have p2 := fun w => power_any y (chal r y u) w (by omega)
        obtain ⟨a, ea⟩ : ∃ a, a = chal r y t := ⟨_, rfl⟩
        obtain ⟨b, eb⟩ : ∃ b, b = chal r y u := ⟨_, rfl⟩
        simp only [← ea, ← eb] at d1 d2 p1 p2 c3
        obtain ⟨P, eP⟩ : ∃ P, P = power y a := ⟨_, rfl⟩
        obtain ⟨Q, eQ⟩ : ∃ Q, Q = power y b := ⟨_, rfl⟩
        simp only [← eP, ← eQ] at p1 p2 c3
        have C1 := Lib.hid c1
        have C2 := Lib.hid c2
        have C3 := Lib.hid c3
        have D1 := Lib.hid d1
        have D2 := Lib.hid d2
        have P1 := Lib.hid p1
        have P2 := Lib.hid p2
        clear c1 c2 c3 d1 d2 p1 p2 ey er es ea eb eP eQ hs k1 k2
        go_enter Tryd.func9, Tryd.ntmps9
        go_wp2_with fail
        refine (head29_any _ HT0.out).mono ?_
        rintro e w1 ⟨rfl, hb1⟩
        have HT1 := Lib.hid (HT0.out.below hb1 (Nat.le_refl _))
        have HB1 := Lib.hid (HB0.out.trans (hb1.mono HB0.out.size))
        clear hb1
        go_wp2_with fail
        refine (C1.out _).mono ?_
        rintro e w' ⟨rfl, rfl⟩
        go_wp2_with fail
        refine (C2.out _ HT1.out).mono ?_
        rintro e w2 ⟨rfl, hb2⟩
        have HT2 := Lib.hid (HT1.out.below hb2 (Nat.le_refl _))
        have HB2 := Lib.hid (HB1.out.trans (hb2.mono HB1.out.size))
        clear hb2
        have HTa := Lib.hid (HT2.out.alloc (.cells #[.int .i64 r, .int .i64 s] 23))
        have HBa := Lib.hid (HB2.out.alloc HB2.out.size (.cells #[.int .i64 r, .int .i64 s] 23))
        have HBb := Lib.hid (Blk.new w2 [.int .i64 r, .int .i64 s] 23)
        go_wp2_with fail
        refine Free.wp_region_free 15 [(5, .det (.int .i64 a)), (6, .det (.int .i64 P)), (12, .det (.int .i64 b)), (13, .det (.int .i64 Q))] (fun w' => HasT w' ∧ w'.cell? ⟨w2.heap.size, 0, none⟩ = some (.int .i64 r) ∧ w'.cell? ⟨w2.heap.size, 1, none⟩ = some (.int .i64 s)) (by kernel_rfl) (by kernel_rfl) ?_ ⟨HTa.out.below (Below.refl _ _).drew (Nat.le_refl _), HBb.out.drew.cell 0 (by simp), HBb.out.drew.cell 1 (by simp)⟩ (fun _ _ h g => ⟨h.1.below g (Nat.le_refl _), cell_grow h.2.1 g, cell_grow h.2.2 g⟩) ?_
        · intro j mk r hf
          simp only [Free.find] at hf
          repeat' split at hf
          all_goals (first | cases hf | skip)
        · simp only [List.take_succ_cons, List.take_zero]
          iterate 5 (apply Free.chain_still (by first | exact Free.wanted_of rfl rfl rfl | rfl) rfl; (intro w' hB hA; obtain ⟨q0, q1, q2⟩ := hB; clear hA q0; go_light; go_simp <;> rfl); (try simp only [Act.put, List.setIfInBounds_toArray, List.set_cons_succ, List.set_cons_zero]))
          apply Free.chain_det rfl rfl
          · intro w' ⟨q0, q1, q2⟩ hA
            refine Free.opRun_call (f := 19) (args := #[.int .i64 r, .int .i64 y, .string t]) (by clear q0 q1 q2 hA; go_simp) ?_
            refine (D1.out _ q0).mono ?_
            rintro e w3 ⟨rfl, hb3⟩
            exact ⟨_, rfl, hb3, rfl⟩
          simp only [Act.put, List.setIfInBounds_toArray, List.set_cons_succ, List.set_cons_zero]
          apply Free.chain_det rfl rfl
          · intro w' ⟨q0, q1, q2⟩ hA
            refine Free.opRun_call (f := 15) (args := #[.int .i64 y, .int .i64 a]) (by clear q0 q1 q2 hA; go_simp) ?_
            refine (P1.out _).mono ?_
            rintro e w3 ⟨rfl, hb3⟩
            exact ⟨_, rfl, grow_same hb3, rfl⟩
          simp only [Act.put, List.setIfInBounds_toArray, List.set_cons_succ, List.set_cons_zero]
          iterate 5 (apply Free.chain_still (by first | exact Free.wanted_of rfl rfl rfl | rfl) rfl; (intro w' hB hA; obtain ⟨q0, q1, q2⟩ := hB; clear hA q0; go_light; go_simp <;> rfl); (try simp only [Act.put, List.setIfInBounds_toArray, List.set_cons_succ, List.set_cons_zero]))
          apply Free.chain_det rfl rfl
          · intro w' ⟨q0, q1, q2⟩ hA
            refine Free.opRun_call (f := 19) (args := #[.int .i64 r, .int .i64 y, .string u]) (by clear q0 q1 q2 hA; go_simp) ?_
            refine (D2.out _ q0).mono ?_
            rintro e w3 ⟨rfl, hb3⟩
            exact ⟨_, rfl, hb3, rfl⟩
          simp only [Act.put, List.setIfInBounds_toArray, List.set_cons_succ, List.set_cons_zero]
          apply Free.chain_det rfl rfl
          · intro w' ⟨q0, q1, q2⟩ hA
            refine Free.opRun_call (f := 15) (args := #[.int .i64 y, .int .i64 b]) (by clear q0 q1 q2 hA; go_simp) ?_
            refine (P2.out _).mono ?_
            rintro e w3 ⟨rfl, hb3⟩
            exact ⟨_, rfl, grow_same hb3, rfl⟩
          simp only [Act.put, List.setIfInBounds_toArray, List.set_cons_succ, List.set_cons_zero]
          iterate 1 (apply Free.chain_still (by first | exact Free.wanted_of rfl rfl rfl | rfl) rfl; (intro w' hB hA; obtain ⟨q0, q1, q2⟩ := hB; clear hA q0; go_light; go_simp <;> rfl); (try simp only [Act.put, List.setIfInBounds_toArray, List.set_cons_succ, List.set_cons_zero]))
          apply Free.chain_nil
          intro w3 hB3 hg _
          have hg' := grow_drew hg
          have HB3 := Lib.hid (HBa.out.trans (hg'.mono HBa.out.size))
          obtain ⟨hT3, h30, h31⟩ := hB3
          have HT3 := Lib.hid hT3
          clear hg hg' hT3
          simp only [List.drop_succ_cons, List.drop_zero]
          go_wp2_with fail
          refine (C3.out _ HT3.out).mono ?_
          rintro e w4 ⟨rfl, hb4⟩
          have HT4 := Lib.hid (HT3.out.below hb4 (Nat.le_refl _))
          have HB4 := Lib.hid (HB3.out.trans (hb4.mono HB3.out.size))
          clear hb4
          go_wp2_with fail
          go_ret
          exact ⟨rfl, HB4.out⟩
      · skip
        go_enter Tryd.func9, Tryd.ntmps9
        go_wp2_with fail
        refine (head29_any _ HT0.out).mono ?_
        rintro e w1 ⟨rfl, hb1⟩
        have HT1 := Lib.hid (HT0.out.below hb1 (Nat.le_refl _))
        have HB1 := Lib.hid (HB0.out.trans (hb1.mono HB0.out.size))
        clear hb1
        go_wp2_with fail
        refine (pub_no x _ hs).mono ?_
        rintro e w' ⟨rfl, rfl⟩
        go_wp2_with fail
        refine (sign_no x t _ hs).mono ?_
        rintro e w2 ⟨rfl, hb2⟩
        have HT2 := Lib.hid (HT1.out.below hb2 (Nat.le_refl _))
        have HB2 := Lib.hid (HB1.out.trans (hb2.mono HB1.out.size))
        clear hb2
        go_wp2_with fail
        go_ret
        exact ⟨rfl, HB2.out.alloc HB2.out.size _⟩
    · skip
      go_enter Tryd.func9, Tryd.ntmps9
      go_wp2_with fail
      refine (head29_any _ HT0.out).mono ?_
      rintro e w1 ⟨rfl, hb1⟩
      have HT1 := Lib.hid (HT0.out.below hb1 (Nat.le_refl _))
      have HB1 := Lib.hid (HB0.out.trans (hb1.mono HB0.out.size))
      clear hb1
      go_wp2_with fail
      go_ret
      exact ⟨rfl, HB1.out⟩
  · skip
    go_enter Tryd.func9, Tryd.ntmps9
    go_wp2_with fail
    refine (head29_any _ HT0.out).mono ?_
    rintro e w1 ⟨rfl, hb1⟩
    have HT1 := Lib.hid (HT0.out.below hb1 (Nat.le_refl _))
    have HB1 := Lib.hid (HB0.out.trans (hb1.mono HB0.out.size))
    clear hb1
    go_wp2_with fail
    go_ret
    exact ⟨rfl, HB1.out⟩
end Go.Proofs.YtbepfoaflcgpcaaDoor
