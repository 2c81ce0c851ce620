/- The walk of SignOnce: the law answers true for every input. Condition: the variables of digest and of strconv hold their numbers. -/
import Derived.Test.YtbepfoaflcgpcaaDoorLVer29
import Derived.Test.YtbepfoaflcgpcaaDoorMixB
namespace Go.Proofs.YtbepfoaflcgpcaaDoor
open Go.RowKit Go.W32 Go.Blk Go.Sg Go.OpenShut

theorem ver_is (y : Int) (t : ByteArray) (r s : Int) (b : Bool) (w : World) (e : verB y t r s = b) (ht : t.size ≤ 1000000000000) (hT : HasT w) :
    Calls Tryd.prog 17 #[.int .i64 y, .string t, .agg #[.int .i64 r, .int .i64 s]] w fun e w' => e = .returned (.bool b) ∧ Below w.heap.size w w' := by
  have := ver_any y t r s w ht hT
  rwa [e] at this
set_option maxRecDepth 100000 in
set_option maxHeartbeats 1000000 in
theorem once_any (x y : Int) (t : ByteArray) (o r a b : Int) (w : World) (_h1 : (Lit.int .i64 x).wf = true) (_h2 : (Lit.int .i64 y).wf = true) (_h3 : (Lit.int .i64 o).wf = true) (_h4 : (Lit.int .i64 r).wf = true) (_h5 : (Lit.int .i64 a).wf = true) (_h6 : (Lit.int .i64 b).wf = true) (hT : HasT w) :
    Calls Tryd.prog 6 #[.int .i64 x, .int .i64 y, .string t, .int .i64 o, .int .i64 r, .int .i64 a, .int .i64 b] w fun r w' => r = .returned (.bool true) ∧ Below w.heap.size w w' := by
  have HT0 := Lib.hid hT
  have HB0 := Lib.hid (Below.refl w.heap.size w)
  clear hT _h1 _h2 _h3 _h4 _h5 _h6
  by_cases ht : t.size ≤ 300
  · have ht' : t.size ≤ 1000000000000 := by omega
    by_cases hab : a = b
    · have hab1 : (a != b) = false := by simp [hab]
      have HAB := Lib.hid hab
      clear hab
      go_enter Tryd.func6, Tryd.ntmps6
      go_wp2_with fail
      refine (head29_any _ HT0.out).mono ?_
      rintro e w1 ⟨rfl, hb1⟩
      have HT1 := Lib.hid (HT0.out.below hb1 (Nat.le_refl _))
      have HB1 := Lib.hid (HB0.out.trans (hb1.mono HB0.out.size))
      clear hb1
      by_cases hs : isSec x
      · have c1 := fun w => pub_yes' x w hs
        have c2 := fun w h => sign_yes x t w hs (by omega) h
        have c3 := fun w h => ver_any (pubV x) t (sgR x t) o w (by omega) h
        simp only [ver_other hs t] at c3
        obtain ⟨v, ev⟩ : ∃ v, v = pubV x := ⟨_, rfl⟩
        obtain ⟨q, eq⟩ : ∃ q, q = sgR x t := ⟨_, rfl⟩
        obtain ⟨s, es⟩ : ∃ s, s = sgS x t := ⟨_, rfl⟩
        simp only [← ev, ← eq, ← es] at c1 c2 c3
        have C1 := Lib.hid c1
        have C2 := Lib.hid c2
        have C3 := Lib.hid c3
        clear c1 c2 c3 ev eq es hs
        go_wp2_with fail
        refine (C1.out _).mono ?_
        rintro e w' ⟨rfl, rfl⟩
        go_wp2_with fail
        refine (C2.out _ HT1.out).mono ?_
        rintro e w2 ⟨rfl, hb2⟩
        have HT2 := Lib.hid (HT1.out.below hb2 (Nat.le_refl _))
        have HB2 := Lib.hid (HB1.out.trans (hb2.mono HB1.out.size))
        clear hb2
        have HTa := Lib.hid (HT2.out.alloc (.cells #[.int .i64 q, .int .i64 s] 23))
        have HBa := Lib.hid (HB2.out.alloc HB2.out.size (.cells #[.int .i64 q, .int .i64 s] 23))
        have HBb := Lib.hid (Blk.new w2 [.int .i64 q, .int .i64 s] 23)
        go_wp2_with fail
        refine Free.wp_region_free 15 [(8, .det (.bool (o == s)))] (fun w' => HasT w' ∧ w'.cell? ⟨w2.heap.size, 0, none⟩ = some (.int .i64 q) ∧ w'.cell? ⟨w2.heap.size, 1, none⟩ = some (.int .i64 s)) (by kernel_rfl) (by kernel_rfl) ?_ ⟨HTa.out.below (Below.refl _ _).drew (Nat.le_refl _), HBb.out.drew.cell 0 (by simp), HBb.out.drew.cell 1 (by simp)⟩ (fun _ _ h g => ⟨h.1.below g (Nat.le_refl _), cell_grow h.2.1 g, cell_grow h.2.2 g⟩) ?_
        · intro j mk r hf
          simp only [Free.find] at hf
          repeat' split at hf
          all_goals (first | cases hf | skip)
        · simp only [List.take_succ_cons, List.take_zero]
          iterate 8 (apply Free.chain_still (by first | exact Free.wanted_of rfl rfl rfl | rfl) rfl; (intro w' hB hA; obtain ⟨q0, q1, q2⟩ := hB; clear hA q0; go_light; go_simp <;> rfl); (try simp only [Act.put, List.setIfInBounds_toArray, List.set_cons_succ, List.set_cons_zero]))
          apply Free.chain_det (by exact Free.wanted_of rfl rfl rfl) rfl
          · intro w' ⟨q0, q1, q2⟩ hA
            refine Free.opRun_call (f := 17) (args := #[.int .i64 v, .string t, .agg #[.int .i64 q, .int .i64 o]]) (by clear q0 q1 q2 hA; go_simp) ?_
            refine (C3.out _ q0).mono ?_
            rintro e w3 ⟨rfl, hb3⟩
            exact ⟨_, rfl, hb3, rfl⟩
          simp only [Act.put, List.setIfInBounds_toArray, List.set_cons_succ, List.set_cons_zero]
          iterate 6 (apply Free.chain_still (by first | exact Free.wanted_of rfl rfl rfl | rfl) rfl; (intro w' hB hA; obtain ⟨q0, q1, q2⟩ := hB; clear hA q0; go_light; go_simp <;> rfl); (try simp only [Act.put, List.setIfInBounds_toArray, List.set_cons_succ, List.set_cons_zero]))
          apply Free.chain_nil
          intro wz hBz hg _
          have hg' := grow_drew hg
          have HBz := Lib.hid (HBa.out.trans (hg'.mono HBa.out.size))
          clear hg hg'
          simp only [List.drop_succ_cons, List.drop_zero]
          go_wp2_with fail
          go_ret
          exact ⟨rfl, HBz.out⟩
      · skip
        go_wp2_with fail
        refine (pub_no x _ hs).mono ?_
        rintro e w' ⟨rfl, rfl⟩
        go_wp2_with fail
        refine (sign_no x t _ hs).mono ?_
        rintro e w2 ⟨rfl, hb2⟩
        have HT2 := Lib.hid (HT1.out.below hb2 (Nat.le_refl _))
        have HB2 := Lib.hid (HB1.out.trans (hb2.mono HB1.out.size))
        clear hb2
        go_wp2_with fail
        go_ret
        exact ⟨rfl, HB2.out.alloc HB2.out.size _⟩
    · have hab1 : (a != b) = true := by simp [hab]
      cases hv1 : verB y t r a
      · clear hab
        go_enter Tryd.func6, Tryd.ntmps6
        go_wp2_with fail
        refine (head29_any _ HT0.out).mono ?_
        rintro e w1 ⟨rfl, hb1⟩
        have HT1 := Lib.hid (HT0.out.below hb1 (Nat.le_refl _))
        have HB1 := Lib.hid (HB0.out.trans (hb1.mono HB0.out.size))
        clear hb1
        go_wp2_with fail
        refine (ver_is y t r a false _ hv1 ht' HT1.out).mono ?_
        rintro e w2 ⟨rfl, hb2⟩
        have HT2 := Lib.hid (HT1.out.below hb2 (Nat.le_refl _))
        have HB2 := Lib.hid (HB1.out.trans (hb2.mono HB1.out.size))
        clear hb2
        by_cases hs : isSec x
        · have c1 := fun w => pub_yes' x w hs
          have c2 := fun w h => sign_yes x t w hs (by omega) h
          have c3 := fun w h => ver_any (pubV x) t (sgR x t) o w (by omega) h
          simp only [ver_other hs t] at c3
          obtain ⟨v, ev⟩ : ∃ v, v = pubV x := ⟨_, rfl⟩
          obtain ⟨q, eq⟩ : ∃ q, q = sgR x t := ⟨_, rfl⟩
          obtain ⟨s, es⟩ : ∃ s, s = sgS x t := ⟨_, rfl⟩
          simp only [← ev, ← eq, ← es] at c1 c2 c3
          have C1 := Lib.hid c1
          have C2 := Lib.hid c2
          have C3 := Lib.hid c3
          clear c1 c2 c3 ev eq es hs
          go_wp2_with fail
          refine (C1.out _).mono ?_
          rintro e w' ⟨rfl, rfl⟩
          go_wp2_with fail
          refine (C2.out _ HT2.out).mono ?_
          rintro e w3 ⟨rfl, hb3⟩
          have HT3 := Lib.hid (HT2.out.below hb3 (Nat.le_refl _))
          have HB3 := Lib.hid (HB2.out.trans (hb3.mono HB2.out.size))
          clear hb3
          have HTa := Lib.hid (HT3.out.alloc (.cells #[.int .i64 q, .int .i64 s] 23))
          have HBa := Lib.hid (HB3.out.alloc HB3.out.size (.cells #[.int .i64 q, .int .i64 s] 23))
          have HBb := Lib.hid (Blk.new w3 [.int .i64 q, .int .i64 s] 23)
          go_wp2_with fail
          refine Free.wp_region_free 15 [(8, .det (.bool (o == s)))] (fun w' => HasT w' ∧ w'.cell? ⟨w3.heap.size, 0, none⟩ = some (.int .i64 q) ∧ w'.cell? ⟨w3.heap.size, 1, none⟩ = some (.int .i64 s)) (by kernel_rfl) (by kernel_rfl) ?_ ⟨HTa.out.below (Below.refl _ _).drew (Nat.le_refl _), HBb.out.drew.cell 0 (by simp), HBb.out.drew.cell 1 (by simp)⟩ (fun _ _ h g => ⟨h.1.below g (Nat.le_refl _), cell_grow h.2.1 g, cell_grow h.2.2 g⟩) ?_
          · intro j mk r hf
            simp only [Free.find] at hf
            repeat' split at hf
            all_goals (first | cases hf | skip)
          · simp only [List.take_succ_cons, List.take_zero]
            iterate 8 (apply Free.chain_still (by first | exact Free.wanted_of rfl rfl rfl | rfl) rfl; (intro w' hB hA; obtain ⟨q0, q1, q2⟩ := hB; clear hA q0; go_light; go_simp <;> rfl); (try simp only [Act.put, List.setIfInBounds_toArray, List.set_cons_succ, List.set_cons_zero]))
            apply Free.chain_det (by exact Free.wanted_of rfl rfl rfl) rfl
            · intro w' ⟨q0, q1, q2⟩ hA
              refine Free.opRun_call (f := 17) (args := #[.int .i64 v, .string t, .agg #[.int .i64 q, .int .i64 o]]) (by clear q0 q1 q2 hA; go_simp) ?_
              refine (C3.out _ q0).mono ?_
              rintro e w3 ⟨rfl, hb3⟩
              exact ⟨_, rfl, hb3, rfl⟩
            simp only [Act.put, List.setIfInBounds_toArray, List.set_cons_succ, List.set_cons_zero]
            iterate 6 (apply Free.chain_still (by first | exact Free.wanted_of rfl rfl rfl | rfl) rfl; (intro w' hB hA; obtain ⟨q0, q1, q2⟩ := hB; clear hA q0; go_light; go_simp <;> rfl); (try simp only [Act.put, List.setIfInBounds_toArray, List.set_cons_succ, List.set_cons_zero]))
            apply Free.chain_nil
            intro wz hBz hg _
            have hg' := grow_drew hg
            have HBz := Lib.hid (HBa.out.trans (hg'.mono HBa.out.size))
            clear hg hg'
            simp only [List.drop_succ_cons, List.drop_zero]
            go_wp2_with fail
            go_ret
            exact ⟨rfl, HBz.out⟩
        · skip
          go_wp2_with fail
          refine (pub_no x _ hs).mono ?_
          rintro e w' ⟨rfl, rfl⟩
          go_wp2_with fail
          refine (sign_no x t _ hs).mono ?_
          rintro e w3 ⟨rfl, hb3⟩
          have HT3 := Lib.hid (HT2.out.below hb3 (Nat.le_refl _))
          have HB3 := Lib.hid (HB2.out.trans (hb3.mono HB2.out.size))
          clear hb3
          go_wp2_with fail
          go_ret
          exact ⟨rfl, HB3.out.alloc HB3.out.size _⟩
      · cases hv2 : verB y t r b
        · clear hab
          go_enter Tryd.func6, Tryd.ntmps6
          go_wp2_with fail
          refine (head29_any _ HT0.out).mono ?_
          rintro e w1 ⟨rfl, hb1⟩
          have HT1 := Lib.hid (HT0.out.below hb1 (Nat.le_refl _))
          have HB1 := Lib.hid (HB0.out.trans (hb1.mono HB0.out.size))
          clear hb1
          go_wp2_with fail
          refine (ver_is y t r a true _ hv1 ht' HT1.out).mono ?_
          rintro e w2 ⟨rfl, hb2⟩
          have HT2 := Lib.hid (HT1.out.below hb2 (Nat.le_refl _))
          have HB2 := Lib.hid (HB1.out.trans (hb2.mono HB1.out.size))
          clear hb2
          go_wp2_with fail
          refine (ver_is y t r b false _ hv2 ht' HT2.out).mono ?_
          rintro e w3 ⟨rfl, hb3⟩
          have HT3 := Lib.hid (HT2.out.below hb3 (Nat.le_refl _))
          have HB3 := Lib.hid (HB2.out.trans (hb3.mono HB2.out.size))
          clear hb3
          by_cases hs : isSec x
          · have c1 := fun w => pub_yes' x w hs
            have c2 := fun w h => sign_yes x t w hs (by omega) h
            have c3 := fun w h => ver_any (pubV x) t (sgR x t) o w (by omega) h
            simp only [ver_other hs t] at c3
            obtain ⟨v, ev⟩ : ∃ v, v = pubV x := ⟨_, rfl⟩
            obtain ⟨q, eq⟩ : ∃ q, q = sgR x t := ⟨_, rfl⟩
            obtain ⟨s, es⟩ : ∃ s, s = sgS x t := ⟨_, rfl⟩
            simp only [← ev, ← eq, ← es] at c1 c2 c3
            have C1 := Lib.hid c1
            have C2 := Lib.hid c2
            have C3 := Lib.hid c3
            clear c1 c2 c3 ev eq es hs
            go_wp2_with fail
            refine (C1.out _).mono ?_
            rintro e w' ⟨rfl, rfl⟩
            go_wp2_with fail
            refine (C2.out _ HT3.out).mono ?_
            rintro e w4 ⟨rfl, hb4⟩
            have HT4 := Lib.hid (HT3.out.below hb4 (Nat.le_refl _))
            have HB4 := Lib.hid (HB3.out.trans (hb4.mono HB3.out.size))
            clear hb4
            have HTa := Lib.hid (HT4.out.alloc (.cells #[.int .i64 q, .int .i64 s] 23))
            have HBa := Lib.hid (HB4.out.alloc HB4.out.size (.cells #[.int .i64 q, .int .i64 s] 23))
            have HBb := Lib.hid (Blk.new w4 [.int .i64 q, .int .i64 s] 23)
            go_wp2_with fail
            refine Free.wp_region_free 15 [(8, .det (.bool (o == s)))] (fun w' => HasT w' ∧ w'.cell? ⟨w4.heap.size, 0, none⟩ = some (.int .i64 q) ∧ w'.cell? ⟨w4.heap.size, 1, none⟩ = some (.int .i64 s)) (by kernel_rfl) (by kernel_rfl) ?_ ⟨HTa.out.below (Below.refl _ _).drew (Nat.le_refl _), HBb.out.drew.cell 0 (by simp), HBb.out.drew.cell 1 (by simp)⟩ (fun _ _ h g => ⟨h.1.below g (Nat.le_refl _), cell_grow h.2.1 g, cell_grow h.2.2 g⟩) ?_
            · intro j mk r hf
              simp only [Free.find] at hf
              repeat' split at hf
              all_goals (first | cases hf | skip)
            · simp only [List.take_succ_cons, List.take_zero]
              iterate 8 (apply Free.chain_still (by first | exact Free.wanted_of rfl rfl rfl | rfl) rfl; (intro w' hB hA; obtain ⟨q0, q1, q2⟩ := hB; clear hA q0; go_light; go_simp <;> rfl); (try simp only [Act.put, List.setIfInBounds_toArray, List.set_cons_succ, List.set_cons_zero]))
              apply Free.chain_det (by exact Free.wanted_of rfl rfl rfl) rfl
              · intro w' ⟨q0, q1, q2⟩ hA
                refine Free.opRun_call (f := 17) (args := #[.int .i64 v, .string t, .agg #[.int .i64 q, .int .i64 o]]) (by clear q0 q1 q2 hA; go_simp) ?_
                refine (C3.out _ q0).mono ?_
                rintro e w3 ⟨rfl, hb3⟩
                exact ⟨_, rfl, hb3, rfl⟩
              simp only [Act.put, List.setIfInBounds_toArray, List.set_cons_succ, List.set_cons_zero]
              iterate 6 (apply Free.chain_still (by first | exact Free.wanted_of rfl rfl rfl | rfl) rfl; (intro w' hB hA; obtain ⟨q0, q1, q2⟩ := hB; clear hA q0; go_light; go_simp <;> rfl); (try simp only [Act.put, List.setIfInBounds_toArray, List.set_cons_succ, List.set_cons_zero]))
              apply Free.chain_nil
              intro wz hBz hg _
              have hg' := grow_drew hg
              have HBz := Lib.hid (HBa.out.trans (hg'.mono HBa.out.size))
              clear hg hg'
              simp only [List.drop_succ_cons, List.drop_zero]
              go_wp2_with fail
              go_ret
              exact ⟨rfl, HBz.out⟩
          · skip
            go_wp2_with fail
            refine (pub_no x _ hs).mono ?_
            rintro e w' ⟨rfl, rfl⟩
            go_wp2_with fail
            refine (sign_no x t _ hs).mono ?_
            rintro e w4 ⟨rfl, hb4⟩
            have HT4 := Lib.hid (HT3.out.below hb4 (Nat.le_refl _))
            have HB4 := Lib.hid (HB3.out.trans (hb4.mono HB3.out.size))
            clear hb4
            go_wp2_with fail
            go_ret
            exact ⟨rfl, HB4.out.alloc HB4.out.size _⟩
        · exact absurd (ver_once hv1 hv2) hab
  · skip
    go_enter Tryd.func6, Tryd.ntmps6
    go_wp2_with fail
    refine (head29_any _ HT0.out).mono ?_
    rintro e w1 ⟨rfl, hb1⟩
    have HT1 := Lib.hid (HT0.out.below hb1 (Nat.le_refl _))
    have HB1 := Lib.hid (HB0.out.trans (hb1.mono HB0.out.size))
    clear hb1
    go_wp2_with fail
    go_ret
    exact ⟨rfl, HB1.out⟩
end Go.Proofs.YtbepfoaflcgpcaaDoor
