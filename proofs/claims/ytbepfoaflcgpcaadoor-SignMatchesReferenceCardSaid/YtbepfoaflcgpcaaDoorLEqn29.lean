/- The walks of SignEquation and SignTexts: the laws answer true for every input. Condition: the variables of digest and of strconv hold their numbers. -/
import Derived.Test.YtbepfoaflcgpcaaDoorLOnce29
namespace Go.Proofs.YtbepfoaflcgpcaaDoor
open Go.RowKit Go.W32 Go.Blk Go.Sg Go.OpenShut

theorem lch_int (r y : Int) (t : ByteArray) (w : World) (hr0 : 0 ≤ r) (hr1 : r ≤ 9223372036854775807) (hy0 : 0 ≤ y) (hy1 : y ≤ 9223372036854775807) (ht : t.size ≤ 1000000000000) (hT : HasT w) :
    Calls Tryd.prog 19 #[.int .i64 r, .int .i64 y, .string t] w fun e w' => e = .returned (.int .i64 (chal r y t)) ∧ Below w.heap.size w w' := by
  obtain ⟨r, rfl⟩ : ∃ n : Nat, r = n := ⟨r.toNat, by omega⟩
  obtain ⟨y, rfl⟩ : ∃ n : Nat, y = n := ⟨y.toNat, by omega⟩
  exact lch_any r y t w (by omega) (by omega) ht hT
theorem grow_same {w w' : World} (h : w = w') : Free.Grow w w' := by subst h; exact Free.Grow.refl _
set_option maxRecDepth 100000 in
set_option maxHeartbeats 2000000 in
theorem eqn_any (y : Int) (t : ByteArray) (r s : Int) (w : World) (_h1 : (Lit.int .i64 y).wf = true) (_h2 : (Lit.int .i64 r).wf = true) (_h3 : (Lit.int .i64 s).wf = true) (hT : HasT w) :
    Calls Tryd.prog 5 #[.int .i64 y, .string t, .agg #[.int .i64 r, .int .i64 s]] w fun r w' => r = .returned (.bool true) ∧ Below w.heap.size w w' := by
  have HT0 := Lib.hid (hT.alloc (.cells #[.int .i64 r, .int .i64 s] 23))
  have HB0 := Lib.hid ((Below.refl w.heap.size w).alloc (Nat.le_refl _) (.cells #[.int .i64 r, .int .i64 s] 23))
  have B0 := Blk.new w [.int .i64 r, .int .i64 s] 23
  have h0 := B0.cell 0 (by simp)
  have h1 := B0.cell 1 (by simp)
  simp only [List.getElem_cons_zero, List.getElem_cons_succ] at h0 h1
  clear hT _h1 _h2 _h3
  by_cases ht : t.size ≤ 300
  · have ht' : t.size ≤ 1000000000000 := by omega
    by_cases hv : verOk y r s
    · obtain ⟨hr1, hr2, hs1, hs2, hy1, hy2⟩ := hv
      have hcr := chal_range r y t
      have c1 := fun w h => lch_int r y t w (by omega) (by omega) (by omega) (by omega) ht' h
      have p1 := fun w => power_any y (chal r y t) w (by omega)
      have p2 := fun w => power_any 7 s w (by omega)
      have v1 := fun w h => ver_yes y t r s w ⟨hr1, hr2, hs1, hs2, hy1, hy2⟩ ht' h
      have hpr := power_range y (chal r y t)
      obtain ⟨c, ec⟩ : ∃ c, c = chal r y t := ⟨_, rfl⟩
      simp only [← ec] at hcr c1 p1 hpr v1
      obtain ⟨q, eq⟩ : ∃ q, q = power y c := ⟨_, rfl⟩
      simp only [← eq] at hpr p1 v1
      obtain ⟨v, ev⟩ : ∃ v, v = power 7 s := ⟨_, rfl⟩
      simp only [← ev] at p2 v1
      have hm0 : 0 ≤ r * q := Int.mul_nonneg (by omega) hpr.1
      have hm1 : r * q ≤ 4611686009837453316 := by
        have := Int.mul_le_mul hr2 hpr.2 (by omega) (by omega)
        omega
      have C1 := Lib.hid c1
      have P1 := Lib.hid p1
      have P2 := Lib.hid p2
      have V1 := Lib.hid v1
      clear ec eq ev c1 p1 p2 v1
      go_enter Tryd.func5, Tryd.ntmps5
      go_wp2_with fail
      refine (head29_any _ HT0.out).mono ?_
      rintro e w1 ⟨rfl, hb1⟩
      have HT1 := Lib.hid (HT0.out.below hb1 (Nat.le_refl _))
      have HB1 := Lib.hid (HB0.out.trans (hb1.mono HB0.out.size))
      have B1 := B0.below hb1 B0.lt
      have h10 := B1.cell 0 (by simp)
      have h11 := B1.cell 1 (by simp)
      simp only [List.getElem_cons_zero, List.getElem_cons_succ] at h10 h11
      have HB1b := Lib.hid B1
      clear B0 B1 hb1 h0 h1
      go_wp2_with fail
      have hw1 : IntKind.i64.wrap (r * q) = r * q := IntWalk.i64_in _ (by omega)
      have hw2 : (r * q).tmod 2147483647 = r * q % 2147483647 := Int.tmod_eq_emod_of_nonneg hm0
      have HW1 := Lib.hid hw1
      have HW2 := Lib.hid hw2
      clear hw1 hw2
      refine Free.wp_region_free 11 [(7, .det (.int .i64 c)), (8, .det (.int .i64 q))] (fun w' => HasT w' ∧ w'.cell? ⟨w.heap.size, 0, none⟩ = some (.int .i64 r) ∧ w'.cell? ⟨w.heap.size, 1, none⟩ = some (.int .i64 s)) (by kernel_rfl) (by kernel_rfl) ?_ ⟨HT1.out.below (Below.refl _ _).drew (Nat.le_refl _), h10, h11⟩ (fun _ _ h g => ⟨h.1.below g (Nat.le_refl _), cell_grow h.2.1 g, cell_grow h.2.2 g⟩) ?_
      · intro j mk r hf
        simp only [Free.find] at hf
        repeat' split at hf
        all_goals (first | cases hf | skip)
      · simp only [List.take_succ_cons, List.take_zero]
        clear h10 h11
        iterate 7 (apply Free.chain_still (by first | exact Free.wanted_of rfl rfl rfl | rfl) rfl; (intro w' hB hA; obtain ⟨q0, q1, q2⟩ := hB; clear hA q0; go_light; go_simp <;> rfl); (try simp only [Act.put, List.setIfInBounds_toArray, List.set_cons_succ, List.set_cons_zero]))
        apply Free.chain_det rfl rfl
        · intro w' ⟨q0, q1, q2⟩ hA
          refine Free.opRun_call (f := 19) (args := #[.int .i64 r, .int .i64 y, .string t]) (by clear q0 q1 q2 hA; go_simp) ?_
          refine (C1.out _ q0).mono ?_
          rintro e w3 ⟨rfl, hb3⟩
          exact ⟨_, rfl, hb3, rfl⟩
        simp only [Act.put, List.setIfInBounds_toArray, List.set_cons_succ, List.set_cons_zero]
        apply Free.chain_det rfl rfl
        · intro w' ⟨q0, q1, q2⟩ hA
          refine Free.opRun_call (f := 15) (args := #[.int .i64 y, .int .i64 c]) (by clear q0 q1 q2 hA; go_simp) ?_
          refine (P1.out _).mono ?_
          rintro e w3 ⟨rfl, hb3⟩
          exact ⟨_, rfl, grow_same hb3, rfl⟩
        simp only [Act.put, List.setIfInBounds_toArray, List.set_cons_succ, List.set_cons_zero]
        have hw1 := HW1.out
        have hw2 := HW2.out
        iterate 2 (apply Free.chain_still (by first | exact Free.wanted_of rfl rfl rfl | rfl) rfl; (intro w' hB hA; obtain ⟨q0, q1, q2⟩ := hB; clear hA q0; go_light; go_simp <;> rfl); (try simp only [Act.put, List.setIfInBounds_toArray, List.set_cons_succ, List.set_cons_zero]))
        apply Free.chain_nil
        intro w2 hB2 hg _
        have hg' := grow_drew hg
        have HB2 := Lib.hid (HB1.out.trans (hg'.mono HB1.out.size))
        obtain ⟨hT2, h20, h21⟩ := hB2
        have HT2 := Lib.hid hT2
        clear hg hg' hw1 hw2 hT2 HB1b
        simp only [List.drop_succ_cons, List.drop_zero]
        go_wp2_with fail
        refine Free.wp_region_free 13 [(5, .det (.bool (v == r * q % 2147483647))), (8, .det (.int .i64 v))] (fun w' => HasT w' ∧ w'.cell? ⟨w.heap.size, 0, none⟩ = some (.int .i64 r) ∧ w'.cell? ⟨w.heap.size, 1, none⟩ = some (.int .i64 s)) (by kernel_rfl) (by kernel_rfl) ?_ ⟨HT2.out.below (Below.refl _ _).drew (Nat.le_refl _), h20, h21⟩ (fun _ _ h g => ⟨h.1.below g (Nat.le_refl _), cell_grow h.2.1 g, cell_grow h.2.2 g⟩) ?_
        · intro j mk r hf
          simp only [Free.find] at hf
          repeat' split at hf
          all_goals (first | cases hf | skip)
        · simp only [List.take_succ_cons, List.take_zero]
          clear h20 h21
          iterate 5 (apply Free.chain_still (by first | exact Free.wanted_of rfl rfl rfl | rfl) rfl; (intro w' hB hA; obtain ⟨q0, q1, q2⟩ := hB; clear hA q0; go_light; go_simp <;> rfl); (try simp only [Act.put, List.setIfInBounds_toArray, List.set_cons_succ, List.set_cons_zero]))
          apply Free.chain_det (by exact Free.wanted_of rfl rfl rfl) rfl
          · intro w' ⟨q0, q1, q2⟩ hA
            refine Free.opRun_call (f := 17) (args := #[.int .i64 y, .string t, .agg #[.int .i64 r, .int .i64 s]]) (by clear q0 q1 q2 hA; go_simp) ?_
            refine (V1.out _ q0).mono ?_
            rintro e w3 ⟨rfl, hb3⟩
            exact ⟨_, rfl, hb3, rfl⟩
          simp only [Act.put, List.setIfInBounds_toArray, List.set_cons_succ, List.set_cons_zero]
          iterate 2 (apply Free.chain_still (by first | exact Free.wanted_of rfl rfl rfl | rfl) rfl; (intro w' hB hA; obtain ⟨q0, q1, q2⟩ := hB; clear hA q0; go_light; go_simp <;> rfl); (try simp only [Act.put, List.setIfInBounds_toArray, List.set_cons_succ, List.set_cons_zero]))
          apply Free.chain_det (by exact Free.wanted_of rfl rfl rfl) rfl
          · intro w' ⟨q0, q1, q2⟩ hA
            refine Free.opRun_call (f := 15) (args := #[.int .i64 7, .int .i64 s]) (by clear q0 q1 q2 hA; go_simp) ?_
            refine (P2.out _).mono ?_
            rintro e w3 ⟨rfl, hb3⟩
            exact ⟨_, rfl, grow_same hb3, rfl⟩
          simp only [Act.put, List.setIfInBounds_toArray, List.set_cons_succ, List.set_cons_zero]
          iterate 4 (apply Free.chain_still (by first | exact Free.wanted_of rfl rfl rfl | rfl) rfl; (intro w' hB hA; obtain ⟨q0, q1, q2⟩ := hB; clear hA q0; go_light; go_simp <;> rfl); (try simp only [Act.put, List.setIfInBounds_toArray, List.set_cons_succ, List.set_cons_zero]))
          apply Free.chain_nil
          intro w3 hB3 hg _
          have hg' := grow_drew hg
          have HB3 := Lib.hid (HB2.out.trans (hg'.mono HB2.out.size))
          clear hg hg'
          simp only [List.drop_succ_cons, List.drop_zero]
          go_wp2_with fail
          go_ret
          exact ⟨rfl, HB3.out⟩
    · have n1 := fun w (_ : HasT w) => ver_no y t r s w hv
      have N1 := Lib.hid n1
      have HV := Lib.hid hv
      clear n1 hv
      by_cases y1 : y < 1
      · go_enter Tryd.func5, Tryd.ntmps5
        go_wp2_with fail
        refine (head29_any _ HT0.out).mono ?_
        rintro e w1 ⟨rfl, hb1⟩
        have HT1 := Lib.hid (HT0.out.below hb1 (Nat.le_refl _))
        have HB1 := Lib.hid (HB0.out.trans (hb1.mono HB0.out.size))
        have B1 := B0.below hb1 B0.lt
        have h10 := B1.cell 0 (by simp)
        have h11 := B1.cell 1 (by simp)
        simp only [List.getElem_cons_zero, List.getElem_cons_succ] at h10 h11
        clear B0 B1 hb1 h0 h1
        go_wp2_with fail
        refine (N1.out _ HT1.out).mono ?_
        rintro e w2 ⟨rfl, hb2⟩
        have HT2 := Lib.hid (HT1.out.below hb2 (Nat.le_refl _))
        have HB2 := Lib.hid (HB1.out.trans (hb2.mono HB1.out.size))
        clear hb2
        go_wp2_with fail
        go_ret
        exact ⟨rfl, HB2.out⟩
      · by_cases y2 : 2147483647 ≤ y
        · go_enter Tryd.func5, Tryd.ntmps5
          go_wp2_with fail
          refine (head29_any _ HT0.out).mono ?_
          rintro e w1 ⟨rfl, hb1⟩
          have HT1 := Lib.hid (HT0.out.below hb1 (Nat.le_refl _))
          have HB1 := Lib.hid (HB0.out.trans (hb1.mono HB0.out.size))
          have B1 := B0.below hb1 B0.lt
          have h10 := B1.cell 0 (by simp)
          have h11 := B1.cell 1 (by simp)
          simp only [List.getElem_cons_zero, List.getElem_cons_succ] at h10 h11
          clear B0 B1 hb1 h0 h1
          go_wp2_with fail
          refine (N1.out _ HT1.out).mono ?_
          rintro e w2 ⟨rfl, hb2⟩
          have HT2 := Lib.hid (HT1.out.below hb2 (Nat.le_refl _))
          have HB2 := Lib.hid (HB1.out.trans (hb2.mono HB1.out.size))
          clear hb2
          go_wp2_with fail
          go_ret
          exact ⟨rfl, HB2.out⟩
        · by_cases r1 : r < 1
          · go_enter Tryd.func5, Tryd.ntmps5
            go_wp2_with fail
            refine (head29_any _ HT0.out).mono ?_
            rintro e w1 ⟨rfl, hb1⟩
            have HT1 := Lib.hid (HT0.out.below hb1 (Nat.le_refl _))
            have HB1 := Lib.hid (HB0.out.trans (hb1.mono HB0.out.size))
            have B1 := B0.below hb1 B0.lt
            have h10 := B1.cell 0 (by simp)
            have h11 := B1.cell 1 (by simp)
            simp only [List.getElem_cons_zero, List.getElem_cons_succ] at h10 h11
            clear B0 B1 hb1 h0 h1
            go_wp2_with fail
            refine (N1.out _ HT1.out).mono ?_
            rintro e w2 ⟨rfl, hb2⟩
            have HT2 := Lib.hid (HT1.out.below hb2 (Nat.le_refl _))
            have HB2 := Lib.hid (HB1.out.trans (hb2.mono HB1.out.size))
            clear hb2
            go_wp2_with fail
            go_ret
            exact ⟨rfl, HB2.out⟩
          · by_cases r2 : 2147483647 ≤ r
            · go_enter Tryd.func5, Tryd.ntmps5
              go_wp2_with fail
              refine (head29_any _ HT0.out).mono ?_
              rintro e w1 ⟨rfl, hb1⟩
              have HT1 := Lib.hid (HT0.out.below hb1 (Nat.le_refl _))
              have HB1 := Lib.hid (HB0.out.trans (hb1.mono HB0.out.size))
              have B1 := B0.below hb1 B0.lt
              have h10 := B1.cell 0 (by simp)
              have h11 := B1.cell 1 (by simp)
              simp only [List.getElem_cons_zero, List.getElem_cons_succ] at h10 h11
              clear B0 B1 hb1 h0 h1
              go_wp2_with fail
              refine (N1.out _ HT1.out).mono ?_
              rintro e w2 ⟨rfl, hb2⟩
              have HT2 := Lib.hid (HT1.out.below hb2 (Nat.le_refl _))
              have HB2 := Lib.hid (HB1.out.trans (hb2.mono HB1.out.size))
              clear hb2
              go_wp2_with fail
              go_ret
              exact ⟨rfl, HB2.out⟩
            · by_cases s1 : s < 0
              · go_enter Tryd.func5, Tryd.ntmps5
                go_wp2_with fail
                refine (head29_any _ HT0.out).mono ?_
                rintro e w1 ⟨rfl, hb1⟩
                have HT1 := Lib.hid (HT0.out.below hb1 (Nat.le_refl _))
                have HB1 := Lib.hid (HB0.out.trans (hb1.mono HB0.out.size))
                have B1 := B0.below hb1 B0.lt
                have h10 := B1.cell 0 (by simp)
                have h11 := B1.cell 1 (by simp)
                simp only [List.getElem_cons_zero, List.getElem_cons_succ] at h10 h11
                clear B0 B1 hb1 h0 h1
                go_wp2_with fail
                refine (N1.out _ HT1.out).mono ?_
                rintro e w2 ⟨rfl, hb2⟩
                have HT2 := Lib.hid (HT1.out.below hb2 (Nat.le_refl _))
                have HB2 := Lib.hid (HB1.out.trans (hb2.mono HB1.out.size))
                clear hb2
                go_wp2_with fail
                go_ret
                exact ⟨rfl, HB2.out⟩
              · have s2 : 2147483646 ≤ s := Classical.byContradiction fun s2 => HV.out ⟨by omega, by omega, by omega, by omega, by omega, by omega⟩
                go_enter Tryd.func5, Tryd.ntmps5
                go_wp2_with fail
                refine (head29_any _ HT0.out).mono ?_
                rintro e w1 ⟨rfl, hb1⟩
                have HT1 := Lib.hid (HT0.out.below hb1 (Nat.le_refl _))
                have HB1 := Lib.hid (HB0.out.trans (hb1.mono HB0.out.size))
                have B1 := B0.below hb1 B0.lt
                have h10 := B1.cell 0 (by simp)
                have h11 := B1.cell 1 (by simp)
                simp only [List.getElem_cons_zero, List.getElem_cons_succ] at h10 h11
                clear B0 B1 hb1 h0 h1
                go_wp2_with fail
                refine (N1.out _ HT1.out).mono ?_
                rintro e w2 ⟨rfl, hb2⟩
                have HT2 := Lib.hid (HT1.out.below hb2 (Nat.le_refl _))
                have HB2 := Lib.hid (HB1.out.trans (hb2.mono HB1.out.size))
                clear hb2
                go_wp2_with fail
                go_ret
                exact ⟨rfl, HB2.out⟩
  · skip
    go_enter Tryd.func5, Tryd.ntmps5
    go_wp2_with fail
    refine (head29_any _ HT0.out).mono ?_
    rintro e w1 ⟨rfl, hb1⟩
    have HT1 := Lib.hid (HT0.out.below hb1 (Nat.le_refl _))
    have HB1 := Lib.hid (HB0.out.trans (hb1.mono HB0.out.size))
    clear hb1
    go_wp2_with fail
    go_ret
    exact ⟨rfl, HB1.out⟩
end Go.Proofs.YtbepfoaflcgpcaaDoor
