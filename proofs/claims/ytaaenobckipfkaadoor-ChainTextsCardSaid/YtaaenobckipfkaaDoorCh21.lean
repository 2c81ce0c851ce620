/- The law ChainTexts, walked. Condition: the variables of digest and of strconv hold their numbers. -/
import Derived.Test.YtaaenobckipfkaaDoorCh17
import Derived.Test.YtaaenobckipfkaaDoorCh20
namespace Go.Proofs.YtaaenobckipfkaaDoor
open Go.RowKit Go.Blk Go.Opn Go.OpenShut Go.Apl

set_option maxRecDepth 100000 in
theorem run_eql (x y : E31) (W : World) : (binOp .eql 37 (.agg (encE x).toArray) (.agg (encE y).toArray)).run Tryd.prog W = .ok (.bool (eqB x y)) W := by
  obtain ⟨ah, aq, ad, ap, ab, ar, az⟩ := x
  obtain ⟨bh, bq, bd, bp, bb, br, bz⟩ := y
  show (binOp .eql 37 (.agg #[.int .i64 ah, .int .i64 aq, .int .i64 ad, .string ap, .string ab, .int .i64 ar, .int .i64 az]) (.agg #[.int .i64 bh, .int .i64 bq, .int .i64 bd, .string bp, .string bb, .int .i64 br, .int .i64 bz])).run Tryd.prog W = _
  by_cases h1 : ah = bh
  · subst h1
    by_cases h2 : aq = bq
    · subst h2
      by_cases h3 : ad = bd
      · subst h3
        by_cases h4 : ap.toList = bp.toList
        · by_cases h5 : ab.toList = bb.toList
          · by_cases h6 : ar = br
            · subst h6
              by_cases h7 : az = bz
              · subst h7
                have hq : eqB ⟨ah, aq, ad, ap, ab, ar, az⟩ ⟨ah, aq, ad, bp, bb, ar, az⟩ = true := by unfold eqB; simp [h4, h5]
                rw [hq]
                clear hq
                go_simp <;> rfl
              · have hq : eqB ⟨ah, aq, ad, ap, ab, ar, az⟩ ⟨ah, aq, ad, bp, bb, ar, bz⟩ = false := by unfold eqB; simp [h7]
                rw [hq]
                clear hq
                go_simp <;> rfl
            · have hq : eqB ⟨ah, aq, ad, ap, ab, ar, az⟩ ⟨ah, aq, ad, bp, bb, br, bz⟩ = false := by unfold eqB; simp [h6]
              rw [hq]
              clear hq
              go_simp <;> rfl
          · have hq : eqB ⟨ah, aq, ad, ap, ab, ar, az⟩ ⟨ah, aq, ad, bp, bb, br, bz⟩ = false := by unfold eqB; simp [h5]
            rw [hq]
            clear hq
            go_simp <;> rfl
        · have hq : eqB ⟨ah, aq, ad, ap, ab, ar, az⟩ ⟨ah, aq, ad, bp, bb, br, bz⟩ = false := by unfold eqB; simp [h4]
          rw [hq]
          clear hq
          go_simp <;> rfl
      · have hq : eqB ⟨ah, aq, ad, ap, ab, ar, az⟩ ⟨ah, aq, bd, bp, bb, br, bz⟩ = false := by unfold eqB; simp [h3]
        rw [hq]
        clear hq
        go_simp <;> rfl
    · have hq : eqB ⟨ah, aq, ad, ap, ab, ar, az⟩ ⟨ah, bq, bd, bp, bb, br, bz⟩ = false := by unfold eqB; simp [h2]
      rw [hq]
      clear hq
      go_simp <;> rfl
  · have hq : eqB ⟨ah, aq, ad, ap, ab, ar, az⟩ ⟨bh, bq, bd, bp, bb, br, bz⟩ = false := by unfold eqB; simp [h1]
    rw [hq]
    clear hq
    go_simp <;> rfl
theorem exec_eql {o : Oper} {ρ : Operand → Value} {w : World} {a b : Operand} {x y : E31} {Q : Bool} (ho : o.op = .binOp .eql 37 a b 37) (ha : ρ a = .agg (encE x).toArray) (hb : ρ b = .agg (encE y).toArray) (hQ : eqB x y = Q) :
    (execOp ρ o).run Tryd.prog w = .ok (.value (.bool Q)) w := by
  have hg : (eqGuard .eql 37 a b (.agg (encE x).toArray) (.agg (encE y).toArray)).run Tryd.prog w = .ok () w := by
    unfold eqGuard
    simp
  unfold execOp
  simp only [ho, ha, hb, Sem.run_bind, hg, Result.andThen_ok, run_eql, Sem.run_pure, hQ]
set_option maxRecDepth 100000 in
set_option maxHeartbeats 4000000 in
theorem texts31_any (a b : E31) (w : World) (oa : a.Ok) (ob : b.Ok) (hT : HasT w) :
    Calls Tryd.prog 10 #[.agg (encE a).toArray, .agg (encE b).toArray] w fun r w' => r = .returned (.bool true) ∧ Below w.heap.size w w' := by
  obtain ⟨ba, bb0, hbv⟩ := box2 w (encE a) (encE b) 37
  obtain ⟨V, eV⟩ : ∃ V, V = (w.alloc (.cells (encE a).toArray 37)).alloc (.cells (encE b).toArray 37) := ⟨_, rfl⟩
  rw [← eV] at ba bb0 hbv
  have BA := Lib.hid ba
  have BB := Lib.hid bb0
  have HBV := Lib.hid hbv
  have HT := Lib.hid (hT.below hbv (Nat.le_refl _))
  have HT0 := Lib.hid hT
  have C0 : Hid (∀ w' b', SL w' 7 encE (some ⟨b', 0, none⟩) [a, b] → Calls Tryd.prog 24 #[.slice (some ⟨b', 0, none⟩) 2 2, .int .i64 2] w' fun e w2 => e = .returned (.bool (fewB [a, b] 2)) ∧ w' = w2) := fun w' b' hs => few_any (some ⟨b', 0, none⟩) 2 2 [a, b] w' hs (by simp)
  have hQ := texts_law a b
  obtain ⟨F, eF⟩ : ∃ F, F = fewB [a, b] 2 := ⟨_, rfl⟩
  rw [← eF] at C0
  have CF : Hid (F = true → (a.prev.size ≤ 1000000000 ∧ a.body.size ≤ 1000000000) ∧ b.prev.size ≤ 1000000000 ∧ b.body.size ≤ 1000000000) := fun h => by
    obtain ⟨hf2, _⟩ := few_of (l := [a, b]) (n := 2) (by intro e he; simp at he; rcases he with rfl | rfl <;> assumption) (by rw [← eF]; exact h)
    obtain ⟨_, a2, a3⟩ := hf2 a (by simp)
    obtain ⟨_, b2, b3⟩ := hf2 b (by simp)
    exact ⟨⟨a2, a3⟩, b2, b3⟩
  have CA : Hid (F = true → ∀ w', HasT w' → Calls Tryd.prog 19 #[.agg (encE a).toArray] w' fun en w2 => en = .returned (.string (txE a)) ∧ Below w'.heap.size w' w2) := fun h w' hT => text31_any a w' oa (CF.out h).1.1 (CF.out h).1.2 hT
  have CB : Hid (F = true → ∀ w', HasT w' → Calls Tryd.prog 19 #[.agg (encE b).toArray] w' fun en w2 => en = .returned (.string (txE b)) ∧ Below w'.heap.size w' w2) := fun h w' hT => text31_any b w' ob (CF.out h).2.1 (CF.out h).2.2 hT
  obtain ⟨ta, eta⟩ : ∃ ta, ta = txE a := ⟨_, rfl⟩
  obtain ⟨tb, etb⟩ : ∃ tb, tb = txE b := ⟨_, rfl⟩
  obtain ⟨Q, eQ⟩ : ∃ Q, Q = eqB (bare a) (bare b) := ⟨_, rfl⟩
  rw [← eta] at CA hQ
  rw [← etb] at CB hQ
  rw [← eQ] at hQ
  have HEQ : Hid (eqB (bare a) (bare b) = Q) := eQ.symm
  unfold bare at HEQ
  obtain ⟨ah, aq, ad, ap, ab, ar, az⟩ := a
  obtain ⟨bh, bq, bd, bp, bb, br, bz⟩ := b
  have HQ := Lib.hid hQ
  clear ba bb0 hbv hT oa ob eF CF eta etb eQ hQ
  go_enter Tryd.func10, Tryd.ntmps10
  go_wp2_with fail
  rw [← eV]
  refine (head31_any _ HT.out).mono ?_
  rintro e w1 ⟨rfl, hb1⟩
  have HB1 := Lib.hid (HBV.out.trans (hb1.mono HBV.out.size))
  have BA := Lib.hid (BA.out.below hb1 BA.out.lt)
  have BB := Lib.hid (BB.out.below hb1 BB.out.lt)
  have c0 := BA.out.cellD 0 _ rfl
  have c1 := BA.out.cellD 1 _ rfl
  have c2 := BA.out.cellD 2 _ rfl
  have c3 := BA.out.cellD 3 _ rfl
  have c4 := BA.out.cellD 4 _ rfl
  have c5 := BA.out.cellD 5 _ rfl
  have c6 := BA.out.cellD 6 _ rfl
  have d0 := BB.out.cellD 0 _ rfl
  have d1 := BB.out.cellD 1 _ rfl
  have d2 := BB.out.cellD 2 _ rfl
  have d3 := BB.out.cellD 3 _ rfl
  have d4 := BB.out.cellD 4 _ rfl
  have d5 := BB.out.cellD 5 _ rfl
  have d6 := BB.out.cellD 6 _ rfl
  clear hb1
  go_wp2_with fail
  obtain ⟨W, eW⟩ : ∃ W, W = w1.alloc (.cells #[.int .i64 ah, .int .i64 aq, .int .i64 ad, .string ap, .string ab, .int .i64 ar, .int .i64 az, .int .i64 bh, .int .i64 bq, .int .i64 bd, .string bp, .string bb, .int .i64 br, .int .i64 bz] 37) := ⟨_, rfl⟩
  have hbW : Below w1.heap.size w1 W := by rw [eW]; exact (Below.refl _ _).alloc (Nat.le_refl _) _
  have sW : SL W 7 encE (some ⟨w1.heap.size, 0, none⟩) [⟨ah, aq, ad, ap, ab, ar, az⟩, ⟨bh, bq, bd, bp, bb, br, bz⟩] := by
    rw [eW]; exact sl_of_cells encE_len (heap_alloc_last _ _) (fun j u hu => by simpa [encE] using hu)
  have HB1 := Lib.hid (HB1.out.trans (hbW.mono HB1.out.size))
  have BA := Lib.hid (BA.out.below hbW BA.out.lt)
  have BB := Lib.hid (BB.out.below hbW BB.out.lt)
  rw [← eW]
  refine (C0.out _ _ sW).mono ?_
  rintro e w' ⟨rfl, rfl⟩
  clear C0 eW hbW sW c0 c1 c2 c3 c4 c5 c6 d0 d1 d2 d3 d4 d5 d6
  cases F with
  | false =>
    clear CA CB
    go_wp2_with fail
    go_ret
    exact ⟨rfl, HB1.out⟩
  | true =>
    have CA2 := Lib.hid (CA.out rfl)
    have CB2 := Lib.hid (CB.out rfl)
    clear CA CB
    have c0 := BA.out.cellD 0 _ rfl
    have c1 := BA.out.cellD 1 _ rfl
    have c2 := BA.out.cellD 2 _ rfl
    have c3 := BA.out.cellD 3 _ rfl
    have c4 := BA.out.cellD 4 _ rfl
    have c5 := BA.out.cellD 5 _ rfl
    have c6 := BA.out.cellD 6 _ rfl
    have b3 := BB.out.alloc (.cells #[.int .i64 ah, .int .i64 aq, .int .i64 ad, .string ap, .string ab, .int .i64 ar, .int .i64 az] 37)
    have d0 := b3.cellD 0 _ rfl
    have d1 := b3.cellD 1 _ rfl
    have d2 := b3.cellD 2 _ rfl
    have d3 := b3.cellD 3 _ rfl
    have d4 := b3.cellD 4 _ rfl
    have d5 := b3.cellD 5 _ rfl
    have d6 := b3.cellD 6 _ rfl
    clear b3
    go_wp2_with fail
    obtain ⟨bx, bY, hbU⟩ := box2 W (encE ⟨ah, aq, ad, ap, ab, 0, 0⟩) (encE ⟨bh, bq, bd, bp, bb, 0, 0⟩) 37
    obtain ⟨U, eU⟩ : ∃ U, U = (W.alloc (.cells (encE ⟨ah, aq, ad, ap, ab, 0, 0⟩).toArray 37)).alloc (.cells (encE ⟨bh, bq, bd, bp, bb, 0, 0⟩).toArray 37) := ⟨_, rfl⟩
    rw [← eU] at bx bY hbU
    have b1 := BA.out.below hbU BA.out.lt
    have b2 := BB.out.below hbU BB.out.lt
    have HBU := Lib.hid (HB1.out.trans (hbU.mono HB1.out.size))
    have TU : HasT U.drew := (HT0.out.below HBU.out (Nat.le_refl _)).below (B := U.heap.size) ⟨rfl, rfl, rfl, Nat.le_refl _, fun _ _ => rfl⟩ (Nat.le_refl _)
    have hw : (W.alloc (.cells #[.int .i64 ah, .int .i64 aq, .int .i64 ad, .string ap, .string ab, .int .i64 0, .int .i64 0] 37)).alloc (.cells #[.int .i64 bh, .int .i64 bq, .int .i64 bd, .string bp, .string bb, .int .i64 0, .int .i64 0] 37) = U := eU.symm
    rw [hw]
    clear c0 c1 c2 c3 c4 c5 c6 d0 d1 d2 d3 d4 d5 d6 eU hw hbU HB1
    refine Free.wp_region_free 12 [(3, .det (.string ta)), (5, .det (.string tb))] (fun w2 => HasT w2 ∧ Blk w2 w.heap.size (encE ⟨ah, aq, ad, ap, ab, ar, az⟩) 37 ∧ Blk w2 (w.heap.size + 1) (encE ⟨bh, bq, bd, bp, bb, br, bz⟩) 37 ∧ Blk w2 W.heap.size (encE ⟨ah, aq, ad, ap, ab, 0, 0⟩) 37 ∧ Blk w2 (W.heap.size + 1) (encE ⟨bh, bq, bd, bp, bb, 0, 0⟩) 37) (by kernel_rfl) (by kernel_rfl) ?_ ⟨TU, b1.drew, b2.drew, bx.drew, bY.drew⟩
      (fun _ _ h g => ⟨h.1.below g (Nat.le_refl _), h.2.1.below g h.2.1.lt, h.2.2.1.below g h.2.2.1.lt, h.2.2.2.1.below g h.2.2.2.1.lt, h.2.2.2.2.below g h.2.2.2.2.lt⟩) ?_
    · intro j mk r hf
      simp only [Free.find] at hf
      repeat' split at hf
      all_goals (first | cases hf | skip)
    simp only [List.take_succ_cons, List.take_zero]
    clear b1 b2 bx bY TU
    iterate 2 (apply Free.chain_still (by first | exact Free.wanted_of rfl rfl rfl | rfl) rfl; (intro w' hB hA; obtain ⟨qT, q1, q2, q3, q4⟩ := hB; clear hA  qT q1 q2 q3 q4; go_light; go_simp <;> rfl); (try simp only [Act.put, List.setIfInBounds_toArray, List.set_cons_succ, List.set_cons_zero]))
    apply Free.chain_still (by first | exact Free.wanted_of rfl rfl rfl | rfl) rfl
    · intro w' hB hA
      exact exec_entry (x := ⟨ah, aq, ad, ap, ab, ar, az⟩) rfl rfl (fun p u hu => by rw [Nat.zero_add]; exact hB.2.1.cellD p u hu)
    simp only [Act.put, List.setIfInBounds_toArray, List.set_cons_succ, List.set_cons_zero]
    apply Free.chain_det (by first | exact Free.wanted_of rfl rfl rfl | rfl) rfl
    · intro w' hB hA
      refine Free.opRun_call (f := 19) (args := #[.agg (encE ⟨ah, aq, ad, ap, ab, ar, az⟩).toArray]) (by clear hB hA; go_simp <;> rfl) ?_
      refine (CA2.out _ hB.1).mono ?_
      rintro e w3 ⟨rfl, hb3⟩
      exact ⟨_, rfl, hb3, rfl⟩
    simp only [Act.put, List.setIfInBounds_toArray, List.set_cons_succ, List.set_cons_zero]
    apply Free.chain_still (by first | exact Free.wanted_of rfl rfl rfl | rfl) rfl
    · intro w' hB hA
      exact exec_entry (x := ⟨bh, bq, bd, bp, bb, br, bz⟩) rfl rfl (fun p u hu => by rw [Nat.zero_add]; exact hB.2.2.1.cellD p u hu)
    simp only [Act.put, List.setIfInBounds_toArray, List.set_cons_succ, List.set_cons_zero]
    apply Free.chain_det (by first | exact Free.wanted_of rfl rfl rfl | rfl) rfl
    · intro w' hB hA
      refine Free.opRun_call (f := 19) (args := #[.agg (encE ⟨bh, bq, bd, bp, bb, br, bz⟩).toArray]) (by clear hB hA; go_simp <;> rfl) ?_
      refine (CB2.out _ hB.1).mono ?_
      rintro e w3 ⟨rfl, hb3⟩
      exact ⟨_, rfl, hb3, rfl⟩
    simp only [Act.put, List.setIfInBounds_toArray, List.set_cons_succ, List.set_cons_zero]
    have hQ := HQ.out
    iterate 1 (apply Free.chain_still (by first | exact Free.wanted_of rfl rfl rfl | rfl) rfl; (intro w' hB hA; obtain ⟨qT, q1, q2, q3, q4⟩ := hB; clear hA  qT q1 q2 q3 q4; go_light; go_simp <;> rfl); (try simp only [Act.put, List.setIfInBounds_toArray, List.set_cons_succ, List.set_cons_zero]))
    clear hQ
    apply Free.chain_still (by first | exact Free.wanted_of rfl rfl rfl | rfl) rfl
    · intro w' hB hA
      exact exec_entry (x := ⟨ah, aq, ad, ap, ab, 0, 0⟩) rfl rfl (fun p u hu => by rw [Nat.zero_add]; exact hB.2.2.2.1.cellD p u hu)
    simp only [Act.put, List.setIfInBounds_toArray, List.set_cons_succ, List.set_cons_zero]
    apply Free.chain_still (by first | exact Free.wanted_of rfl rfl rfl | rfl) rfl
    · intro w' hB hA
      exact exec_entry (x := ⟨bh, bq, bd, bp, bb, 0, 0⟩) rfl rfl (fun p u hu => by rw [Nat.zero_add]; exact hB.2.2.2.2.cellD p u hu)
    simp only [Act.put, List.setIfInBounds_toArray, List.set_cons_succ, List.set_cons_zero]
    apply Free.chain_still (by first | exact Free.wanted_of rfl rfl rfl | rfl) rfl
    · intro w' hB hA
      exact exec_eql (x := ⟨ah, aq, ad, ap, ab, 0, 0⟩) (y := ⟨bh, bq, bd, bp, bb, 0, 0⟩) (Q := Q) rfl rfl rfl HEQ.out
    simp only [Act.put, List.setIfInBounds_toArray, List.set_cons_succ, List.set_cons_zero]
    iterate 2 (apply Free.chain_still (by first | exact Free.wanted_of rfl rfl rfl | rfl) rfl; (intro w' hB hA; obtain ⟨qT, q1, q2, q3, q4⟩ := hB; clear hA  qT q1 q2 q3 q4; go_light; go_simp <;> rfl); (try simp only [Act.put, List.setIfInBounds_toArray, List.set_cons_succ, List.set_cons_zero]))
    apply Free.chain_nil
    intro wz _ hg _
    simp only [List.drop_succ_cons, List.drop_zero]
    have hz := grow_drew2 hg
    have FIN := Lib.hid (HBU.out.trans (hz.mono HBU.out.size))
    clear hg hz HBU CA2 CB2
    go_wp2_with fail
    go_ret
    exact ⟨rfl, FIN.out⟩
end Go.Proofs.YtaaenobckipfkaaDoor
