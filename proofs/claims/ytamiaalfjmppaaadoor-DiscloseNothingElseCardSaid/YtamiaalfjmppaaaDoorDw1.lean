/- The law DiscloseLeaves, walked. Condition: the variables of digest and of strconv hold their numbers. -/
import Derived.Test.YtamiaalfjmppaaaDoorDw0
import Derived.Test.YtamiaalfjmppaaaDoorRow
namespace Go.Proofs.YtamiaalfjmppaaaDoor
open Go.RowKit Go.Blk Go.Sg Go.Opn Go.Di

theorem leafT_size (x : Fac) (s : ByteArray) (hx : x.Ok) (h1 : s.size ≤ 900000000) : (leafT x s).size ≤ 1000000000 := by
  have hs := bdP_size hx 6
  have s1 := dec_size (s.size : Int) (by omega) (by omega)
  have e : (leafT x s).size = 4 + 1 + (dec (s.size : Int)).size + 1 + s.size + (bdF x).size := by unfold leafT tagT; rw [ba_size, ba_size, ba_size, ba_size, ba_size]; rfl
  have : (bdF x).size = (bdP x 6).size := rfl
  omega
def sameL (a b : Fac) (s t : ByteArray) : Bool := eqF a b && (s.toList == t.toList)
theorem leaves_law (a b : Fac) (s t : ByteArray) (ha : a.Ok) (hb : b.Ok) :
    (((leafD a s).toList == (leafD b t).toList) == (sameL a b s t || clashB (leafT a s) (leafT b t))) = true := by
  have e1 : leafD a s = sumB KC (leafT a s) := rfl
  have e2 : leafD b t = sumB KC (leafT b t) := rfl
  by_cases h : a = b ∧ s = t
  · obtain ⟨rfl, rfl⟩ := h
    unfold sameL
    rw [eqF_self]
    simp
  · have hs : sameL a b s t = false := by
      unfold sameL
      by_cases hab : a = b
      · have hst : ¬ s = t := fun e => h ⟨hab, e⟩
        cases hq : (s.toList == t.toList) with
        | false => simp
        | true => exact absurd (tl_eq (by simpa using hq)) hst
      · rw [eqF_no hab]; rfl
    have hne : leafT a s ≠ leafT b t := fun e => h (leafT_inj ha hb e)
    rw [hs, Bool.false_or]
    unfold clashB
    rw [decide_eq_true hne, Bool.true_and, e1, e2]
    by_cases hd : sumB KC (leafT a s) = sumB KC (leafT b t)
    · rw [decide_eq_true hd, hd]; simp
    · rw [decide_eq_false hd]
      cases hq : ((sumB KC (leafT a s)).toList == (sumB KC (leafT b t)).toList) with
      | false => rfl
      | true => exact absurd (tl_eq (by simpa using hq)) hd
set_option maxRecDepth 100000 in
set_option maxHeartbeats 4000000 in
theorem leaves34_law (a b : Fac) (s t : ByteArray) (w : World) (oa : a.Ok) (ob : b.Ok) (hT : HasT w) :
    Calls Tryd.prog 7 #[.agg (encF a).toArray, .agg (encF b).toArray, .string s, .string t] w fun r w' => r = .returned (.bool true) ∧ Below w.heap.size w w' := by
  obtain ⟨R, eR⟩ : ∃ R : Ending → World → Prop, R = fun r w' => r = .returned (.bool true) ∧ Below w.heap.size w w' := ⟨_, rfl⟩
  rw [← eR]
  have FIN : Hid (∀ w', Below w.heap.size w w' → R (.returned (.bool true)) w') := fun w' hb => by rw [eR]; exact ⟨rfl, hb⟩
  obtain ⟨ba, bb0, hbv⟩ := box2 w (encF a) (encF b) 25
  obtain ⟨V, eV⟩ : ∃ V, V = (w.alloc (.cells (encF a).toArray 25)).alloc (.cells (encF b).toArray 25) := ⟨_, rfl⟩
  rw [← eV] at ba bb0 hbv
  have BA := Lib.hid ba
  have BB := Lib.hid bb0
  have HBV := Lib.hid hbv
  have HT := Lib.hid (hT.below hbv (Nat.le_refl _))
  have LAW := Lib.hid (leaves_law a b s t oa ob)
  have OA := Lib.hid oa
  have OB := Lib.hid ob
  have HH := Lib.hid (fun w h => head34_any w h)
  obtain ⟨ar, aa, al, ah, af, az⟩ := a
  obtain ⟨br, b1, bl, bh, bf, bz⟩ := b
  clear ba bb0 hbv hT eR oa ob
  go_enter Tryd.func7, Tryd.ntmps7
  go_wp2_with fail
  rw [← eV]
  clear eV
  refine (HH.out _ HT.out).mono ?_
  rintro e w1 ⟨rfl, hb1⟩
  have HB1 := Lib.hid (HBV.out.trans (hb1.mono HBV.out.size))
  have HT1 := Lib.hid (HT.out.below hb1 (Nat.le_refl _))
  have BA := Lib.hid (BA.out.below hb1 BA.out.lt)
  have BB := Lib.hid (BB.out.below hb1 BB.out.lt)
  clear hb1 HH HT HBV
  by_cases h1 : 200 < s.size
  · have q1 : (200 : Int) < (s.size : Int) := by omega
    clear h1
    go_wp2_with fail
    exact FIN.out _ HB1.out
  by_cases h2 : 200 < t.size
  · have q1 : ¬ (200 : Int) < (s.size : Int) := by omega
    have q2 : (200 : Int) < (t.size : Int) := by omega
    clear h1 h2
    go_wp2_with fail
    exact FIN.out _ HB1.out
  have q1 : ¬ (200 : Int) < (s.size : Int) := by omega
  have q2 : ¬ (200 : Int) < (t.size : Int) := by omega
  have CA : Hid (∀ w', HasT w' → Calls Tryd.prog 12 #[.agg (encF ⟨ar, aa, al, ah, af, az⟩).toArray, .string s] w' fun e w2 => e = .returned (.string (leafD ⟨ar, aa, al, ah, af, az⟩ s)) ∧ Below w'.heap.size w' w2) := fun w' h => leaf_any _ s w' OA.out (by omega) h
  have CB : Hid (∀ w', HasT w' → Calls Tryd.prog 12 #[.agg (encF ⟨br, b1, bl, bh, bf, bz⟩).toArray, .string t] w' fun e w2 => e = .returned (.string (leafD ⟨br, b1, bl, bh, bf, bz⟩ t)) ∧ Below w'.heap.size w' w2) := fun w' h => leaf_any _ t w' OB.out (by omega) h
  have CC : Hid (∀ w', Calls Tryd.prog 33 #[.agg (encF ⟨ar, aa, al, ah, af, az⟩).toArray, .string s] w' fun e w2 => e = .returned (.string (leafT ⟨ar, aa, al, ah, af, az⟩ s)) ∧ Below w'.heap.size w' w2) := fun w' => leaftext_any _ s w' OA.out (by omega)
  have CD : Hid (∀ w', Calls Tryd.prog 33 #[.agg (encF ⟨br, b1, bl, bh, bf, bz⟩).toArray, .string t] w' fun e w2 => e = .returned (.string (leafT ⟨br, b1, bl, bh, bf, bz⟩ t)) ∧ Below w'.heap.size w' w2) := fun w' => leaftext_any _ t w' OB.out (by omega)
  have CE : Hid (∀ w', Calls Tryd.prog 32 #[.string (leafT ⟨ar, aa, al, ah, af, az⟩ s), .string (leafT ⟨br, b1, bl, bh, bf, bz⟩ t)] w' fun e w2 => e = .returned (.bool (clashB (leafT ⟨ar, aa, al, ah, af, az⟩ s) (leafT ⟨br, b1, bl, bh, bf, bz⟩ t))) ∧ Below w'.heap.size w' w2) := by
    have z1 := leafT_size _ s OA.out (by omega)
    have z2 := leafT_size _ t OB.out (by omega)
    exact fun w' => clash_any _ _ w' z1 z2
  unfold sameL at LAW
  have EQ := Lib.hid (run_eqlF ⟨ar, aa, al, ah, af, az⟩ ⟨br, b1, bl, bh, bf, bz⟩)
  obtain ⟨E, eE⟩ : ∃ E, E = eqF ⟨ar, aa, al, ah, af, az⟩ ⟨br, b1, bl, bh, bf, bz⟩ := ⟨_, rfl⟩
  obtain ⟨la, ela⟩ : ∃ la, la = leafD ⟨ar, aa, al, ah, af, az⟩ s := ⟨_, rfl⟩
  obtain ⟨lb, elb⟩ : ∃ lb, lb = leafD ⟨br, b1, bl, bh, bf, bz⟩ t := ⟨_, rfl⟩
  obtain ⟨ta, eta⟩ : ∃ ta, ta = leafT ⟨ar, aa, al, ah, af, az⟩ s := ⟨_, rfl⟩
  obtain ⟨tb, etb⟩ : ∃ tb, tb = leafT ⟨br, b1, bl, bh, bf, bz⟩ t := ⟨_, rfl⟩
  rw [← ela] at LAW CA
  rw [← elb] at LAW CB
  rw [← eta] at LAW CC CE
  rw [← etb] at LAW CD CE
  rw [← eE] at LAW
  obtain ⟨C, eC⟩ : ∃ C, C = clashB ta tb := ⟨_, rfl⟩
  rw [← eC] at LAW CE
  have HEQ : Hid (eqF ⟨ar, aa, al, ah, af, az⟩ ⟨br, b1, bl, bh, bf, bz⟩ = E) := eE.symm
  have p1 := BA.out
  have p2 := BB.out
  have c0 := p1.cellD 0 _ rfl
  have c1 := p1.cellD 1 _ rfl
  have c2 := p1.cellD 2 _ rfl
  have c3 := p1.cellD 3 _ rfl
  have c4 := p1.cellD 4 _ rfl
  have c5 := p1.cellD 5 _ rfl
  have d0 := p2.cellD 0 _ rfl
  have d1 := p2.cellD 1 _ rfl
  have d2 := p2.cellD 2 _ rfl
  have d3 := p2.cellD 3 _ rfl
  have d4 := p2.cellD 4 _ rfl
  have d5 := p2.cellD 5 _ rfl
  clear h1 h2 OA OB p1 p2 eE ela elb eta etb eC EQ
  cases E with
  | false =>
    have LAW2 : Hid (((la.toList == lb.toList) == C) = true) := LAW
    clear LAW
    go_wp2_with (refine Row.still rfl (exec_eqlF (x := ⟨ar, aa, al, ah, af, az⟩) (y := ⟨br, b1, bl, bh, bf, bz⟩) rfl rfl rfl HEQ.out) ?_; simp only [Act.put, List.setIfInBounds_toArray, List.set_cons_succ, List.set_cons_zero])
    clear c0 c1 c2 c3 c4 c5 d0 d1 d2 d3 d4 d5
    refine Free.wp_region_free 21 [(4, .det (.string la)), (7, .det (.string lb)), (13, .det (.string ta)), (16, .det (.string tb)), (17, .det (.bool C))] (fun w2 => Below w1.heap.size w1 w2 ∧ HasT w2 ∧ Blk w2 w.heap.size (encF ⟨ar, aa, al, ah, af, az⟩) 25 ∧ Blk w2 (w.heap.size + 1) (encF ⟨br, b1, bl, bh, bf, bz⟩) 25) (by kernel_rfl) (by kernel_rfl) ?_ ⟨(Below.refl _ _).drew, HT1.out.below (B := w1.heap.size) ⟨rfl, rfl, rfl, Nat.le_refl _, fun _ _ => rfl⟩ (Nat.le_refl _), BA.out.drew, BB.out.drew⟩
      (fun _ _ h g => ⟨h.1.trans (Below.mono g h.1.size), h.2.1.below g (Nat.le_refl _), h.2.2.1.below g h.2.2.1.lt, h.2.2.2.below g h.2.2.2.lt⟩) ?_
    · intro j mk r hf
      simp only [Free.find] at hf
      repeat' split at hf
      all_goals (first | cases hf | skip)
    simp only [List.take_succ_cons, List.take_zero]
    iterate 2 (apply Free.chain_still (by first | exact Free.wanted_of rfl rfl rfl | rfl) rfl; (intro w' hB hA; obtain ⟨qB, qT, q1, q2⟩ := hB; clear hA  qB qT q1 q2; go_light; go_simp <;> rfl); (try simp only [Act.put, List.setIfInBounds_toArray, List.set_cons_succ, List.set_cons_zero]))
    apply Free.chain_still (by first | exact Free.wanted_of rfl rfl rfl | rfl) rfl
    · intro w' hB hA
      exact exec_fac (x := ⟨ar, aa, al, ah, af, az⟩) rfl rfl (fun p u hu => by rw [Nat.zero_add]; exact hB.2.2.1.cellD p u hu)
    simp only [Act.put, List.setIfInBounds_toArray, List.set_cons_succ, List.set_cons_zero]
    iterate 1 (apply Free.chain_still (by first | exact Free.wanted_of rfl rfl rfl | rfl) rfl; (intro w' hB hA; obtain ⟨qB, qT, q1, q2⟩ := hB; clear hA  qB qT q1 q2; go_light; go_simp <;> rfl); (try simp only [Act.put, List.setIfInBounds_toArray, List.set_cons_succ, List.set_cons_zero]))
    apply Free.chain_det (by first | exact Free.wanted_of rfl rfl rfl | rfl) rfl
    · intro w' hB hA
      refine Free.opRun_call (f := 12) (args := #[.agg (encF ⟨ar, aa, al, ah, af, az⟩).toArray, .string s]) (by clear hB hA; go_simp <;> rfl) ?_
      refine (CA.out w' hB.2.1).mono ?_
      rintro e w3 ⟨rfl, hb3⟩
      exact ⟨_, rfl, hb3, rfl⟩
    simp only [Act.put, List.setIfInBounds_toArray, List.set_cons_succ, List.set_cons_zero]
    apply Free.chain_still (by first | exact Free.wanted_of rfl rfl rfl | rfl) rfl
    · intro w' hB hA
      exact exec_fac (x := ⟨br, b1, bl, bh, bf, bz⟩) rfl rfl (fun p u hu => by rw [Nat.zero_add]; exact hB.2.2.2.cellD p u hu)
    simp only [Act.put, List.setIfInBounds_toArray, List.set_cons_succ, List.set_cons_zero]
    iterate 1 (apply Free.chain_still (by first | exact Free.wanted_of rfl rfl rfl | rfl) rfl; (intro w' hB hA; obtain ⟨qB, qT, q1, q2⟩ := hB; clear hA  qB qT q1 q2; go_light; go_simp <;> rfl); (try simp only [Act.put, List.setIfInBounds_toArray, List.set_cons_succ, List.set_cons_zero]))
    apply Free.chain_det (by first | exact Free.wanted_of rfl rfl rfl | rfl) rfl
    · intro w' hB hA
      refine Free.opRun_call (f := 12) (args := #[.agg (encF ⟨br, b1, bl, bh, bf, bz⟩).toArray, .string t]) (by clear hB hA; go_simp <;> rfl) ?_
      refine (CB.out w' hB.2.1).mono ?_
      rintro e w3 ⟨rfl, hb3⟩
      exact ⟨_, rfl, hb3, rfl⟩
    simp only [Act.put, List.setIfInBounds_toArray, List.set_cons_succ, List.set_cons_zero]
    iterate 3 (apply Free.chain_still (by first | exact Free.wanted_of rfl rfl rfl | rfl) rfl; (intro w' hB hA; obtain ⟨qB, qT, q1, q2⟩ := hB; clear hA  qB qT q1 q2; go_light; go_simp <;> rfl); (try simp only [Act.put, List.setIfInBounds_toArray, List.set_cons_succ, List.set_cons_zero]))
    apply Free.chain_still (by first | exact Free.wanted_of rfl rfl rfl | rfl) rfl
    · intro w' hB hA
      exact exec_fac (x := ⟨ar, aa, al, ah, af, az⟩) rfl rfl (fun p u hu => by rw [Nat.zero_add]; exact hB.2.2.1.cellD p u hu)
    simp only [Act.put, List.setIfInBounds_toArray, List.set_cons_succ, List.set_cons_zero]
    iterate 1 (apply Free.chain_still (by first | exact Free.wanted_of rfl rfl rfl | rfl) rfl; (intro w' hB hA; obtain ⟨qB, qT, q1, q2⟩ := hB; clear hA  qB qT q1 q2; go_light; go_simp <;> rfl); (try simp only [Act.put, List.setIfInBounds_toArray, List.set_cons_succ, List.set_cons_zero]))
    apply Free.chain_det (by first | exact Free.wanted_of rfl rfl rfl | rfl) rfl
    · intro w' hB hA
      refine Free.opRun_call (f := 33) (args := #[.agg (encF ⟨ar, aa, al, ah, af, az⟩).toArray, .string s]) (by clear hB hA; go_simp <;> rfl) ?_
      refine (CC.out w').mono ?_
      rintro e w3 ⟨rfl, hb3⟩
      exact ⟨_, rfl, hb3, rfl⟩
    simp only [Act.put, List.setIfInBounds_toArray, List.set_cons_succ, List.set_cons_zero]
    apply Free.chain_still (by first | exact Free.wanted_of rfl rfl rfl | rfl) rfl
    · intro w' hB hA
      exact exec_fac (x := ⟨br, b1, bl, bh, bf, bz⟩) rfl rfl (fun p u hu => by rw [Nat.zero_add]; exact hB.2.2.2.cellD p u hu)
    simp only [Act.put, List.setIfInBounds_toArray, List.set_cons_succ, List.set_cons_zero]
    iterate 1 (apply Free.chain_still (by first | exact Free.wanted_of rfl rfl rfl | rfl) rfl; (intro w' hB hA; obtain ⟨qB, qT, q1, q2⟩ := hB; clear hA  qB qT q1 q2; go_light; go_simp <;> rfl); (try simp only [Act.put, List.setIfInBounds_toArray, List.set_cons_succ, List.set_cons_zero]))
    apply Free.chain_det (by first | exact Free.wanted_of rfl rfl rfl | rfl) rfl
    · intro w' hB hA
      refine Free.opRun_call (f := 33) (args := #[.agg (encF ⟨br, b1, bl, bh, bf, bz⟩).toArray, .string t]) (by clear hB hA; go_simp <;> rfl) ?_
      refine (CD.out w').mono ?_
      rintro e w3 ⟨rfl, hb3⟩
      exact ⟨_, rfl, hb3, rfl⟩
    simp only [Act.put, List.setIfInBounds_toArray, List.set_cons_succ, List.set_cons_zero]
    apply Free.chain_det (by first | exact Free.wanted_of rfl rfl rfl | rfl) rfl
    · intro w' hB hA
      refine Free.opRun_call (f := 32) (args := #[.string ta, .string tb]) (by clear hB hA; go_simp <;> rfl) ?_
      refine (CE.out w').mono ?_
      rintro e w3 ⟨rfl, hb3⟩
      exact ⟨_, rfl, hb3, rfl⟩
    simp only [Act.put, List.setIfInBounds_toArray, List.set_cons_succ, List.set_cons_zero]
    iterate 3 (apply Free.chain_still (by first | exact Free.wanted_of rfl rfl rfl | rfl) rfl; (intro w' hB hA; obtain ⟨qB, qT, q1, q2⟩ := hB; clear hA  qB qT q1 q2; go_light; go_simp <;> rfl); (try simp only [Act.put, List.setIfInBounds_toArray, List.set_cons_succ, List.set_cons_zero]))
    apply Free.chain_nil
    intro wz hBz _ _
    simp only [List.drop_succ_cons, List.drop_zero]
    have hz := hBz.1
    have L := Lib.hid (HB1.out.trans (hz.mono HB1.out.size))
    have hl2 := LAW2.out
    first | rw [hl2] | rw [show (la.toList == lb.toList) = true by simpa using hl2]
    clear hl2
    clear hBz hz CA CB CC CD CE
    go_wp2_with fail
    exact FIN.out _ L.out
  | true =>
    obtain ⟨S, eS⟩ : ∃ S, S = (s.toList == t.toList) := ⟨_, rfl⟩
    rw [← eS] at LAW
    have ES : Hid ((s.toList == t.toList) = S) := eS.symm
    clear eS
    cases S with
    | false =>
      have hst := ES.out
      have LAW2 : Hid (((la.toList == lb.toList) == C) = true) := LAW
      clear LAW
      go_wp2_with (refine Row.still rfl (exec_eqlF (x := ⟨ar, aa, al, ah, af, az⟩) (y := ⟨br, b1, bl, bh, bf, bz⟩) rfl rfl rfl HEQ.out) ?_; simp only [Act.put, List.setIfInBounds_toArray, List.set_cons_succ, List.set_cons_zero])
      clear c0 c1 c2 c3 c4 c5 d0 d1 d2 d3 d4 d5
      refine Free.wp_region_free 21 [(4, .det (.string la)), (7, .det (.string lb)), (13, .det (.string ta)), (16, .det (.string tb)), (17, .det (.bool C))] (fun w2 => Below w1.heap.size w1 w2 ∧ HasT w2 ∧ Blk w2 w.heap.size (encF ⟨ar, aa, al, ah, af, az⟩) 25 ∧ Blk w2 (w.heap.size + 1) (encF ⟨br, b1, bl, bh, bf, bz⟩) 25) (by kernel_rfl) (by kernel_rfl) ?_ ⟨(Below.refl _ _).drew, HT1.out.below (B := w1.heap.size) ⟨rfl, rfl, rfl, Nat.le_refl _, fun _ _ => rfl⟩ (Nat.le_refl _), BA.out.drew, BB.out.drew⟩
        (fun _ _ h g => ⟨h.1.trans (Below.mono g h.1.size), h.2.1.below g (Nat.le_refl _), h.2.2.1.below g h.2.2.1.lt, h.2.2.2.below g h.2.2.2.lt⟩) ?_
      · intro j mk r hf
        simp only [Free.find] at hf
        repeat' split at hf
        all_goals (first | cases hf | skip)
      simp only [List.take_succ_cons, List.take_zero]
      iterate 2 (apply Free.chain_still (by first | exact Free.wanted_of rfl rfl rfl | rfl) rfl; (intro w' hB hA; obtain ⟨qB, qT, q1, q2⟩ := hB; clear hA  qB qT q1 q2; go_light; go_simp <;> rfl); (try simp only [Act.put, List.setIfInBounds_toArray, List.set_cons_succ, List.set_cons_zero]))
      apply Free.chain_still (by first | exact Free.wanted_of rfl rfl rfl | rfl) rfl
      · intro w' hB hA
        exact exec_fac (x := ⟨ar, aa, al, ah, af, az⟩) rfl rfl (fun p u hu => by rw [Nat.zero_add]; exact hB.2.2.1.cellD p u hu)
      simp only [Act.put, List.setIfInBounds_toArray, List.set_cons_succ, List.set_cons_zero]
      iterate 1 (apply Free.chain_still (by first | exact Free.wanted_of rfl rfl rfl | rfl) rfl; (intro w' hB hA; obtain ⟨qB, qT, q1, q2⟩ := hB; clear hA  qB qT q1 q2; go_light; go_simp <;> rfl); (try simp only [Act.put, List.setIfInBounds_toArray, List.set_cons_succ, List.set_cons_zero]))
      apply Free.chain_det (by first | exact Free.wanted_of rfl rfl rfl | rfl) rfl
      · intro w' hB hA
        refine Free.opRun_call (f := 12) (args := #[.agg (encF ⟨ar, aa, al, ah, af, az⟩).toArray, .string s]) (by clear hB hA; go_simp <;> rfl) ?_
        refine (CA.out w' hB.2.1).mono ?_
        rintro e w3 ⟨rfl, hb3⟩
        exact ⟨_, rfl, hb3, rfl⟩
      simp only [Act.put, List.setIfInBounds_toArray, List.set_cons_succ, List.set_cons_zero]
      apply Free.chain_still (by first | exact Free.wanted_of rfl rfl rfl | rfl) rfl
      · intro w' hB hA
        exact exec_fac (x := ⟨br, b1, bl, bh, bf, bz⟩) rfl rfl (fun p u hu => by rw [Nat.zero_add]; exact hB.2.2.2.cellD p u hu)
      simp only [Act.put, List.setIfInBounds_toArray, List.set_cons_succ, List.set_cons_zero]
      iterate 1 (apply Free.chain_still (by first | exact Free.wanted_of rfl rfl rfl | rfl) rfl; (intro w' hB hA; obtain ⟨qB, qT, q1, q2⟩ := hB; clear hA  qB qT q1 q2; go_light; go_simp <;> rfl); (try simp only [Act.put, List.setIfInBounds_toArray, List.set_cons_succ, List.set_cons_zero]))
      apply Free.chain_det (by first | exact Free.wanted_of rfl rfl rfl | rfl) rfl
      · intro w' hB hA
        refine Free.opRun_call (f := 12) (args := #[.agg (encF ⟨br, b1, bl, bh, bf, bz⟩).toArray, .string t]) (by clear hB hA; go_simp <;> rfl) ?_
        refine (CB.out w' hB.2.1).mono ?_
        rintro e w3 ⟨rfl, hb3⟩
        exact ⟨_, rfl, hb3, rfl⟩
      simp only [Act.put, List.setIfInBounds_toArray, List.set_cons_succ, List.set_cons_zero]
      iterate 3 (apply Free.chain_still (by first | exact Free.wanted_of rfl rfl rfl | rfl) rfl; (intro w' hB hA; obtain ⟨qB, qT, q1, q2⟩ := hB; clear hA  qB qT q1 q2; go_light; go_simp <;> rfl); (try simp only [Act.put, List.setIfInBounds_toArray, List.set_cons_succ, List.set_cons_zero]))
      apply Free.chain_still (by first | exact Free.wanted_of rfl rfl rfl | rfl) rfl
      · intro w' hB hA
        exact exec_fac (x := ⟨ar, aa, al, ah, af, az⟩) rfl rfl (fun p u hu => by rw [Nat.zero_add]; exact hB.2.2.1.cellD p u hu)
      simp only [Act.put, List.setIfInBounds_toArray, List.set_cons_succ, List.set_cons_zero]
      iterate 1 (apply Free.chain_still (by first | exact Free.wanted_of rfl rfl rfl | rfl) rfl; (intro w' hB hA; obtain ⟨qB, qT, q1, q2⟩ := hB; clear hA  qB qT q1 q2; go_light; go_simp <;> rfl); (try simp only [Act.put, List.setIfInBounds_toArray, List.set_cons_succ, List.set_cons_zero]))
      apply Free.chain_det (by first | exact Free.wanted_of rfl rfl rfl | rfl) rfl
      · intro w' hB hA
        refine Free.opRun_call (f := 33) (args := #[.agg (encF ⟨ar, aa, al, ah, af, az⟩).toArray, .string s]) (by clear hB hA; go_simp <;> rfl) ?_
        refine (CC.out w').mono ?_
        rintro e w3 ⟨rfl, hb3⟩
        exact ⟨_, rfl, hb3, rfl⟩
      simp only [Act.put, List.setIfInBounds_toArray, List.set_cons_succ, List.set_cons_zero]
      apply Free.chain_still (by first | exact Free.wanted_of rfl rfl rfl | rfl) rfl
      · intro w' hB hA
        exact exec_fac (x := ⟨br, b1, bl, bh, bf, bz⟩) rfl rfl (fun p u hu => by rw [Nat.zero_add]; exact hB.2.2.2.cellD p u hu)
      simp only [Act.put, List.setIfInBounds_toArray, List.set_cons_succ, List.set_cons_zero]
      iterate 1 (apply Free.chain_still (by first | exact Free.wanted_of rfl rfl rfl | rfl) rfl; (intro w' hB hA; obtain ⟨qB, qT, q1, q2⟩ := hB; clear hA  qB qT q1 q2; go_light; go_simp <;> rfl); (try simp only [Act.put, List.setIfInBounds_toArray, List.set_cons_succ, List.set_cons_zero]))
      apply Free.chain_det (by first | exact Free.wanted_of rfl rfl rfl | rfl) rfl
      · intro w' hB hA
        refine Free.opRun_call (f := 33) (args := #[.agg (encF ⟨br, b1, bl, bh, bf, bz⟩).toArray, .string t]) (by clear hB hA; go_simp <;> rfl) ?_
        refine (CD.out w').mono ?_
        rintro e w3 ⟨rfl, hb3⟩
        exact ⟨_, rfl, hb3, rfl⟩
      simp only [Act.put, List.setIfInBounds_toArray, List.set_cons_succ, List.set_cons_zero]
      apply Free.chain_det (by first | exact Free.wanted_of rfl rfl rfl | rfl) rfl
      · intro w' hB hA
        refine Free.opRun_call (f := 32) (args := #[.string ta, .string tb]) (by clear hB hA; go_simp <;> rfl) ?_
        refine (CE.out w').mono ?_
        rintro e w3 ⟨rfl, hb3⟩
        exact ⟨_, rfl, hb3, rfl⟩
      simp only [Act.put, List.setIfInBounds_toArray, List.set_cons_succ, List.set_cons_zero]
      iterate 3 (apply Free.chain_still (by first | exact Free.wanted_of rfl rfl rfl | rfl) rfl; (intro w' hB hA; obtain ⟨qB, qT, q1, q2⟩ := hB; clear hA  qB qT q1 q2; go_light; go_simp <;> rfl); (try simp only [Act.put, List.setIfInBounds_toArray, List.set_cons_succ, List.set_cons_zero]))
      apply Free.chain_nil
      intro wz hBz _ _
      simp only [List.drop_succ_cons, List.drop_zero]
      have hz := hBz.1
      have L := Lib.hid (HB1.out.trans (hz.mono HB1.out.size))
      have hl2 := LAW2.out
      first | rw [hl2] | rw [show (la.toList == lb.toList) = true by simpa using hl2]
      clear hl2
      clear hBz hz CA CB CC CD CE
      go_wp2_with fail
      exact FIN.out _ L.out
    | true =>
      have hst := ES.out
      have LAW2 : Hid (((la.toList == lb.toList) == true) = true) := LAW
      clear LAW
      go_wp2_with (refine Row.still rfl (exec_eqlF (x := ⟨ar, aa, al, ah, af, az⟩) (y := ⟨br, b1, bl, bh, bf, bz⟩) rfl rfl rfl HEQ.out) ?_; simp only [Act.put, List.setIfInBounds_toArray, List.set_cons_succ, List.set_cons_zero])
      clear c0 c1 c2 c3 c4 c5 d0 d1 d2 d3 d4 d5
      refine Free.wp_region_free 21 [(4, .det (.string la)), (7, .det (.string lb)), (13, .det (.string ta)), (16, .det (.string tb)), (17, .det (.bool C))] (fun w2 => Below w1.heap.size w1 w2 ∧ HasT w2 ∧ Blk w2 w.heap.size (encF ⟨ar, aa, al, ah, af, az⟩) 25 ∧ Blk w2 (w.heap.size + 1) (encF ⟨br, b1, bl, bh, bf, bz⟩) 25) (by kernel_rfl) (by kernel_rfl) ?_ ⟨(Below.refl _ _).drew, HT1.out.below (B := w1.heap.size) ⟨rfl, rfl, rfl, Nat.le_refl _, fun _ _ => rfl⟩ (Nat.le_refl _), BA.out.drew, BB.out.drew⟩
        (fun _ _ h g => ⟨h.1.trans (Below.mono g h.1.size), h.2.1.below g (Nat.le_refl _), h.2.2.1.below g h.2.2.1.lt, h.2.2.2.below g h.2.2.2.lt⟩) ?_
      · intro j mk r hf
        simp only [Free.find] at hf
        repeat' split at hf
        all_goals (first | cases hf | skip)
      simp only [List.take_succ_cons, List.take_zero]
      iterate 2 (apply Free.chain_still (by first | exact Free.wanted_of rfl rfl rfl | rfl) rfl; (intro w' hB hA; obtain ⟨qB, qT, q1, q2⟩ := hB; clear hA  qB qT q1 q2; go_light; go_simp <;> rfl); (try simp only [Act.put, List.setIfInBounds_toArray, List.set_cons_succ, List.set_cons_zero]))
      apply Free.chain_still (by first | exact Free.wanted_of rfl rfl rfl | rfl) rfl
      · intro w' hB hA
        exact exec_fac (x := ⟨ar, aa, al, ah, af, az⟩) rfl rfl (fun p u hu => by rw [Nat.zero_add]; exact hB.2.2.1.cellD p u hu)
      simp only [Act.put, List.setIfInBounds_toArray, List.set_cons_succ, List.set_cons_zero]
      iterate 1 (apply Free.chain_still (by first | exact Free.wanted_of rfl rfl rfl | rfl) rfl; (intro w' hB hA; obtain ⟨qB, qT, q1, q2⟩ := hB; clear hA  qB qT q1 q2; go_light; go_simp <;> rfl); (try simp only [Act.put, List.setIfInBounds_toArray, List.set_cons_succ, List.set_cons_zero]))
      apply Free.chain_det (by first | exact Free.wanted_of rfl rfl rfl | rfl) rfl
      · intro w' hB hA
        refine Free.opRun_call (f := 12) (args := #[.agg (encF ⟨ar, aa, al, ah, af, az⟩).toArray, .string s]) (by clear hB hA; go_simp <;> rfl) ?_
        refine (CA.out w' hB.2.1).mono ?_
        rintro e w3 ⟨rfl, hb3⟩
        exact ⟨_, rfl, hb3, rfl⟩
      simp only [Act.put, List.setIfInBounds_toArray, List.set_cons_succ, List.set_cons_zero]
      apply Free.chain_still (by first | exact Free.wanted_of rfl rfl rfl | rfl) rfl
      · intro w' hB hA
        exact exec_fac (x := ⟨br, b1, bl, bh, bf, bz⟩) rfl rfl (fun p u hu => by rw [Nat.zero_add]; exact hB.2.2.2.cellD p u hu)
      simp only [Act.put, List.setIfInBounds_toArray, List.set_cons_succ, List.set_cons_zero]
      iterate 1 (apply Free.chain_still (by first | exact Free.wanted_of rfl rfl rfl | rfl) rfl; (intro w' hB hA; obtain ⟨qB, qT, q1, q2⟩ := hB; clear hA  qB qT q1 q2; go_light; go_simp <;> rfl); (try simp only [Act.put, List.setIfInBounds_toArray, List.set_cons_succ, List.set_cons_zero]))
      apply Free.chain_det (by first | exact Free.wanted_of rfl rfl rfl | rfl) rfl
      · intro w' hB hA
        refine Free.opRun_call (f := 12) (args := #[.agg (encF ⟨br, b1, bl, bh, bf, bz⟩).toArray, .string t]) (by clear hB hA; go_simp <;> rfl) ?_
        refine (CB.out w' hB.2.1).mono ?_
        rintro e w3 ⟨rfl, hb3⟩
        exact ⟨_, rfl, hb3, rfl⟩
      simp only [Act.put, List.setIfInBounds_toArray, List.set_cons_succ, List.set_cons_zero]
      iterate 3 (apply Free.chain_still (by first | exact Free.wanted_of rfl rfl rfl | rfl) rfl; (intro w' hB hA; obtain ⟨qB, qT, q1, q2⟩ := hB; clear hA  qB qT q1 q2; go_light; go_simp <;> rfl); (try simp only [Act.put, List.setIfInBounds_toArray, List.set_cons_succ, List.set_cons_zero]))
      iterate 7 (apply Free.chain_skip (by exact unwanted2 rfl rfl rfl rfl); simp only [Act.put, List.setIfInBounds_toArray, List.set_cons_succ, List.set_cons_zero])
      iterate 3 (apply Free.chain_still (by first | exact Free.wanted_of rfl rfl rfl | rfl) rfl; (intro w' hB hA; obtain ⟨qB, qT, q1, q2⟩ := hB; clear hA  qB qT q1 q2; go_light; go_simp <;> rfl); (try simp only [Act.put, List.setIfInBounds_toArray, List.set_cons_succ, List.set_cons_zero]))
      apply Free.chain_nil
      intro wz hBz _ _
      simp only [List.drop_succ_cons, List.drop_zero]
      have hz := hBz.1
      have L := Lib.hid (HB1.out.trans (hz.mono HB1.out.size))
      have hl2 := LAW2.out
      first | rw [hl2] | rw [show (la.toList == lb.toList) = true by simpa using hl2]
      clear hl2
      clear hBz hz CA CB CC CD CE
      go_wp2_with fail
      exact FIN.out _ L.out
end Go.Proofs.YtamiaalfjmppaaaDoor
