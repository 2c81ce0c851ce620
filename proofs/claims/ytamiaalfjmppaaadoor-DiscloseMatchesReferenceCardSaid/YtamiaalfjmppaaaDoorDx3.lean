/- The law DiscloseMatchesReference, walked. Condition: the variables of digest and of strconv hold their numbers. -/
import Derived.Test.YtamiaalfjmppaaaDoorDxJ
namespace Go.Proofs.YtamiaalfjmppaaaDoor
open Go.RowKit Go.Blk Go.Sg Go.Opn Go.Di Go.Apl Go.Rf

set_option maxRecDepth 100000 in
set_option maxHeartbeats 4000000 in
theorem matches34_law (A B : Option Addr) (c d : Nat) (a p : List ByteArray) (x : Clm) (w : World) (hl1 : a.length ≤ 9223372036854775807) (hc1 : a.length ≤ c) (hs1 : SL w 1 encS A a) (hx : x.Ok) (hl2 : p.length ≤ 9223372036854775807) (hc2 : p.length ≤ d) (hs2 : SL w 1 encS B p) (hT : HasT w) :
    Calls Tryd.prog 4 #[.slice A a.length c, .agg (encC x (.slice B p.length d)).toArray] w fun r w' => r = .returned (.bool true) ∧ Below w.heap.size w w' := by
  obtain ⟨R, eR⟩ : ∃ R : Ending → World → Prop, R = fun r w' => r = .returned (.bool true) ∧ Below w.heap.size w w' := ⟨_, rfl⟩
  rw [← eR]
  have FIN : Hid (∀ w', Below w.heap.size w w' → R (.returned (.bool true)) w') := fun w' hb => by rw [eR]; exact ⟨rfl, hb⟩
  obtain ⟨n, i, ⟨xr, xa, xl, xh, xf, xs⟩, s, r⟩ := x
  obtain ⟨V, eV⟩ : ∃ V, V = w.alloc (.cells (encC ⟨n, i, ⟨xr, xa, xl, xh, xf, xs⟩, s, r⟩ (.slice B p.length d)).toArray 50) := ⟨_, rfl⟩
  have HBV : Hid (Below w.heap.size w V) := by rw [eV]; exact (Below.refl _ w).alloc (Nat.le_refl _) _
  have BC : Hid (∀ w', Below V.heap.size V w' → Blk w' w.heap.size (encC ⟨n, i, ⟨xr, xa, xl, xh, xf, xs⟩, s, r⟩ (.slice B p.length d)) 50) := fun w' hb => by
    have h0 : Blk V w.heap.size (encC ⟨n, i, ⟨xr, xa, xl, xh, xf, xs⟩, s, r⟩ (.slice B p.length d)) 50 := by rw [eV]; exact Blk.new w _ _
    exact h0.below hb h0.lt
  have HXO : Hid ((⟨xr, xa, xl, xh, xf, xs⟩ : Fac).Ok) := hx.x
  have S1 := Lib.hid (hs1.below HBV.out (Nat.le_refl _))
  have S2 := Lib.hid (hs2.below HBV.out (Nat.le_refl _))
  have HT := Lib.hid (hT.below HBV.out (Nat.le_refl _))
  have HH := Lib.hid (head34_any V HT.out)
  have EV : Hid (w.alloc (.cells #[.int .i64 n, .int .i64 i, .int .i64 xr, .int .i64 xa, .int .i64 xl, .int .i64 xh, .int .i64 xf, .bool xs, .string s, .string r, .slice B p.length d] 50) = V) := eV.symm
  clear eR hs1 hs2 hT eV hx
  show Calls Tryd.prog 4 #[.slice A a.length c, .agg #[.int .i64 n, .int .i64 i, .int .i64 xr, .int .i64 xa, .int .i64 xl, .int .i64 xh, .int .i64 xf, .bool xs, .string s, .string r, .slice B p.length d]] w R
  go_enter Tryd.func4, Tryd.ntmps4
  go_wp2_with fail
  rw [EV.out]
  refine HH.out.mono ?_
  rintro e w1 ⟨rfl, hb1⟩
  have HB1 := Lib.hid hb1
  have HW1 := Lib.hid (HBV.out.trans (hb1.mono HBV.out.size))
  clear hb1 HH EV
  have CSa := Lib.hid (small_any A c 40 a w1 (S1.out.below HB1.out (Nat.le_refl _)) hl1)
  obtain ⟨F, eF⟩ : ∃ F, F = smallB a 40 := ⟨_, rfl⟩
  rw [← eF] at CSa
  have EF := Lib.hid eF
  clear eF
  go_wp2_with fail
  refine CSa.out.mono ?_
  rintro e w' ⟨rfl, rfl⟩
  clear CSa
  cases F with
  | false =>
    go_wp2_with fail
    exact FIN.out _ HW1.out
  | true =>
  have CSb := Lib.hid (small_any B d 40 p w1 (S2.out.below HB1.out (Nat.le_refl _)) hl2)
  obtain ⟨G, eG⟩ : ∃ G, G = smallB p 40 := ⟨_, rfl⟩
  rw [← eG] at CSb
  have EG := Lib.hid eG
  clear eG
  have qb := BC.out _ HB1.out
  have ce0 := qb.cellD 0 _ rfl
  have ce1 := qb.cellD 1 _ rfl
  have ce2 := qb.cellD 2 _ rfl
  have ce3 := qb.cellD 3 _ rfl
  have ce4 := qb.cellD 4 _ rfl
  have ce5 := qb.cellD 5 _ rfl
  have ce6 := qb.cellD 6 _ rfl
  have ce7 := qb.cellD 7 _ rfl
  have ce8 := qb.cellD 8 _ rfl
  have ce9 := qb.cellD 9 _ rfl
  have ce10 := qb.cellD 10 _ rfl
  clear qb
  go_wp2_with fail
  refine CSb.out.mono ?_
  rintro e w' ⟨rfl, rfl⟩
  clear CSb
  cases G with
  | false =>
    go_wp2_with fail
    exact FIN.out _ HW1.out
  | true =>
  have SA := Lib.hid (smallB_short EF.out.symm)
  have SB := Lib.hid (smallB_short EG.out.symm)
  clear EF EG
  by_cases hs200 : 200 < s.size
  · have q1 : (200 : Int) < (s.size : Int) := by omega
    go_wp2_with fail
    exact FIN.out _ HW1.out
  have q1 : ¬ (200 : Int) < (s.size : Int) := by omega
  by_cases hr200 : 200 < r.size
  · have q2 : (200 : Int) < (r.size : Int) := by omega
    go_wp2_with fail
    exact FIN.out _ HW1.out
  have q2 : ¬ (200 : Int) < (r.size : Int) := by omega
  have ha40 := SA.out.1
  have hp40 := SB.out.1
  have CP := Lib.hid (prove_x a A c i w1 hc1 (by omega) (S1.out.below HB1.out (Nat.le_refl _)) (short_200 SA.out.2) (HT.out.below HB1.out (Nat.le_refl _)))
  have CQ := Lib.hid (fun w' (hb : Below V.heap.size V w') => rprove_x a A c i w' hc1 (by omega) (S1.out.below hb (Nat.le_refl _)) SA.out.2)
  have HPL : Hid ((prP a i).length < 1000000000) := by
    show _ < _
    unfold prP
    split
    · have h1 := path_len a i.toNat
      have h2 := lev_len a.length i.toNat
      omega
    · decide
  unfold PrX at CP CQ
  have CLf : Hid (∀ w', Below V.heap.size V w' → Calls Tryd.prog 12 #[.agg (encF ⟨xr, xa, xl, xh, xf, xs⟩).toArray, .string s] w' fun e w2 => e = .returned (.string (leafD ⟨xr, xa, xl, xh, xf, xs⟩ s)) ∧ Below w'.heap.size w' w2) := fun w' hb => leaf_any _ s w' HXO.out (by omega) (HT.out.below hb (Nat.le_refl _))
  have CLr : Hid (∀ w', Calls Tryd.prog 25 #[.agg (encF ⟨xr, xa, xl, xh, xf, xs⟩).toArray, .string s] w' fun e w2 => e = .returned (.string (leafD ⟨xr, xa, xl, xh, xf, xs⟩ s)) ∧ Below w'.heap.size w' w2) := fun w' => leafr_any _ s w' HXO.out (by omega)
  have CRf : Hid (∀ w', Below V.heap.size V w' → Calls Tryd.prog 16 #[.slice A a.length c] w' fun e w2 => e = .returned (.string (rootOf a)) ∧ Below w'.heap.size w' w2) := fun w' hb => root_any a A c w' hc1 (by omega) (S1.out.below hb (Nat.le_refl _)) (short_200 SA.out.2) (HT.out.below hb (Nat.le_refl _))
  have CRr : Hid (∀ w', Below V.heap.size V w' → Calls Tryd.prog 26 #[.slice A a.length c] w' fun e w2 => e = .returned (.string (rootOf a)) ∧ Below w'.heap.size w' w2) := fun w' hb => rroot_any a.length a A c w' rfl hc1 (by omega) (S1.out.below hb (Nat.le_refl _)) SA.out.2
  have CCf : Hid (∀ w', Below V.heap.size V w' → Calls Tryd.prog 19 #[.string r, .int .i64 n, .int .i64 i, .agg (encF ⟨xr, xa, xl, xh, xf, xs⟩).toArray, .string s, .slice B p.length d] w' fun e w2 => e = .returned (.bool (checkD r n i ⟨xr, xa, xl, xh, xf, xs⟩ s p)) ∧ Below w'.heap.size w' w2) := fun w' hb =>
    check_dis r n i _ s p B d w' HXO.out (by omega) (by omega) (S2.out.below hb (Nat.le_refl _)) (short_200 SB.out.2) (HT.out.below hb (Nat.le_refl _))
  have CCr : Hid (∀ w', Below V.heap.size V w' → Calls Tryd.prog 28 #[.string r, .int .i64 n, .int .i64 i, .agg (encF ⟨xr, xa, xl, xh, xf, xs⟩).toArray, .string s, .slice B p.length d] w' fun e w2 => e = .returned (.bool (checkD r n i ⟨xr, xa, xl, xh, xf, xs⟩ s p)) ∧ Below w'.heap.size w' w2) := fun w' hb =>
    rcheck_any r n i _ s p B d w' HXO.out (by omega) hc2 (by omega) (S2.out.below hb (Nat.le_refl _)) SB.out.2
  obtain ⟨la, ela⟩ : ∃ la, la = leafD ⟨xr, xa, xl, xh, xf, xs⟩ s := ⟨_, rfl⟩
  obtain ⟨rt, ert⟩ : ∃ rt, rt = rootOf a := ⟨_, rfl⟩
  obtain ⟨C, eC⟩ : ∃ C, C = checkD r n i ⟨xr, xa, xl, xh, xf, xs⟩ s p := ⟨_, rfl⟩
  obtain ⟨pp, epp⟩ : ∃ pp, pp = prP a i := ⟨_, rfl⟩
  obtain ⟨E, eE⟩ : ∃ E, E = prE a i := ⟨_, rfl⟩
  rw [← ela] at CLf CLr
  rw [← ert] at CRf CRr
  rw [← eC] at CCf CCr
  rw [← epp] at CP CQ HPL
  rw [← eE] at CP CQ
  have qla : (la.toList == la.toList) = true := by simp
  have qrt : (rt.toList == rt.toList) = true := by simp
  clear ela ert eC epp eE
  go_wp2_with fail
  refine CP.out.mono ?_
  rintro e w2 ⟨⟨A2, c2, rfl, hs2⟩, hb2⟩
  have HB2 := Lib.hid (HB1.out.trans (hb2.mono HB1.out.size))
  have HS2 := Lib.hid hs2
  clear hb2 hs2 CP
  clear ce0 ce1 ce2 ce3 ce4 ce5 ce6 ce7 ce8 ce9 ce10
  have qb := BC.out _ HB2.out
  have ce0 := qb.cellD 0 _ rfl
  have ce1 := qb.cellD 1 _ rfl
  have ce2 := qb.cellD 2 _ rfl
  have ce3 := qb.cellD 3 _ rfl
  have ce4 := qb.cellD 4 _ rfl
  have ce5 := qb.cellD 5 _ rfl
  have ce6 := qb.cellD 6 _ rfl
  have ce7 := qb.cellD 7 _ rfl
  have ce8 := qb.cellD 8 _ rfl
  have ce9 := qb.cellD 9 _ rfl
  have ce10 := qb.cellD 10 _ rfl
  clear qb
  go_wp2_with fail
  refine (CQ.out _ HB2.out).mono ?_
  rintro e w3 ⟨⟨A3, c3, rfl, hs3⟩, hb3⟩
  have HB3 := Lib.hid (HB2.out.trans (hb3.mono HB2.out.size))
  have HW3 := Lib.hid (HBV.out.trans (HB3.out.mono HBV.out.size))
  have HS23 := Lib.hid (HS2.out.below hb3 (Nat.le_refl _))
  have HS3 := Lib.hid hs3
  clear hb3 hs3 CQ HS2
  clear ce0 ce1 ce2 ce3 ce4 ce5 ce6 ce7 ce8 ce9 ce10
  have CST : Hid (∀ w', Below w3.heap.size w3 w' → Calls Tryd.prog 27 #[.slice A2 pp.length c2, .slice A3 pp.length c3] w' fun e w2 => e = .returned (.bool true) ∧ Below w'.heap.size w' w2) := fun w' hb => by
    have := strings_any A2 A3 c2 c3 pp pp w' (HS23.out.below hb (Nat.le_refl _)) (HS3.out.below hb (Nat.le_refl _)) HPL.out
    rw [decide_eq_true rfl] at this; exact this
  obtain ⟨k0, k1, k8, k9, k10⟩ : w3.cell? ⟨w.heap.size, 0, none⟩ = some (.int .i64 n) ∧ w3.cell? ⟨w.heap.size, 1, none⟩ = some (.int .i64 i) ∧ w3.cell? ⟨w.heap.size, 8, none⟩ = some (.string s) ∧ w3.cell? ⟨w.heap.size, 9, none⟩ = some (.string r) ∧ w3.cell? ⟨w.heap.size, 10, none⟩ = some (.slice B p.length d) :=
    ⟨(BC.out _ HB3.out).cellD 0 _ rfl, (BC.out _ HB3.out).cellD 1 _ rfl, (BC.out _ HB3.out).cellD 8 _ rfl, (BC.out _ HB3.out).cellD 9 _ rfl, (BC.out _ HB3.out).cellD 10 _ rfl⟩
  go_wp2_with fail
  refine Free.wp_region_free 60 [(6, .det (.string la)), (11, .det (.string la)), (16, .det (.string rt)), (18, .det (.string rt)), (29, .det (.bool true)), (44, .det (.bool C)), (57, .det (.bool C))] (fun w2 => Below w3.heap.size w3 w2 ∧ w2.cell? ⟨w.heap.size, 0, none⟩ = some (.int .i64 n) ∧ w2.cell? ⟨w.heap.size, 1, none⟩ = some (.int .i64 i) ∧ w2.cell? ⟨w.heap.size, 8, none⟩ = some (.string s) ∧ w2.cell? ⟨w.heap.size, 9, none⟩ = some (.string r) ∧ w2.cell? ⟨w.heap.size, 10, none⟩ = some (.slice B p.length d)) (by kernel_rfl) (by kernel_rfl) (Free.mono_det (fun j mk r hf => by simp only [Free.find] at hf; repeat' (first | cases hf | split at hf))) ⟨(Below.refl _ _).drew, k0, k1, k8, k9, k10⟩ (fun _ _ h g => ⟨h.1.trans (Below.mono g h.1.size), cell_grow h.2.1 g, cell_grow h.2.2.1 g, cell_grow h.2.2.2.1 g, cell_grow h.2.2.2.2.1 g, cell_grow h.2.2.2.2.2 g⟩) ?_
  simp only [List.take_succ_cons, List.take_zero]
  clear k0 k1 k8 k9 k10 qla qrt
  iterate 3 (apply Free.chain_still (by first | exact Free.wanted_of rfl rfl rfl | rfl) rfl; (intro w' hB hA; obtain ⟨qB, r0, r1, r8, r9, r10⟩ := hB; clear hA  qB; go_light; go_simp <;> rfl); (try simp only [Act.put, List.setIfInBounds_toArray, List.set_cons_succ, List.set_cons_zero]))
  apply Free.chain_still (by first | exact Free.wanted_of rfl rfl rfl | rfl) rfl
  · intro w' hB hA
    exact exec_fac (x := ⟨xr, xa, xl, xh, xf, xs⟩) (b := w.heap.size) (off := 2) rfl rfl (claim_fac (BC.out w' (HB3.out.trans (hB.1.mono HB3.out.size))))
  simp only [Act.put, List.setIfInBounds_toArray, List.set_cons_succ, List.set_cons_zero]
  iterate 2 (apply Free.chain_still (by first | exact Free.wanted_of rfl rfl rfl | rfl) rfl; (intro w' hB hA; obtain ⟨qB, r0, r1, r8, r9, r10⟩ := hB; clear hA  qB; go_light; go_simp <;> rfl); (try simp only [Act.put, List.setIfInBounds_toArray, List.set_cons_succ, List.set_cons_zero]))
  apply Free.chain_det (by first | exact Free.wanted_of rfl rfl rfl | rfl) rfl
  · intro w' hB hA
    refine Free.opRun_call (f := 12) (args := #[.agg (encF ⟨xr, xa, xl, xh, xf, xs⟩).toArray, .string s]) (by clear hB hA; go_simp <;> rfl) ?_
    refine (CLf.out w' (HB3.out.trans (hB.1.mono HB3.out.size))).mono ?_
    rintro e w3 ⟨rfl, hb3⟩
    exact ⟨_, rfl, hb3, rfl⟩
  simp only [Act.put, List.setIfInBounds_toArray, List.set_cons_succ, List.set_cons_zero]
  iterate 1 (apply Free.chain_still (by first | exact Free.wanted_of rfl rfl rfl | rfl) rfl; (intro w' hB hA; obtain ⟨qB, r0, r1, r8, r9, r10⟩ := hB; clear hA  qB; go_light; go_simp <;> rfl); (try simp only [Act.put, List.setIfInBounds_toArray, List.set_cons_succ, List.set_cons_zero]))
  apply Free.chain_still (by first | exact Free.wanted_of rfl rfl rfl | rfl) rfl
  · intro w' hB hA
    exact exec_fac (x := ⟨xr, xa, xl, xh, xf, xs⟩) (b := w.heap.size) (off := 2) rfl rfl (claim_fac (BC.out w' (HB3.out.trans (hB.1.mono HB3.out.size))))
  simp only [Act.put, List.setIfInBounds_toArray, List.set_cons_succ, List.set_cons_zero]
  iterate 2 (apply Free.chain_still (by first | exact Free.wanted_of rfl rfl rfl | rfl) rfl; (intro w' hB hA; obtain ⟨qB, r0, r1, r8, r9, r10⟩ := hB; clear hA  qB; go_light; go_simp <;> rfl); (try simp only [Act.put, List.setIfInBounds_toArray, List.set_cons_succ, List.set_cons_zero]))
  apply Free.chain_det (by first | exact Free.wanted_of rfl rfl rfl | rfl) rfl
  · intro w' hB hA
    refine Free.opRun_call (f := 25) (args := #[.agg (encF ⟨xr, xa, xl, xh, xf, xs⟩).toArray, .string s]) (by clear hB hA; go_simp <;> rfl) ?_
    refine (CLr.out w').mono ?_
    rintro e w3 ⟨rfl, hb3⟩
    exact ⟨_, rfl, hb3, rfl⟩
  simp only [Act.put, List.setIfInBounds_toArray, List.set_cons_succ, List.set_cons_zero]
  iterate 1 (apply Free.chain_still (by first | exact Free.wanted_of rfl rfl rfl | rfl) rfl; (intro w' hB hA; obtain ⟨qB, r0, r1, r8, r9, r10⟩ := hB; clear hA  qB; go_light; go_simp <;> rfl); (try simp only [Act.put, List.setIfInBounds_toArray, List.set_cons_succ, List.set_cons_zero]))
  try rw [show (la.toList == la.toList) = true by simp]
  iterate 3 (apply Free.chain_still (by first | exact Free.wanted_of rfl rfl rfl | rfl) rfl; (intro w' hB hA; obtain ⟨qB, r0, r1, r8, r9, r10⟩ := hB; clear hA  qB; go_light; go_simp <;> rfl); (try simp only [Act.put, List.setIfInBounds_toArray, List.set_cons_succ, List.set_cons_zero]))
  apply Free.chain_det (by first | exact Free.wanted_of rfl rfl rfl | rfl) rfl
  · intro w' hB hA
    refine Free.opRun_call (f := 16) (args := #[.slice A a.length c]) (by clear hB hA; go_simp <;> rfl) ?_
    refine (CRf.out w' (HB3.out.trans (hB.1.mono HB3.out.size))).mono ?_
    rintro e w3 ⟨rfl, hb3⟩
    exact ⟨_, rfl, hb3, rfl⟩
  simp only [Act.put, List.setIfInBounds_toArray, List.set_cons_succ, List.set_cons_zero]
  iterate 1 (apply Free.chain_still (by first | exact Free.wanted_of rfl rfl rfl | rfl) rfl; (intro w' hB hA; obtain ⟨qB, r0, r1, r8, r9, r10⟩ := hB; clear hA  qB; go_light; go_simp <;> rfl); (try simp only [Act.put, List.setIfInBounds_toArray, List.set_cons_succ, List.set_cons_zero]))
  apply Free.chain_det (by first | exact Free.wanted_of rfl rfl rfl | rfl) rfl
  · intro w' hB hA
    refine Free.opRun_call (f := 26) (args := #[.slice A a.length c]) (by clear hB hA; go_simp <;> rfl) ?_
    refine (CRr.out w' (HB3.out.trans (hB.1.mono HB3.out.size))).mono ?_
    rintro e w3 ⟨rfl, hb3⟩
    exact ⟨_, rfl, hb3, rfl⟩
  simp only [Act.put, List.setIfInBounds_toArray, List.set_cons_succ, List.set_cons_zero]
  iterate 1 (apply Free.chain_still (by first | exact Free.wanted_of rfl rfl rfl | rfl) rfl; (intro w' hB hA; obtain ⟨qB, r0, r1, r8, r9, r10⟩ := hB; clear hA  qB; go_light; go_simp <;> rfl); (try simp only [Act.put, List.setIfInBounds_toArray, List.set_cons_succ, List.set_cons_zero]))
  try rw [show (rt.toList == rt.toList) = true by simp]
  iterate 5 (apply Free.chain_still (by first | exact Free.wanted_of rfl rfl rfl | rfl) rfl; (intro w' hB hA; obtain ⟨qB, r0, r1, r8, r9, r10⟩ := hB; clear hA  qB; go_light; go_simp <;> rfl); (try simp only [Act.put, List.setIfInBounds_toArray, List.set_cons_succ, List.set_cons_zero]))
  try rw [show (E == E) = true by simp]
  iterate 4 (apply Free.chain_still (by first | exact Free.wanted_of rfl rfl rfl | rfl) rfl; (intro w' hB hA; obtain ⟨qB, r0, r1, r8, r9, r10⟩ := hB; clear hA  qB; go_light; go_simp <;> rfl); (try simp only [Act.put, List.setIfInBounds_toArray, List.set_cons_succ, List.set_cons_zero]))
  apply Free.chain_det (by first | exact Free.wanted_of rfl rfl rfl | rfl) rfl
  · intro w' hB hA
    refine Free.opRun_call (f := 27) (args := #[.slice A2 pp.length c2, .slice A3 pp.length c3]) (by clear hB hA; go_simp <;> rfl) ?_
    refine (CST.out w' hB.1).mono ?_
    rintro e w3 ⟨rfl, hb3⟩
    exact ⟨_, rfl, hb3, rfl⟩
  simp only [Act.put, List.setIfInBounds_toArray, List.set_cons_succ, List.set_cons_zero]
  iterate 9 (apply Free.chain_still (by first | exact Free.wanted_of rfl rfl rfl | rfl) rfl; (intro w' hB hA; obtain ⟨qB, r0, r1, r8, r9, r10⟩ := hB; clear hA  qB; go_light; go_simp <;> rfl); (try simp only [Act.put, List.setIfInBounds_toArray, List.set_cons_succ, List.set_cons_zero]))
  apply Free.chain_still (by first | exact Free.wanted_of rfl rfl rfl | rfl) rfl
  · intro w' hB hA
    exact exec_fac (x := ⟨xr, xa, xl, xh, xf, xs⟩) (b := w.heap.size) (off := 2) rfl rfl (claim_fac (BC.out w' (HB3.out.trans (hB.1.mono HB3.out.size))))
  simp only [Act.put, List.setIfInBounds_toArray, List.set_cons_succ, List.set_cons_zero]
  iterate 4 (apply Free.chain_still (by first | exact Free.wanted_of rfl rfl rfl | rfl) rfl; (intro w' hB hA; obtain ⟨qB, r0, r1, r8, r9, r10⟩ := hB; clear hA  qB; go_light; go_simp <;> rfl); (try simp only [Act.put, List.setIfInBounds_toArray, List.set_cons_succ, List.set_cons_zero]))
  apply Free.chain_det (by first | exact Free.wanted_of rfl rfl rfl | rfl) rfl
  · intro w' hB hA
    refine Free.opRun_call (f := 19) (args := #[.string r, .int .i64 n, .int .i64 i, .agg (encF ⟨xr, xa, xl, xh, xf, xs⟩).toArray, .string s, .slice B p.length d]) (by clear hB hA; go_simp <;> rfl) ?_
    refine (CCf.out w' (HB3.out.trans (hB.1.mono HB3.out.size))).mono ?_
    rintro e w3 ⟨rfl, hb3⟩
    exact ⟨_, rfl, hb3, rfl⟩
  simp only [Act.put, List.setIfInBounds_toArray, List.set_cons_succ, List.set_cons_zero]
  iterate 7 (apply Free.chain_still (by first | exact Free.wanted_of rfl rfl rfl | rfl) rfl; (intro w' hB hA; obtain ⟨qB, r0, r1, r8, r9, r10⟩ := hB; clear hA  qB; go_light; go_simp <;> rfl); (try simp only [Act.put, List.setIfInBounds_toArray, List.set_cons_succ, List.set_cons_zero]))
  apply Free.chain_still (by first | exact Free.wanted_of rfl rfl rfl | rfl) rfl
  · intro w' hB hA
    exact exec_fac (x := ⟨xr, xa, xl, xh, xf, xs⟩) (b := w.heap.size) (off := 2) rfl rfl (claim_fac (BC.out w' (HB3.out.trans (hB.1.mono HB3.out.size))))
  simp only [Act.put, List.setIfInBounds_toArray, List.set_cons_succ, List.set_cons_zero]
  iterate 4 (apply Free.chain_still (by first | exact Free.wanted_of rfl rfl rfl | rfl) rfl; (intro w' hB hA; obtain ⟨qB, r0, r1, r8, r9, r10⟩ := hB; clear hA  qB; go_light; go_simp <;> rfl); (try simp only [Act.put, List.setIfInBounds_toArray, List.set_cons_succ, List.set_cons_zero]))
  apply Free.chain_det (by first | exact Free.wanted_of rfl rfl rfl | rfl) rfl
  · intro w' hB hA
    refine Free.opRun_call (f := 28) (args := #[.string r, .int .i64 n, .int .i64 i, .agg (encF ⟨xr, xa, xl, xh, xf, xs⟩).toArray, .string s, .slice B p.length d]) (by clear hB hA; go_simp <;> rfl) ?_
    refine (CCr.out w' (HB3.out.trans (hB.1.mono HB3.out.size))).mono ?_
    rintro e w3 ⟨rfl, hb3⟩
    exact ⟨_, rfl, hb3, rfl⟩
  simp only [Act.put, List.setIfInBounds_toArray, List.set_cons_succ, List.set_cons_zero]
  iterate 1 (apply Free.chain_still (by first | exact Free.wanted_of rfl rfl rfl | rfl) rfl; (intro w' hB hA; obtain ⟨qB, r0, r1, r8, r9, r10⟩ := hB; clear hA  qB; go_light; go_simp <;> rfl); (try simp only [Act.put, List.setIfInBounds_toArray, List.set_cons_succ, List.set_cons_zero]))
  try rw [show (C == C) = true by simp]
  iterate 1 (apply Free.chain_still (by first | exact Free.wanted_of rfl rfl rfl | rfl) rfl; (intro w' hB hA; obtain ⟨qB, r0, r1, r8, r9, r10⟩ := hB; clear hA  qB; go_light; go_simp <;> rfl); (try simp only [Act.put, List.setIfInBounds_toArray, List.set_cons_succ, List.set_cons_zero]))
  apply Free.chain_nil
  intro wz hBz _ _
  simp only [List.drop_succ_cons, List.drop_zero]
  have L := Lib.hid (HW3.out.trans (hBz.1.mono HW3.out.size))
  clear hBz CLf CLr CRf CRr CCf CCr CST
  go_wp2_with fail
  exact FIN.out _ L.out
end Go.Proofs.YtamiaalfjmppaaaDoor
