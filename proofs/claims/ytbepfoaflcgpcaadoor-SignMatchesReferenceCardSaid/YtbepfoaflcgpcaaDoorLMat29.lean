/- The walk of SignMatchesReference: the law answers true for every input. Condition: the variables of digest and of strconv hold their numbers. -/
import Derived.Test.YtbepfoaflcgpcaaDoorSgS
namespace Go.Proofs.YtbepfoaflcgpcaaDoor
open Go.RowKit Go.W32 Go.Blk Go.Sg Go.OpenShut

def sgRV (x : Int) (t : ByteArray) : Int := if isSec x then sgR x t else 0
def sgSV (x : Int) (t : ByteArray) : Int := if isSec x then sgS x t else 0
theorem sign_any (x : Int) (t : ByteArray) (w : World) (ht : t.size ≤ 1000000000000) (hT : HasT w) :
    Calls Tryd.prog 13 #[.int .i64 x, .string t] w fun e w' => e = .returned (.tuple #[.agg #[.int .i64 (sgRV x t), .int .i64 (sgSV x t)], .int .i64 (pubE x)]) ∧ Below w.heap.size w w' := by
  unfold sgRV sgSV pubE
  by_cases h : isSec x
  · simp only [if_pos h]; exact sign_yes x t w h ht hT
  · simp only [if_neg h]; exact sign_no x t w h
theorem rsign_any (x : Int) (t : ByteArray) (w : World) (ht : t.size ≤ 500000000) (hT : HasT w) :
    Calls Tryd.prog 14 #[.int .i64 x, .string t] w fun e w' => e = .returned (.tuple #[.agg #[.int .i64 (sgRV x t), .int .i64 (sgSV x t)], .int .i64 (pubE x)]) ∧ Below w.heap.size w w' := by
  unfold sgRV sgSV pubE
  by_cases h : isSec x
  · simp only [if_pos h]; exact rsign_yes x t w h ht hT
  · simp only [if_neg h]; exact rsign_no x t w h
set_option maxRecDepth 100000 in
set_option maxHeartbeats 4000000 in
theorem mat29_any (b n x y : Int) (t : ByteArray) (r s : Int) (w : World) (_h1 : (Lit.int .i64 b).wf = true) (hn : (Lit.int .i64 n).wf = true) (_h3 : (Lit.int .i64 x).wf = true) (_h4 : (Lit.int .i64 y).wf = true) (_h5 : (Lit.int .i64 r).wf = true) (_h6 : (Lit.int .i64 s).wf = true) (hT : HasT w) :
    Calls Tryd.prog 3 #[.int .i64 b, .int .i64 n, .int .i64 x, .int .i64 y, .string t, .agg #[.int .i64 r, .int .i64 s]] w fun r w' => r = .returned (.bool true) ∧ Below w.heap.size w w' := by
  have hn2 := (bounds_i64 hn).2
  have HT0 := Lib.hid (hT.alloc (.cells #[.int .i64 r, .int .i64 s] 23))
  have HB0 := Lib.hid ((Below.refl w.heap.size w).alloc (Nat.le_refl _) (.cells #[.int .i64 r, .int .i64 s] 23))
  have B0 := Blk.new w [.int .i64 r, .int .i64 s] 23
  have HB0b := Lib.hid B0
  clear hT _h1 hn _h3 _h4 _h5 _h6 B0
  by_cases ht : t.size ≤ 300
  · have c1 := fun w => pub_any x w
    have c2 := fun w => rpub_any x w
    have c3 := fun w h => sign_any x t w (by omega) h
    have c4 := fun w h => rsign_any x t w (by omega) h
    have c5 := fun w h => ver_any y t r s w (by omega) h
    have c6 := fun w => rver_any y t r s w (by omega)
    have c7 := fun w => power_any b n w hn2
    have c8 := fun w => rpower_any b n w hn2
    obtain ⟨E, eE⟩ : ∃ E, E = pubE x := ⟨_, rfl⟩
    obtain ⟨V, eV⟩ : ∃ V, V = pubV x := ⟨_, rfl⟩
    obtain ⟨R, eR⟩ : ∃ R, R = sgRV x t := ⟨_, rfl⟩
    obtain ⟨U, eU⟩ : ∃ U, U = sgSV x t := ⟨_, rfl⟩
    obtain ⟨Z, eZ⟩ : ∃ Z, Z = verB y t r s := ⟨_, rfl⟩
    obtain ⟨P, eP⟩ : ∃ P, P = power b n := ⟨_, rfl⟩
    simp only [← eE, ← eV, ← eR, ← eU, ← eZ, ← eP] at c1 c2 c3 c4 c5 c6 c7 c8
    have C1 := Lib.hid c1
    have C2 := Lib.hid c2
    have C3 := Lib.hid c3
    have C4 := Lib.hid c4
    have C5 := Lib.hid c5
    have C6 := Lib.hid c6
    have C7 := Lib.hid c7
    have C8 := Lib.hid c8
    clear c1 c2 c3 c4 c5 c6 c7 c8 eE eV eR eU eZ eP
    go_enter Tryd.func3, Tryd.ntmps3
    go_wp2_with fail
    refine (head29_any _ HT0.out).mono ?_
    rintro e w1 ⟨rfl, hb1⟩
    have HT1 := Lib.hid (HT0.out.below hb1 (Nat.le_refl _))
    have HB1 := Lib.hid (HB0.out.trans (hb1.mono HB0.out.size))
    have HB1b := Lib.hid (HB0b.out.below hb1 HB0b.out.lt)
    clear hb1
    go_wp2_with fail
    refine (C1.out _).mono ?_
    rintro e w' ⟨rfl, rfl⟩
    go_wp2_with fail
    refine (C2.out _).mono ?_
    rintro e w' ⟨rfl, rfl⟩
    go_wp2_with fail
    refine (C3.out _ HT1.out).mono ?_
    rintro e w2 ⟨rfl, hb2⟩
    have HT2 := Lib.hid (HT1.out.below hb2 (Nat.le_refl _))
    have HB2 := Lib.hid (HB1.out.trans (hb2.mono HB1.out.size))
    have HB2b := Lib.hid (HB1b.out.below hb2 HB1b.out.lt)
    clear hb2
    have HT2a := Lib.hid (HT2.out.alloc (.cells #[.int .i64 R, .int .i64 U] 23))
    have HB2a := Lib.hid (HB2.out.alloc HB2.out.size (.cells #[.int .i64 R, .int .i64 U] 23))
    have HBA := Lib.hid (Blk.new w2 [.int .i64 R, .int .i64 U] 23)
    have HBB := Lib.hid (HB2b.out.alloc (.cells #[.int .i64 R, .int .i64 U] 23))
    go_wp2_with fail
    refine (C4.out _ HT2a.out).mono ?_
    rintro e w3 ⟨rfl, hb3⟩
    have HT3 := Lib.hid ((HT2a.out.below hb3 (Nat.le_refl _)).alloc (.cells #[.int .i64 R, .int .i64 U] 23))
    have HB3 := Lib.hid ((HB2a.out.trans (hb3.mono HB2a.out.size)).alloc (Nat.le_trans HB2a.out.size hb3.size) (.cells #[.int .i64 R, .int .i64 U] 23))
    have k1 := (HBA.out.below hb3 HBA.out.lt).alloc (.cells #[.int .i64 R, .int .i64 U] 23)
    have k2 := (HBB.out.below hb3 HBB.out.lt).alloc (.cells #[.int .i64 R, .int .i64 U] 23)
    have k3 := Blk.new w3 [.int .i64 R, .int .i64 U] 23
    have K1 := Lib.hid k1
    have K2 := Lib.hid k2
    have K3 := Lib.hid k3
    clear hb3 k1 k2 k3
    go_wp2_with fail
    refine Free.wp_region_free 41 [(4, .det (.int .i64 P)), (7, .det (.int .i64 P)), (34, .det (.bool Z)), (38, .det (.bool Z))] (fun w' => HasT w' ∧ (w'.cell? ⟨w.heap.size, 0, none⟩ = some (.int .i64 r) ∧ w'.cell? ⟨w.heap.size, 1, none⟩ = some (.int .i64 s)) ∧ (w'.cell? ⟨w2.heap.size, 0, none⟩ = some (.int .i64 R) ∧ w'.cell? ⟨w2.heap.size, 1, none⟩ = some (.int .i64 U)) ∧ (w'.cell? ⟨w3.heap.size, 0, none⟩ = some (.int .i64 R) ∧ w'.cell? ⟨w3.heap.size, 1, none⟩ = some (.int .i64 U))) (by kernel_rfl) (by kernel_rfl) ?_
      ⟨HT3.out.below (Below.refl _ _).drew (Nat.le_refl _), ⟨K2.out.drew.cell 0 (by simp), K2.out.drew.cell 1 (by simp)⟩, ⟨K1.out.drew.cell 0 (by simp), K1.out.drew.cell 1 (by simp)⟩, ⟨K3.out.drew.cell 0 (by simp), K3.out.drew.cell 1 (by simp)⟩⟩
      (fun _ _ h g => ⟨h.1.below g (Nat.le_refl _), ⟨cell_grow h.2.1.1 g, cell_grow h.2.1.2 g⟩, ⟨cell_grow h.2.2.1.1 g, cell_grow h.2.2.1.2 g⟩, ⟨cell_grow h.2.2.2.1 g, cell_grow h.2.2.2.2 g⟩⟩) ?_
    · intro j mk r hf
      simp only [Free.find] at hf
      repeat' split at hf
      all_goals (first | cases hf | skip)
    · simp only [List.take_succ_cons, List.take_zero]
      iterate 4 (apply Free.chain_still (by first | exact Free.wanted_of rfl rfl rfl | rfl) rfl; (intro w' hB hA; obtain ⟨q0, ⟨a1, a2⟩, ⟨a3, a4⟩, a5, a6⟩ := hB; clear hA  q0 a1 a2 a3 a4 a5 a6; go_light; go_simp <;> rfl); (try simp only [Act.put, List.setIfInBounds_toArray, List.set_cons_succ, List.set_cons_zero]))
      apply Free.chain_det (by exact Free.wanted_of rfl rfl rfl) rfl
      · intro w' ⟨q0, q1⟩ hA
        refine Free.opRun_call (f := 15) (args := #[.int .i64 b, .int .i64 n]) (by clear q0 q1 hA; go_simp) ?_
        refine (C7.out _).mono ?_
        rintro e w3 ⟨rfl, hb3⟩
        exact ⟨_, rfl, grow_same hb3, rfl⟩
      simp only [Act.put, List.setIfInBounds_toArray, List.set_cons_succ, List.set_cons_zero]
      iterate 2 (apply Free.chain_still (by first | exact Free.wanted_of rfl rfl rfl | rfl) rfl; (intro w' hB hA; obtain ⟨q0, ⟨a1, a2⟩, ⟨a3, a4⟩, a5, a6⟩ := hB; clear hA  q0 a1 a2 a3 a4 a5 a6; go_light; go_simp <;> rfl); (try simp only [Act.put, List.setIfInBounds_toArray, List.set_cons_succ, List.set_cons_zero]))
      apply Free.chain_det (by exact Free.wanted_of rfl rfl rfl) rfl
      · intro w' ⟨q0, q1⟩ hA
        refine Free.opRun_call (f := 16) (args := #[.int .i64 b, .int .i64 n]) (by clear q0 q1 hA; go_simp) ?_
        refine (C8.out _).mono ?_
        rintro e w3 ⟨rfl, hb3⟩
        exact ⟨_, rfl, grow_same hb3, rfl⟩
      simp only [Act.put, List.setIfInBounds_toArray, List.set_cons_succ, List.set_cons_zero]
      iterate 26 (apply Free.chain_still (by first | exact Free.wanted_of rfl rfl rfl | rfl) rfl; (intro w' hB hA; obtain ⟨q0, ⟨a1, a2⟩, ⟨a3, a4⟩, a5, a6⟩ := hB; clear hA  q0; go_light; go_simp <;> rfl); (try simp only [Act.put, List.setIfInBounds_toArray, List.set_cons_succ, List.set_cons_zero]))
      apply Free.chain_det (by exact Free.wanted_of rfl rfl rfl) rfl
      · intro w' ⟨q0, q1⟩ hA
        refine Free.opRun_call (f := 17) (args := #[.int .i64 y, .string t, .agg #[.int .i64 r, .int .i64 s]]) (by clear q0 q1 hA; go_simp) ?_
        refine (C5.out _ q0).mono ?_
        rintro e w3 ⟨rfl, hb3⟩
        exact ⟨_, rfl, hb3, rfl⟩
      simp only [Act.put, List.setIfInBounds_toArray, List.set_cons_succ, List.set_cons_zero]
      iterate 3 (apply Free.chain_still (by first | exact Free.wanted_of rfl rfl rfl | rfl) rfl; (intro w' hB hA; obtain ⟨q0, ⟨a1, a2⟩, ⟨a3, a4⟩, a5, a6⟩ := hB; clear hA  q0; go_light; go_simp <;> rfl); (try simp only [Act.put, List.setIfInBounds_toArray, List.set_cons_succ, List.set_cons_zero]))
      apply Free.chain_det (by exact Free.wanted_of rfl rfl rfl) rfl
      · intro w' ⟨q0, q1⟩ hA
        refine Free.opRun_call (f := 18) (args := #[.int .i64 y, .string t, .agg #[.int .i64 r, .int .i64 s]]) (by clear q0 q1 hA; go_simp) ?_
        refine (C6.out _).mono ?_
        rintro e w3 ⟨rfl, hb3⟩
        exact ⟨_, rfl, hb3, rfl⟩
      simp only [Act.put, List.setIfInBounds_toArray, List.set_cons_succ, List.set_cons_zero]
      iterate 2 (apply Free.chain_still (by first | exact Free.wanted_of rfl rfl rfl | rfl) rfl; (intro w' hB hA; obtain ⟨q0, ⟨a1, a2⟩, ⟨a3, a4⟩, a5, a6⟩ := hB; clear hA  q0; go_light; go_simp <;> rfl); (try simp only [Act.put, List.setIfInBounds_toArray, List.set_cons_succ, List.set_cons_zero]))
      apply Free.chain_nil
      intro w4 _ hg _
      have hg' := grow_drew hg
      have HB4 := Lib.hid (HB3.out.trans (hg'.mono HB3.out.size))
      clear hg hg'
      simp only [List.drop_succ_cons, List.drop_zero]
      go_wp2_with fail
      go_ret
      exact ⟨rfl, HB4.out⟩
  · skip
    go_enter Tryd.func3, Tryd.ntmps3
    go_wp2_with fail
    refine (head29_any _ HT0.out).mono ?_
    rintro e w1 ⟨rfl, hb1⟩
    have HT1 := Lib.hid (HT0.out.below hb1 (Nat.le_refl _))
    have HB1 := Lib.hid (HB0.out.trans (hb1.mono HB0.out.size))
    clear hb1
    go_wp2_with fail
    go_ret
    exact ⟨rfl, HB1.out⟩
end Go.Proofs.YtbepfoaflcgpcaaDoor
