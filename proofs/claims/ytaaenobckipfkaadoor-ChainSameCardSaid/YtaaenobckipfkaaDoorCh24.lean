/- The reference of layer 31: the digest of an entry. No condition. -/
import Derived.Test.YtaaenobckipfkaaDoorCh23
import Derived.Test.YtaaenobckipfkaaDoorRefG
namespace Go.Proofs.YtaaenobckipfkaaDoor
open Go.RowKit Go.Blk Go.Opn

set_option maxRecDepth 100000 in
set_option maxHeartbeats 2000000 in
theorem rdig_any (e0 : E31) (w : World) (ho : e0.Ok) (hp : e0.prev.size ≤ 1000000) (hb : e0.body.size ≤ 1000000) :
    Calls Tryd.prog 22 #[.agg (encE e0).toArray] w fun e w' => e = .returned (.string (dig e0)) ∧ Below w.heap.size w w' := by
  have B0 := (Blk.new w (encE e0) 37)
  have c0 := B0.cellD 0 _ rfl
  have c1 := B0.cellD 1 _ rfl
  have c2 := B0.cellD 2 _ rfl
  have c3 := B0.cellD 3 _ rfl
  have c4 := B0.cellD 4 _ rfl
  have c5 := B0.cellD 5 _ rfl
  have c6 := B0.cellD 6 _ rfl
  have C1 := Lib.hid (fun w => rtext_any e0 w ho (by omega) (by omega))
  have C2 := Lib.hid (fun w => rdec31_any e0.r w ho.r0 ho.r1)
  have C3 := Lib.hid (fun w => rdec31_any e0.s w ho.s0 ho.s1)
  have hs := txS_size ho
  have C4 := Lib.hid (fun w => refsum_any (txS e0) w (by omega))
  have ED : Hid (dig e0 = sumB KC (txS e0)) := rfl
  obtain ⟨dg, edg⟩ : ∃ dg, dg = dig e0 := ⟨_, rfl⟩
  rw [← edg]
  rw [← ED.out, ← edg] at C4
  unfold txS at C4
  obtain ⟨tt, ett⟩ : ∃ tt, tt = txE e0 := ⟨_, rfl⟩
  rw [← ett] at C1 C4
  obtain ⟨xh, xq, xd, xp, xb, xr, xs⟩ := e0
  have hbw := (Below.refl w.heap.size w).alloc (Nat.le_refl _) (.cells (encE ⟨xh, xq, xd, xp, xb, xr, xs⟩).toArray 37)
  have HB := Lib.hid hbw
  have htt : tt.size ≤ 3000000000 := by have := txE_size ho; rw [ett]; simp only at this hp hb; omega
  have hdr := dec_size xr ho.r0 ho.r1
  have hds := dec_size xs ho.s0 ho.s1
  have z1 : ¬ 9223372036854775807 < tt.size + 1 := by omega
  have z2 : ¬ 9223372036854775807 < tt.size + 1 + (dec xr).size := by omega
  have z3 : ¬ 9223372036854775807 < tt.size + 1 + (dec xr).size + 1 := by omega
  have z4 : ¬ 9223372036854775807 < tt.size + 1 + (dec xr).size + 1 + (dec xs).size := by omega
  clear ho hp hb hs ED edg ett B0 hbw
  go_enter Tryd.func22, Tryd.ntmps22
  go_wp2_with fail
  refine Free.wp_region_free 15 [(1, .det (.string tt)), (6, .det (.string (dec xr))), (12, .det (.string (dec xs))), (14, .det (.string dg))] (fun w2 => w2.cell? ⟨w.heap.size, 0, none⟩ = some (.int .i64 xh) ∧ w2.cell? ⟨w.heap.size, 1, none⟩ = some (.int .i64 xq) ∧ w2.cell? ⟨w.heap.size, 2, none⟩ = some (.int .i64 xd) ∧ w2.cell? ⟨w.heap.size, 3, none⟩ = some (.string xp) ∧ w2.cell? ⟨w.heap.size, 4, none⟩ = some (.string xb) ∧ w2.cell? ⟨w.heap.size, 5, none⟩ = some (.int .i64 xr) ∧ w2.cell? ⟨w.heap.size, 6, none⟩ = some (.int .i64 xs)) (by kernel_rfl) (by kernel_rfl) ?_ ⟨c0, c1, c2, c3, c4, c5, c6⟩ (fun _ _ h g => ⟨grow_cell h.1 g, grow_cell h.2.1 g, grow_cell h.2.2.1 g, grow_cell h.2.2.2.1 g, grow_cell h.2.2.2.2.1 g, grow_cell h.2.2.2.2.2.1 g, grow_cell h.2.2.2.2.2.2 g⟩) ?_
  · intro j mk r hf
    simp only [Free.find] at hf
    repeat' split at hf
    all_goals (first | cases hf | skip)
  simp only [List.take_succ_cons, List.take_zero]
  clear c0 c1 c2 c3 c4 c5 c6
  iterate 1 (apply Free.chain_still (by first | exact Free.wanted_of rfl rfl rfl | rfl) rfl; (intro w' hB hA; obtain ⟨q0, q1, q2, q3, q4, q5, q6⟩ := hB; clear hA ; go_light; go_simp <;> rfl); (try simp only [Act.put, List.setIfInBounds_toArray, List.set_cons_succ, List.set_cons_zero]))
  apply Free.chain_det rfl rfl
  · intro w' hB hA
    refine Free.opRun_call (f := 29) (args := #[.agg (encE ⟨xh, xq, xd, xp, xb, xr, xs⟩).toArray]) (by clear hB hA; go_simp <;> rfl) ?_
    refine (C1.out w').mono ?_
    rintro e w3 ⟨rfl, hb3⟩
    exact ⟨_, rfl, hb3, rfl⟩
  simp only [Act.put, List.setIfInBounds_toArray, List.set_cons_succ, List.set_cons_zero]
  iterate 4 (apply Free.chain_still (by first | exact Free.wanted_of rfl rfl rfl | rfl) rfl; (intro w' hB hA; obtain ⟨q0, q1, q2, q3, q4, q5, q6⟩ := hB; clear hA ; go_light; go_simp <;> rfl); (try simp only [Act.put, List.setIfInBounds_toArray, List.set_cons_succ, List.set_cons_zero]))
  apply Free.chain_det rfl rfl
  · intro w' hB hA
    refine Free.opRun_call (f := 47) (args := #[.int .i64 xr]) (by clear hB hA; go_simp <;> rfl) ?_
    refine (C2.out w').mono ?_
    rintro e w3 ⟨rfl, hb3⟩
    exact ⟨_, rfl, hb3, rfl⟩
  simp only [Act.put, List.setIfInBounds_toArray, List.set_cons_succ, List.set_cons_zero]
  iterate 5 (apply Free.chain_still (by first | exact Free.wanted_of rfl rfl rfl | rfl) rfl; (intro w' hB hA; obtain ⟨q0, q1, q2, q3, q4, q5, q6⟩ := hB; clear hA ; go_light; go_simp <;> rfl); (try simp only [Act.put, List.setIfInBounds_toArray, List.set_cons_succ, List.set_cons_zero]))
  apply Free.chain_det rfl rfl
  · intro w' hB hA
    refine Free.opRun_call (f := 47) (args := #[.int .i64 xs]) (by clear hB hA; go_simp <;> rfl) ?_
    refine (C3.out w').mono ?_
    rintro e w3 ⟨rfl, hb3⟩
    exact ⟨_, rfl, hb3, rfl⟩
  simp only [Act.put, List.setIfInBounds_toArray, List.set_cons_succ, List.set_cons_zero]
  iterate 1 (apply Free.chain_still (by first | exact Free.wanted_of rfl rfl rfl | rfl) rfl; (intro w' hB hA; obtain ⟨q0, q1, q2, q3, q4, q5, q6⟩ := hB; clear hA ; go_light; go_simp <;> rfl); (try simp only [Act.put, List.setIfInBounds_toArray, List.set_cons_succ, List.set_cons_zero]))
  apply Free.chain_det rfl rfl
  · intro w' hB hA
    refine Free.opRun_call (f := 46) (args := #[.string (tt ++ ⟨#[32]⟩ ++ dec xr ++ ⟨#[32]⟩ ++ dec xs)]) (by clear hB hA; go_simp <;> rfl) ?_
    refine (C4.out w').mono ?_
    rintro e w3 ⟨rfl, hb3⟩
    exact ⟨_, rfl, hb3, rfl⟩
  simp only [Act.put, List.setIfInBounds_toArray, List.set_cons_succ, List.set_cons_zero]
  apply Free.chain_nil
  intro wz _ hg _
  simp only [List.drop_succ_cons, List.drop_zero]
  have hz := grow_drew2 hg
  have FIN := Lib.hid (HB.out.trans (hz.mono (by simp)))
  clear hg hz HB C1 C2 C3 C4
  go_wp2
  go_ret
  exact ⟨rfl, FIN.out⟩
theorem few_small {l : List E31} {n : Nat} (h : fewB l n = true) : ∀ e ∈ l, e.prev.size ≤ 100 ∧ e.body.size ≤ 2100 := by
  unfold fewB at h
  rw [Bool.and_eq_true, List.all_eq_true] at h
  intro e he
  have := h.2 e he
  unfold smallE at this
  rw [Bool.and_eq_true, decide_eq_true_iff, decide_eq_true_iff] at this
  exact this
end Go.Proofs.YtaaenobckipfkaaDoor
