/- The reference of layer 31: the text of an entry. No condition. -/
import Derived.Test.YtaaenobckipfkaaDoorCh22
namespace Go.Proofs.YtaaenobckipfkaaDoor
open Go.RowKit Go.Blk Go.Opn

theorem txE_cat (e : E31) : txE e = (⟨#[101, 110, 116, 114, 121, 32]⟩ : ByteArray) ++ dec e.house ++ ⟨#[32]⟩ ++ dec e.seq ++ ⟨#[32]⟩ ++ dec e.day ++ ⟨#[32]⟩ ++ dec (e.prev.size : Int) ++ ⟨#[32]⟩ ++ e.prev ++ e.body := by
  apply ba_ext
  show txL e = _
  rw [txL_eq]
  simp only [ba_append, dec_tl, List.append_assoc, List.cons_append, List.nil_append]
set_option maxRecDepth 100000 in
set_option maxHeartbeats 2000000 in
theorem rtext_any (e0 : E31) (w : World) (ho : e0.Ok) (hp : e0.prev.size ≤ 1000000000) (hb : e0.body.size ≤ 1000000000) :
    Calls Tryd.prog 29 #[.agg (encE e0).toArray] w fun e w' => e = .returned (.string (txE e0)) ∧ Below w.heap.size w w' := by
  have B0 := (Blk.new w (encE e0) 37)
  have c0 := B0.cellD 0 _ rfl
  have c1 := B0.cellD 1 _ rfl
  have c2 := B0.cellD 2 _ rfl
  have c3 := B0.cellD 3 _ rfl
  have c4 := B0.cellD 4 _ rfl
  have hbw := (Below.refl w.heap.size w).alloc (Nat.le_refl _) (.cells (encE e0).toArray 37)
  have HB := Lib.hid hbw
  have C1 := Lib.hid (fun w => rdec31_any e0.house w ho.h0 ho.h1)
  have C2 := Lib.hid (fun w => rdec31_any e0.seq w ho.q0 ho.q1)
  have C3 := Lib.hid (fun w => rdec31_any e0.day w ho.d0 ho.d1)
  have C4 := Lib.hid (fun w => rdec31_any (e0.prev.size : Int) w (by omega) (by omega))
  have s1 := dec_size e0.house ho.h0 ho.h1
  have s2 := dec_size e0.seq ho.q0 ho.q1
  have s3 := dec_size e0.day ho.d0 ho.d1
  have s4 := dec_size (e0.prev.size : Int) (by omega) (by omega)
  have HC := Lib.hid (txE_cat e0)
  obtain ⟨R, eR⟩ : ∃ R, R = txE e0 := ⟨_, rfl⟩
  rw [← eR] at HC ⊢
  obtain ⟨xh, xq, xd, xp, xb, xr, xs⟩ := e0
  dsimp only at hp hb s1 s2 s3 s4
  obtain ⟨t1, et1⟩ : ∃ t1, t1 = dec xh := ⟨_, rfl⟩
  obtain ⟨t2, et2⟩ : ∃ t2, t2 = dec xq := ⟨_, rfl⟩
  obtain ⟨t3, et3⟩ : ∃ t3, t3 = dec xd := ⟨_, rfl⟩
  obtain ⟨t4, et4⟩ : ∃ t4, t4 = dec (xp.size : Int) := ⟨_, rfl⟩
  dsimp only at C1 C2 C3 C4 HC
  rw [← et1] at s1 HC
  simp only [← et1] at C1
  rw [← et2] at s2 HC
  simp only [← et2] at C2
  rw [← et3] at s3 HC
  simp only [← et3] at C3
  rw [← et4] at s4 HC
  simp only [← et4] at C4
  clear ho B0 hbw et1 et2 et3 et4 eR
  have z1 : ¬ 9223372036854775807 < 6 + t1.size := by omega
  have z2 : ¬ 9223372036854775807 < 6 + t1.size + 1 := by omega
  have z3 : ¬ 9223372036854775807 < 6 + t1.size + 1 + t2.size := by omega
  have z4 : ¬ 9223372036854775807 < 6 + t1.size + 1 + t2.size + 1 := by omega
  have z5 : ¬ 9223372036854775807 < 6 + t1.size + 1 + t2.size + 1 + t3.size := by omega
  have z6 : ¬ 9223372036854775807 < 6 + t1.size + 1 + t2.size + 1 + t3.size + 1 := by omega
  have z7 : ¬ 9223372036854775807 < 6 + t1.size + 1 + t2.size + 1 + t3.size + 1 + t4.size := by omega
  have z8 : ¬ 9223372036854775807 < 6 + t1.size + 1 + t2.size + 1 + t3.size + 1 + t4.size + 1 := by omega
  have z9 : ¬ 9223372036854775807 < 6 + t1.size + 1 + t2.size + 1 + t3.size + 1 + t4.size + 1 + xp.size := by omega
  have z10 : ¬ 9223372036854775807 < 6 + t1.size + 1 + t2.size + 1 + t3.size + 1 + t4.size + 1 + xp.size + xb.size := by omega
  go_enter Tryd.func29, Tryd.ntmps29
  go_wp2_with fail
  refine Free.wp_region_free 27 [(2, .det (.string t1)), (7, .det (.string t2)), (12, .det (.string t3)), (18, .det (.string t4))] (fun w2 => w2.cell? ⟨w.heap.size, 0, none⟩ = some (.int .i64 xh) ∧ w2.cell? ⟨w.heap.size, 1, none⟩ = some (.int .i64 xq) ∧ w2.cell? ⟨w.heap.size, 2, none⟩ = some (.int .i64 xd) ∧ w2.cell? ⟨w.heap.size, 3, none⟩ = some (.string xp) ∧ w2.cell? ⟨w.heap.size, 4, none⟩ = some (.string xb)) (by kernel_rfl) (by kernel_rfl) ?_ ⟨c0, c1, c2, c3, c4⟩ (fun _ _ h g => ⟨grow_cell h.1 g, grow_cell h.2.1 g, grow_cell h.2.2.1 g, grow_cell h.2.2.2.1 g, grow_cell h.2.2.2.2 g⟩) ?_
  · intro j mk r hf
    simp only [Free.find] at hf
    repeat' split at hf
    all_goals (first | cases hf | skip)
  simp only [List.take_succ_cons, List.take_zero]
  clear c0 c1 c2 c3 c4
  iterate 2 (apply Free.chain_still (by first | exact Free.wanted_of rfl rfl rfl | rfl) rfl; (intro w' hB hA; obtain ⟨q0, q1, q2, q3, q4⟩ := hB; clear hA ; go_light; go_simp <;> rfl); (try simp only [Act.put, List.setIfInBounds_toArray, List.set_cons_succ, List.set_cons_zero]))
  apply Free.chain_det rfl rfl
  · intro w' hB hA
    refine Free.opRun_call (f := 47) (args := #[.int .i64 xh]) (by clear hB hA; go_simp <;> rfl) ?_
    refine (C1.out w').mono ?_
    rintro e w3 ⟨rfl, hb3⟩
    exact ⟨_, rfl, hb3, rfl⟩
  simp only [Act.put, List.setIfInBounds_toArray, List.set_cons_succ, List.set_cons_zero]
  iterate 4 (apply Free.chain_still (by first | exact Free.wanted_of rfl rfl rfl | rfl) rfl; (intro w' hB hA; obtain ⟨q0, q1, q2, q3, q4⟩ := hB; clear hA ; go_light; go_simp <;> rfl); (try simp only [Act.put, List.setIfInBounds_toArray, List.set_cons_succ, List.set_cons_zero]))
  apply Free.chain_det rfl rfl
  · intro w' hB hA
    refine Free.opRun_call (f := 47) (args := #[.int .i64 xq]) (by clear hB hA; go_simp <;> rfl) ?_
    refine (C2.out w').mono ?_
    rintro e w3 ⟨rfl, hb3⟩
    exact ⟨_, rfl, hb3, rfl⟩
  simp only [Act.put, List.setIfInBounds_toArray, List.set_cons_succ, List.set_cons_zero]
  iterate 4 (apply Free.chain_still (by first | exact Free.wanted_of rfl rfl rfl | rfl) rfl; (intro w' hB hA; obtain ⟨q0, q1, q2, q3, q4⟩ := hB; clear hA ; go_light; go_simp <;> rfl); (try simp only [Act.put, List.setIfInBounds_toArray, List.set_cons_succ, List.set_cons_zero]))
  apply Free.chain_det rfl rfl
  · intro w' hB hA
    refine Free.opRun_call (f := 47) (args := #[.int .i64 xd]) (by clear hB hA; go_simp <;> rfl) ?_
    refine (C3.out w').mono ?_
    rintro e w3 ⟨rfl, hb3⟩
    exact ⟨_, rfl, hb3, rfl⟩
  simp only [Act.put, List.setIfInBounds_toArray, List.set_cons_succ, List.set_cons_zero]
  iterate 5 (apply Free.chain_still (by first | exact Free.wanted_of rfl rfl rfl | rfl) rfl; (intro w' hB hA; obtain ⟨q0, q1, q2, q3, q4⟩ := hB; clear hA ; go_light; go_simp <;> rfl); (try simp only [Act.put, List.setIfInBounds_toArray, List.set_cons_succ, List.set_cons_zero]))
  apply Free.chain_det rfl rfl
  · intro w' hB hA
    refine Free.opRun_call (f := 47) (args := #[.int .i64 (xp.size : Int)]) (by clear hB hA; go_simp <;> rfl) ?_
    refine (C4.out w').mono ?_
    rintro e w3 ⟨rfl, hb3⟩
    exact ⟨_, rfl, hb3, rfl⟩
  simp only [Act.put, List.setIfInBounds_toArray, List.set_cons_succ, List.set_cons_zero]
  iterate 8 (apply Free.chain_still (by first | exact Free.wanted_of rfl rfl rfl | rfl) rfl; (intro w' hB hA; obtain ⟨q0, q1, q2, q3, q4⟩ := hB; clear hA ; go_light; go_simp <;> rfl); (try simp only [Act.put, List.setIfInBounds_toArray, List.set_cons_succ, List.set_cons_zero]))
  apply Free.chain_nil
  intro wz _ hg _
  simp only [List.drop_succ_cons, List.drop_zero]
  have hz := grow_drew2 hg
  have FIN := Lib.hid (HB.out.trans (hz.mono (by simp)))
  clear hg hz HB C1 C2 C3 C4
  go_wp2
  go_ret
  exact ⟨by rw [HC.out]; rfl, FIN.out⟩
end Go.Proofs.YtaaenobckipfkaaDoor
