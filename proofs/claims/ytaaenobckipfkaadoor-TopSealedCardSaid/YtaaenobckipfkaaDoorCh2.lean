/- Package chain: the digest of an entry; what an entry behind a list has as its Prev. Condition: the variables of digest and of strconv hold their numbers. -/
import Derived.Test.YtaaenobckipfkaaDoorCh1
namespace Go.Proofs.YtaaenobckipfkaaDoor
open Go.RowKit Go.Blk Go.Opn

def txS (e : E31) : ByteArray := txE e ++ ⟨#[32]⟩ ++ dec e.r ++ ⟨#[32]⟩ ++ dec e.s
/-- The digest of an entry. -/
def dig (e : E31) : ByteArray := sumB KC (txS e)
theorem txE_size {e : E31} (h : e.Ok) : (txE e).size ≤ 94 + e.prev.size + e.body.size := by
  have := txP_len h 4
  have h1 : e.prev.data.toList.length = e.prev.size := by simp
  have h2 : e.body.data.toList.length = e.body.size := by simp
  show (txL e).toArray.size ≤ _
  rw [List.size_toArray]
  unfold txL
  simp only [List.length_append, List.length_cons, List.length_nil, h1, h2]; omega
theorem txS_size {e : E31} (h : e.Ok) : (txS e).size ≤ 138 + e.prev.size + e.body.size := by
  have h1 := txE_size h
  have h2 := dec_size e.r h.r0 h.r1
  have h3 := dec_size e.s h.s0 h.s1
  have h4 : (⟨#[32]⟩ : ByteArray).size = 1 := rfl
  unfold txS
  simp only [ByteArray.size_append, h4]; omega
theorem grow_cell {w w' : World} {p : Addr} {v : Value} (h : w.cell? p = some v) (g : Free.Grow w w') : w'.cell? p = some v := by
  rw [Below.cell g (World.block_lt_of_cell? w _ h)]; exact h
theorem grow_drew2 {w w2 : World} (h : Free.Grow w.drew w2) : Below w.heap.size w w2 := ⟨h.os, h.tape, h.output, h.size, h.block⟩
set_option maxRecDepth 100000 in
set_option maxHeartbeats 2000000 in
theorem dig_any (e0 : E31) (w : World) (ho : e0.Ok) (hp : e0.prev.size ≤ 1000000000) (hb : e0.body.size ≤ 1000000000) (hT : HasT w) :
    Calls Tryd.prog 62 #[.agg (encE e0).toArray] w fun e w' => e = .returned (.string (dig e0)) ∧ Below w.heap.size w w' := by
  have B0 := (Blk.new w (encE e0) 37)
  have c0 := B0.cellD 0 _ rfl
  have c1 := B0.cellD 1 _ rfl
  have c2 := B0.cellD 2 _ rfl
  have c3 := B0.cellD 3 _ rfl
  have c4 := B0.cellD 4 _ rfl
  have c5 := B0.cellD 5 _ rfl
  have c6 := B0.cellD 6 _ rfl
  have hT1 := hT.alloc (.cells (encE e0).toArray 37)
  have C1 := Lib.hid (fun w hT => text31_any e0 w ho hp hb hT)
  have C2 := Lib.hid (fun w hT => itoa_any e0.r w ho.r0 ho.r1 hT)
  have C3 := Lib.hid (fun w hT => itoa_any e0.s w ho.s0 ho.s1 hT)
  have hs := txS_size ho
  have C4 := Lib.hid (fun w (hT : HasT w) => sum_any KC (txS e0) w (by omega) hT.k)
  have ED : Hid (dig e0 = sumB KC (txS e0)) := rfl
  obtain ⟨dg, edg⟩ : ∃ dg, dg = dig e0 := ⟨_, rfl⟩
  rw [← edg]
  rw [← ED.out, ← edg] at C4
  unfold txS at C4
  obtain ⟨tt, ett⟩ : ∃ tt, tt = txE e0 := ⟨_, rfl⟩
  rw [← ett] at C1 C4
  obtain ⟨xh, xq, xd, xp, xb, xr, xs⟩ := e0
  have hbw := (Below.refl w.heap.size w).alloc (Nat.le_refl _) (.cells (encE ⟨xh, xq, xd, xp, xb, xr, xs⟩).toArray 37)
  have HB := Lib.hid hbw
  have htt : tt.size ≤ 3000000000 := by have := txE_size ho; rw [ett]; simp only at this hp hb; omega
  have hdr := dec_size xr ho.r0 ho.r1
  have hds := dec_size xs ho.s0 ho.s1
  have z1 : ¬ 9223372036854775807 < tt.size + 1 := by omega
  have z2 : ¬ 9223372036854775807 < tt.size + 1 + (dec xr).size := by omega
  have z3 : ¬ 9223372036854775807 < tt.size + 1 + (dec xr).size + 1 := by omega
  have z4 : ¬ 9223372036854775807 < tt.size + 1 + (dec xr).size + 1 + (dec xs).size := by omega
  clear hT ho hp hb hs ED edg ett B0 hbw
  go_enter Tryd.func62, Tryd.ntmps62
  go_wp2_with fail
  refine Free.wp_region_free 15 [(1, .det (.string tt)), (6, .det (.string (dec xr))), (12, .det (.string (dec xs))), (14, .det (.string dg))] (fun w2 => HasT w2 ∧ w2.cell? ⟨w.heap.size, 0, none⟩ = some (.int .i64 xh) ∧ w2.cell? ⟨w.heap.size, 1, none⟩ = some (.int .i64 xq) ∧ w2.cell? ⟨w.heap.size, 2, none⟩ = some (.int .i64 xd) ∧ w2.cell? ⟨w.heap.size, 3, none⟩ = some (.string xp) ∧ w2.cell? ⟨w.heap.size, 4, none⟩ = some (.string xb) ∧ w2.cell? ⟨w.heap.size, 5, none⟩ = some (.int .i64 xr) ∧ w2.cell? ⟨w.heap.size, 6, none⟩ = some (.int .i64 xs)) (by kernel_rfl) (by kernel_rfl) ?_ ⟨hT1.below (B := w.heap.size + 1) ⟨rfl, rfl, rfl, Nat.le_refl _, fun _ _ => rfl⟩ (by simp), c0, c1, c2, c3, c4, c5, c6⟩ (fun _ _ h g => ⟨h.1.below g (Nat.le_refl _), grow_cell h.2.1 g, grow_cell h.2.2.1 g, grow_cell h.2.2.2.1 g, grow_cell h.2.2.2.2.1 g, grow_cell h.2.2.2.2.2.1 g, grow_cell h.2.2.2.2.2.2.1 g, grow_cell h.2.2.2.2.2.2.2 g⟩) ?_
  · intro j mk r hf
    simp only [Free.find] at hf
    repeat' split at hf
    all_goals (first | cases hf | skip)
  simp only [List.take_succ_cons, List.take_zero]
  clear c0 c1 c2 c3 c4 c5 c6 hT1
  iterate 1 (apply Free.chain_still (by first | exact Free.wanted_of rfl rfl rfl | rfl) rfl; (intro w' hB hA; obtain ⟨qT, q0, q1, q2, q3, q4, q5, q6⟩ := hB; clear hA  qT; go_light; go_simp <;> rfl); (try simp only [Act.put, List.setIfInBounds_toArray, List.set_cons_succ, List.set_cons_zero]))
  apply Free.chain_det rfl rfl
  · intro w' hB hA
    refine Free.opRun_call (f := 19) (args := #[.agg (encE ⟨xh, xq, xd, xp, xb, xr, xs⟩).toArray]) (by clear hB hA; go_simp <;> rfl) ?_
    refine (C1.out _ hB.1).mono ?_
    rintro e w3 ⟨rfl, hb3⟩
    exact ⟨_, rfl, hb3, rfl⟩
  simp only [Act.put, List.setIfInBounds_toArray, List.set_cons_succ, List.set_cons_zero]
  iterate 4 (apply Free.chain_still (by first | exact Free.wanted_of rfl rfl rfl | rfl) rfl; (intro w' hB hA; obtain ⟨qT, q0, q1, q2, q3, q4, q5, q6⟩ := hB; clear hA  qT; go_light; go_simp <;> rfl); (try simp only [Act.put, List.setIfInBounds_toArray, List.set_cons_succ, List.set_cons_zero]))
  apply Free.chain_det rfl rfl
  · intro w' hB hA
    refine Free.opRun_call (f := 36) (args := #[.int .i64 xr]) (by clear hB hA; go_simp <;> rfl) ?_
    refine (C2.out _ hB.1).mono ?_
    rintro e w3 ⟨rfl, hb3⟩
    exact ⟨_, rfl, hb3, rfl⟩
  simp only [Act.put, List.setIfInBounds_toArray, List.set_cons_succ, List.set_cons_zero]
  iterate 5 (apply Free.chain_still (by first | exact Free.wanted_of rfl rfl rfl | rfl) rfl; (intro w' hB hA; obtain ⟨qT, q0, q1, q2, q3, q4, q5, q6⟩ := hB; clear hA  qT; go_light; go_simp <;> rfl); (try simp only [Act.put, List.setIfInBounds_toArray, List.set_cons_succ, List.set_cons_zero]))
  apply Free.chain_det rfl rfl
  · intro w' hB hA
    refine Free.opRun_call (f := 36) (args := #[.int .i64 xs]) (by clear hB hA; go_simp <;> rfl) ?_
    refine (C3.out _ hB.1).mono ?_
    rintro e w3 ⟨rfl, hb3⟩
    exact ⟨_, rfl, hb3, rfl⟩
  simp only [Act.put, List.setIfInBounds_toArray, List.set_cons_succ, List.set_cons_zero]
  iterate 1 (apply Free.chain_still (by first | exact Free.wanted_of rfl rfl rfl | rfl) rfl; (intro w' hB hA; obtain ⟨qT, q0, q1, q2, q3, q4, q5, q6⟩ := hB; clear hA  qT; go_light; go_simp <;> rfl); (try simp only [Act.put, List.setIfInBounds_toArray, List.set_cons_succ, List.set_cons_zero]))
  apply Free.chain_det rfl rfl
  · intro w' hB hA
    refine Free.opRun_call (f := 64) (args := #[.string (tt ++ ⟨#[32]⟩ ++ dec xr ++ ⟨#[32]⟩ ++ dec xs)]) (by clear hB hA; go_simp <;> rfl) ?_
    refine (C4.out _ hB.1).mono ?_
    rintro e w3 ⟨rfl, hb3⟩
    exact ⟨_, rfl, hb3, rfl⟩
  simp only [Act.put, List.setIfInBounds_toArray, List.set_cons_succ, List.set_cons_zero]
  apply Free.chain_nil
  intro wz _ hg _
  simp only [List.drop_succ_cons, List.drop_zero]
  have hz := grow_drew2 hg
  have FIN := Lib.hid (HB.out.trans (hz.mono (by simp)))
  clear hg hz HB C1 C2 C3 C4
  go_wp2
  go_ret
  exact ⟨rfl, FIN.out⟩
/-- What the entry behind a list has as its Prev. -/
def prevE (l : List E31) : ByteArray := match l.getLast? with | none => ⟨#[]⟩ | some e => dig e
def Few (l : List E31) : Prop := ∀ e ∈ l, e.Ok ∧ e.prev.size ≤ 1000000000 ∧ e.body.size ≤ 1000000000
set_option maxRecDepth 100000 in
theorem prev_any (A : Option Addr) (c : Nat) (l : List E31) (w : World) (h : SL w 7 encE A l) (hl : l.length ≤ 9223372036854775807) (hf : Few l) (hT : HasT w) :
    Calls Tryd.prog 38 #[.slice A l.length c] w fun e w' => e = .returned (.string (prevE l)) ∧ Below w.heap.size w w' := by
  by_cases h0 : l = []
  · subst h0
    go_enter Tryd.func38, Tryd.ntmps38
    go_wp2
    go_ret
    exact ⟨rfl, Below.refl _ _⟩
  · have hpos : 0 < l.length := List.length_pos_iff.2 h0
    obtain ⟨x, hx⟩ : ∃ x, l[l.length - 1]? = some x := ⟨_, List.getElem?_eq_getElem (by omega)⟩
    have hg : l.getLast? = some x := by rw [List.getLast?_eq_getElem?]; exact hx
    have ep : prevE l = dig x := by unfold prevE; rw [hg]
    rw [ep]
    obtain ⟨f1, f2, f3⟩ := hf x (List.mem_of_getElem? hx)
    have C1 := Lib.hid (fun w hT => dig_any x w f1 f2 f3 hT)
    obtain ⟨b, off, rfl, hc⟩ := h.at_ hx
    obtain ⟨dg, edg⟩ : ∃ dg, dg = dig x := ⟨_, rfl⟩
    rw [← edg] at C1 ⊢
    obtain ⟨xh, xq, xd, xp, xb, xr, xs⟩ := x
    have c0 := hc 0 _ rfl
    have c1 := hc 1 _ rfl
    have c2 := hc 2 _ rfl
    have c3 := hc 3 _ rfl
    have c4 := hc 4 _ rfl
    have c5 := hc 5 _ rfl
    have c6 := hc 6 _ rfl
    obtain ⟨m, hm⟩ : ∃ m, l.length = m + 1 := ⟨l.length - 1, by omega⟩
    have hm1 : l.length - 1 = m := by omega
    rw [hm1] at c0 c1 c2 c3 c4 c5 c6
    rw [hm] at hl ⊢
    simp only [← Nat.add_assoc, Nat.add_zero] at c0 c1 c2 c3 c4 c5 c6
    have HT := Lib.hid hT
    clear h hc hg ep f1 f2 f3 edg hf hx hpos h0 hm hm1 hT
    go_enter Tryd.func38, Tryd.ntmps38
    go_wp2_with fail
    refine (C1.out _ HT.out).mono ?_
    rintro e w1 ⟨rfl, hb1⟩
    have HB := Lib.hid hb1
    clear hb1
    go_wp2_with fail
    go_ret
    exact ⟨rfl, HB.out⟩
end Go.Proofs.YtaaenobckipfkaaDoor
