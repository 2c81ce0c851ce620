/- Package chain: whether an entry is signed (a closure of Fork); the reference's Few. Condition: the variables of digest and of strconv hold their numbers. -/
import Derived.Test.YtaaenobckipfkaaDoorCh5
namespace Go.Proofs.YtaaenobckipfkaaDoor
open Go.RowKit Go.Blk Go.Opn

def sgnB (e : E31) (pub : Int) : Bool := verB pub (txE e) e.r e.s
set_option maxRecDepth 100000 in
set_option maxHeartbeats 2000000 in
theorem sgn_any (e0 : E31) (bp : Nat) (pub : Int) (w : World) (ho : e0.Ok) (hp : e0.prev.size ≤ 1000000000) (hb : e0.body.size ≤ 1000000000) (hT : HasT w) (hq : w.cell? ⟨bp, 0, none⟩ = some (.int .i64 pub)) :
    Calls Tryd.prog 45 #[.agg (encE e0).toArray, .pointer (some ⟨bp, 0, none⟩)] w fun e w' => e = .returned (.bool (sgnB e0 pub)) ∧ Below w.heap.size w w' := by
  have B0 := (Blk.new w (encE e0) 37)
  have c0 := B0.cellD 0 _ rfl
  have c1 := B0.cellD 1 _ rfl
  have c2 := B0.cellD 2 _ rfl
  have c3 := B0.cellD 3 _ rfl
  have c4 := B0.cellD 4 _ rfl
  have c5 := B0.cellD 5 _ rfl
  have c6 := B0.cellD 6 _ rfl
  have hT1 := hT.alloc (.cells (encE e0).toArray 37)
  have hlt := World.block_lt_of_cell? w _ hq
  have cq : (w.alloc (.cells (encE e0).toArray 37)).cell? ⟨bp, 0, none⟩ = some (.int .i64 pub) := by rw [World.cell?_alloc_lt _ _ _ hlt]; exact hq
  have C1 := Lib.hid (fun w hT => text31_any e0 w ho hp hb hT)
  have htx := txE_size ho
  obtain ⟨tt, ett⟩ : ∃ tt, tt = txE e0 := ⟨_, rfl⟩
  have C2 := Lib.hid (fun w (hT : HasT w) => ver_any pub tt e0.r e0.s w (by rw [ett]; omega) hT)
  have hs : sgnB e0 pub = verB pub tt e0.r e0.s := by unfold sgnB; rw [ett]
  rw [hs]
  obtain ⟨vb, evb⟩ : ∃ vb, vb = verB pub tt e0.r e0.s := ⟨_, rfl⟩
  rw [← evb] at C2 ⊢
  rw [← ett] at C1
  obtain ⟨xh, xq, xd, xp, xb, xr, xs⟩ := e0
  have hbw := (Below.refl w.heap.size w).alloc (Nat.le_refl _) (.cells (encE ⟨xh, xq, xd, xp, xb, xr, xs⟩).toArray 37)
  have HB := Lib.hid hbw
  clear hT ho hp hb hs evb ett B0 hbw htx hq hlt
  go_enter Tryd.func45, Tryd.ntmps45
  go_wp2_with fail
  refine Free.wp_region_free 6 [(2, .det (.string tt)), (5, .det (.bool vb))] (fun w2 => HasT w2 ∧ w2.cell? ⟨bp, 0, none⟩ = some (.int .i64 pub) ∧ w2.cell? ⟨w.heap.size, 0, none⟩ = some (.int .i64 xh) ∧ w2.cell? ⟨w.heap.size, 1, none⟩ = some (.int .i64 xq) ∧ w2.cell? ⟨w.heap.size, 2, none⟩ = some (.int .i64 xd) ∧ w2.cell? ⟨w.heap.size, 3, none⟩ = some (.string xp) ∧ w2.cell? ⟨w.heap.size, 4, none⟩ = some (.string xb) ∧ w2.cell? ⟨w.heap.size, 5, none⟩ = some (.int .i64 xr) ∧ w2.cell? ⟨w.heap.size, 6, none⟩ = some (.int .i64 xs)) (by kernel_rfl) (by kernel_rfl) ?_ ⟨hT1.below (B := w.heap.size + 1) ⟨rfl, rfl, rfl, Nat.le_refl _, fun _ _ => rfl⟩ (by simp), cq, c0, c1, c2, c3, c4, c5, c6⟩ (fun _ _ h g => ⟨h.1.below g (Nat.le_refl _), grow_cell h.2.1 g, grow_cell h.2.2.1 g, grow_cell h.2.2.2.1 g, grow_cell h.2.2.2.2.1 g, grow_cell h.2.2.2.2.2.1 g, grow_cell h.2.2.2.2.2.2.1 g, grow_cell h.2.2.2.2.2.2.2.1 g, grow_cell h.2.2.2.2.2.2.2.2 g⟩) ?_
  · intro j mk r hf
    simp only [Free.find] at hf
    repeat' split at hf
    all_goals (first | cases hf | skip)
  simp only [List.take_succ_cons, List.take_zero]
  clear c0 c1 c2 c3 c4 c5 c6 hT1 cq
  iterate 2 (apply Free.chain_still (by first | exact Free.wanted_of rfl rfl rfl | rfl) rfl; (intro w' hB hA; obtain ⟨qT, qp, q0, q1, q2, q3, q4, q5, q6⟩ := hB; clear hA  qT; go_light; go_simp <;> rfl); (try simp only [Act.put, List.setIfInBounds_toArray, List.set_cons_succ, List.set_cons_zero]))
  apply Free.chain_det rfl rfl
  · intro w' hB hA
    refine Free.opRun_call (f := 19) (args := #[.agg (encE ⟨xh, xq, xd, xp, xb, xr, xs⟩).toArray]) (by clear hB hA; go_simp <;> rfl) ?_
    refine (C1.out _ hB.1).mono ?_
    rintro e w3 ⟨rfl, hb3⟩
    exact ⟨_, rfl, hb3, rfl⟩
  simp only [Act.put, List.setIfInBounds_toArray, List.set_cons_succ, List.set_cons_zero]
  iterate 2 (apply Free.chain_still (by first | exact Free.wanted_of rfl rfl rfl | rfl) rfl; (intro w' hB hA; obtain ⟨qT, qp, q0, q1, q2, q3, q4, q5, q6⟩ := hB; clear hA  qT; go_light; go_simp <;> rfl); (try simp only [Act.put, List.setIfInBounds_toArray, List.set_cons_succ, List.set_cons_zero]))
  apply Free.chain_det rfl rfl
  · intro w' hB hA
    refine Free.opRun_call (f := 18) (args := #[.int .i64 pub, .string tt, .agg #[.int .i64 xr, .int .i64 xs]]) (by clear hB hA; go_simp <;> rfl) ?_
    refine (C2.out _ hB.1).mono ?_
    rintro e w3 ⟨rfl, hb3⟩
    exact ⟨_, rfl, hb3, rfl⟩
  simp only [Act.put, List.setIfInBounds_toArray, List.set_cons_succ, List.set_cons_zero]
  apply Free.chain_nil
  intro wz _ hg _
  simp only [List.drop_succ_cons, List.drop_zero]
  have hz := grow_drew2 hg
  have FIN := Lib.hid (HB.out.trans (hz.mono (by simp)))
  clear hg hz HB C1 C2
  go_wp2
  go_ret
  exact ⟨rfl, FIN.out⟩
/-- Whether a list is small enough. -/
def smallE (e : E31) : Bool := decide (e.prev.size ≤ 100) && decide (e.body.size ≤ 2100)
def fewB (l : List E31) (n : Nat) : Bool := decide (l.length ≤ n) && l.all smallE
def RF (l : List E31) (i : Value) : Prop := ∃ k : Nat, k ≤ l.length ∧ i = .int .i64 k ∧ (l.take k).all smallE = true
theorem take_all31 (l : List E31) (k : Nat) (x : E31) (hx : l[k]? = some x) (h : (l.take k).all smallE = true) (hp : smallE x = true) : (l.take (k + 1)).all smallE = true := by
  obtain ⟨hk, rfl⟩ := List.getElem?_eq_some_iff.1 hx
  rw [List.take_succ_eq_append_getElem hk, List.all_append, h]; simp [hp]
theorem all_no31 (l : List E31) (k : Nat) (x : E31) (hx : l[k]? = some x) (hp : smallE x = false) : l.all smallE = false := by
  cases h : l.all smallE
  · rfl
  · have := List.all_eq_true.1 h x (List.mem_of_getElem? hx); rw [this] at hp; cases hp
set_option maxRecDepth 100000 in
theorem few_any (A : Option Addr) (c n : Nat) (l : List E31) (w : World) (h : SL w 7 encE A l) (hl : l.length ≤ 9223372036854775807) :
    Calls Tryd.prog 24 #[.slice A l.length c, .int .i64 n] w fun e w' => e = .returned (.bool (fewB l n)) ∧ w = w' := by
  by_cases hln : l.length ≤ n
  · have HS := Lib.hid h
    have HST : Hid (RF l (.int .i64 0)) := ⟨0, Nat.zero_le _, rfl, by simp⟩
    have hi : (l.length : Int) ≤ (n : Int) := by omega
    have hi2 : ¬ (n : Int) < (l.length : Int) := by omega
    have HW : Hid (fewB l n = l.all smallE) := by show fewB l n = _; unfold fewB; rw [decide_eq_true hln, Bool.true_and]
    clear h
    go_enter Tryd.func24, Tryd.ntmps24
    go_wp2_with fail
    go_loop [5] (fun i => RF l i) (fun i => l.length - (intOf i).toNat)
    case atStart => exact HST.out
    case round =>
      clear HST
      obtain ⟨k, hk, rfl, hall⟩ := hrel
      by_cases hlt : k < l.length
      · obtain ⟨x, hx⟩ : ∃ x, l[k]? = some x := ⟨_, List.getElem?_eq_getElem hlt⟩
        obtain ⟨b, off, rfl, hc⟩ := HS.out.at_ hx
        have c3 := hc 3 _ rfl
        have c4 := hc 4 _ rfl
        have hki : (k : Int) < (l.length : Int) := by omega
        have HA := Lib.hid hall
        have HX := Lib.hid hx
        simp only [← Nat.add_assoc] at c3 c4
        clear hall hx hc
        by_cases h1 : x.prev.size ≤ 100
        · by_cases h2 : x.body.size ≤ 2100
          · go_wp2_with fail
            go_round
            case rel => exact ⟨k + 1, by omega, by go_num, take_all31 l k x HX.out HA.out (by simp [smallE, h1, h2])⟩
            case measure => simp [intOf]; omega
          · have hf : fewB l n = false := by rw [HW.out]; exact all_no31 l k x HX.out (by simp [smallE]; omega)
            have HF := Lib.hid hf
            clear hf
            go_wp2_with fail
            go_ret
            exact ⟨by rw [HF.out]; rfl, rfl⟩
        · have hf : fewB l n = false := by rw [HW.out]; exact all_no31 l k x HX.out (by simp [smallE]; omega)
          have HF := Lib.hid hf
          clear hf
          go_wp2_with fail
          go_ret
          exact ⟨by rw [HF.out]; rfl, rfl⟩
      · obtain rfl : k = l.length := by omega
        rw [List.take_length] at hall
        have hf : fewB l n = true := by rw [HW.out]; exact hall
        have HF := Lib.hid hf
        clear hf hall
        go_wp2_with fail
        go_ret
        exact ⟨by rw [HF.out]; rfl, rfl⟩
  · have hi : (n : Int) < (l.length : Int) := by omega
    have hf : fewB l n = false := by unfold fewB; rw [decide_eq_false hln]; rfl
    have HF := Lib.hid hf
    clear hf h
    go_enter Tryd.func24, Tryd.ntmps24
    go_wp2_with fail
    go_ret
    exact ⟨by rw [HF.out]; rfl, rfl⟩
end Go.Proofs.YtaaenobckipfkaaDoor
