/- The disk's settle: the first pending writes become stable, the next one in part. -/
import Derived.Test.YthfjaaigncjhlaaGreatDoorDk3
namespace Go.Proofs.YthfjaaigncjhlaaGreatDoor
open Go.RowKit Go.Blk Go.Dk Go.Mp

section
variable {w : World} {b bs bm n : Nat} {pv : Value} {d : DD}
theorem encW_one {x : Nat × List UInt8} : ∀ v ∈ encW x, v.oneCell' = true := by
  intro v hv
  simp only [encW, List.mem_cons, List.mem_map] at hv
  rcases hv with rfl | ⟨y, _, rfl⟩ <;> rfl
theorem pv_form (h : DiskAt w b bs bm pv d n) : ∃ A c, pv = .slice A d.pend.length c := by
  rcases h.row.2 with ⟨rfl, h0⟩ | ⟨g, cap, cur, rfl, _⟩
  · exact ⟨none, 0, by rw [h0]⟩
  · exact ⟨_, _, rfl⟩
def RS (w : World) (b bs bm n ws tb : Nat) (pv : Value) (d : DD) (i : Value) (wr : World) : Prop :=
  ∃ k : Nat, k ≤ d.pend.length ∧ i = .int .i64 k ∧ DiskAt wr b bs bm pv (dAt d ws tb k) n ∧ Keep (Fp b bs bm pv) w wr
def SetPost (w : World) (b bs bm n : Nat) (pv : Value) (d : DD) (e : Ending) (w' : World) : Prop :=
  e = .returned (.tuple #[]) ∧ ∃ bm', DiskAt w' b bs bm' (.slice none 0 0) d n ∧ Keep (Fp b bs bm pv) w w' ∧ w.heap.size ≤ bm'
theorem grow_drew' {w w2 : World} (h : Free.Grow w.drew w2) : Below w.heap.size w w2 := ⟨h.os, h.tape, h.output, h.size, h.block⟩
theorem cell_grow' {w w' : World} {p : Addr} {v : Value} (h : w.cell? p = some v) (g : Free.Grow w w') : w'.cell? p = some v := by
  rw [Below.cell g (World.block_lt_of_cell? w _ h)]; exact h
theorem copied {st t : List UInt8} {o : Nat} : (((st.map C8).toArray.toList).take o ++ (t.map C8 ++ ((st.map C8).toArray.toList).drop (o + (t.map C8).length))).toArray = ((splice8 st o t).map C8).toArray := by
  simp [splice8]
theorem src_cells {x : Nat × List UInt8} {g : Nat} {T : TypeId} (hB : Blk w g (encW x) T) (m : Nat) : ∀ j v, ((x.2.take m).map C8)[j]? = some v → w.cell? ((⟨g, 1, none⟩ : Addr).add j) = some v := by
  intro j v hv
  rw [addr_add]
  refine hB.cellD (1 + j) v ?_
  rw [Nat.add_comm]
  simp only [encW, List.getElem?_cons_succ]
  rw [List.getElem?_map, List.getElem?_take] at hv
  rw [List.getElem?_map]
  split at hv
  · exact hv
  · simp at hv
theorem sAt_more {ws tb k : Nat} {x : Nat × List UInt8} (hx : d.pend[k]? = some x) : sAt d.st d.pend ws tb (k + 1) = if k < ws then splice8 (sAt d.st d.pend ws tb k) (32 * x.1) x.2 else if k = ws then splice8 (sAt d.st d.pend ws tb k) (32 * x.1) (x.2.take tb) else sAt d.st d.pend ws tb k := by
  conv => lhs; unfold sAt
  rw [hx]
set_option maxRecDepth 100000 in
set_option maxHeartbeats 2000000 in
theorem settle_any (h : DiskAt w b bs bm pv d n) (ws tb : Nat) (hw : ws ≤ 9223372036854775807) (htb : tb ≤ 32) :
    Calls Tryz.prog 53 #[.pointer (some ⟨b, 0, none⟩), .int .i64 ws, .int .i64 tb] w (SetPost w b bs bm n pv { d with st := settled d.st d.pend ws tb, pend := [] }) := by
  obtain ⟨A, c, rfl⟩ := pv_form h
  have hfew := h.ok.few
  have c2 := h.blk.cellD 2 _ rfl
  have hst : RS w b bs bm n ws tb (.slice A d.pend.length c) d (.int .i64 0) w := ⟨0, Nat.zero_le _, rfl, h, Keep.refl _ _⟩
  have HST := Lib.hid hst
  clear hst
  go_enter Tryz.func53, Tryz.ntmps53
  go_wp2_with fail
  go_loopw [13] (fun i wr => RS w b bs bm n ws tb (.slice A d.pend.length c) d i wr) (fun i _ => d.pend.length - (intOf i).toNat)
  case atStart => exact HST.out
  case round =>
    clear HST c2
    obtain ⟨k, hk, rfl, hD, hKp⟩ := hrel
    by_cases hlt : k < d.pend.length
    · by_cases hkw : k < ws
      · have hkw1 : (k : Int) < (ws : Int) := by omega
        have hkw2 : ((k : Int) == (ws : Int)) = false := by simp; omega
        have hkw3 : ¬ (k : Int) = (ws : Int) := by omega
        obtain ⟨x, hx⟩ : ∃ x, d.pend[k]? = some x := ⟨_, List.getElem?_eq_getElem hlt⟩
        obtain ⟨g, cap, hpv, hrg⟩ := hD.pendAt (d := dAt d ws tb k) hx
        obtain ⟨hA, hc⟩ : A = some ⟨g, 0, none⟩ ∧ c = cap := by injection hpv with h1 h2 h3; exact ⟨h1, h3⟩
        subst hA hc
        have hsec := (h.ok.sec k x hx).1
        have hl32 := (h.ok.sec k x hx).2
        have HL := Lib.hid (encW_len hl32)
        have HI : Hid ((Tryz.prog.info? 95).map (·.size) = some (encW x).length) := by show _ = _; rw [HL.out]; kernel_rfl
        have HRG : Hid (wr.rangeAt g (k * 33) (encW x)) := by show World.rangeAt _ _ _ _; rw [Nat.mul_comm]; exact hrg
        have H1C : Hid ((encW x).toArray.all (·.oneCell') = true) := all_oneCell_toArray (fun v hv => encW_one v hv)
        have hDa := hD.alloc (.cells (encW x).toArray 95)
        have HDA := Lib.hid hDa
        have HKP := Lib.hid (hKp.alloc (.cells (encW x).toArray 95))
        have HBL := Lib.hid (Blk.new wr (encW x) 95)
        have HX := Lib.hid hx
        have hok := h.ok
        have hkl : (k : Int) < (d.pend.length : Int) := by omega
        clear hD hKp hDa hrg hpv hx h
        go_wp2_with (first | (with_reducible refine wpList_load_mid rfl 95 (.tmp 16) rfl g (k * 33) rfl (encW x) _ HRG.out Tryz.underlying95 rfl HI.out ?_) | (with_reducible refine wpList_store_row rfl 95 (.tmp 7) (.tmp 17) rfl wr.heap.size (encW x).toArray rfl rfl 95 _ (heap_alloc_last wr _) (by rw [HI.out]; simp) (by simp [HL.out]) H1C.out ?_; rw [World.setRow_alloc_new]))
        refine Free.wp_region_free 7 [(4, .det (.slice (some ⟨bs, 32 * x.1, none⟩) 32 (32 * n - 32 * x.1)))] (fun w2 => w2.cell? ⟨wr.heap.size, 0, none⟩ = some (.int .i64 x.1) ∧ DiskAt w2 b bs bm (.slice (some ⟨g, 0, none⟩) d.pend.length c) (dAt d ws tb k) n ∧ Blk w2 wr.heap.size (encW x) 95) (by kernel_rfl) (by kernel_rfl) ?_ ⟨HBL.out.drew.cellD 0 _ rfl, HDA.out.drew, HBL.out.drew⟩ (fun _ _ h g => ⟨cell_grow' h.1 g, h.2.1.below g, h.2.2.below g h.2.2.lt⟩) ?_
        · intro j mk r hf
          simp only [Free.find] at hf
          repeat' split at hf
          all_goals (first | cases hf | skip)
        simp only [List.take_succ_cons, List.take_zero]
        iterate 4 (apply Free.chain_still (by first | exact Free.wanted_of rfl rfl rfl | rfl) rfl; (intro w' hB hA; obtain ⟨q0, q1, q2⟩ := hB; clear hA  q1 q2; go_light; go_simp <;> rfl); (try simp only [Act.put, List.setIfInBounds_toArray, List.set_cons_succ, List.set_cons_zero]))
        apply Free.chain_det rfl rfl
        · intro w' ⟨q0, q1, q2⟩ hA
          refine Free.opRun_call (f := 58) (args := #[.pointer (some ⟨b, 0, none⟩), .int .i64 x.1]) (by clear q0 q1 q2 hA; go_simp) ?_
          refine (sector_any q1 x.1 hsec).mono ?_
          rintro e w3 ⟨rfl, rfl⟩
          exact ⟨_, rfl, Free.Grow.refl _, rfl⟩
        simp only [Act.put, List.setIfInBounds_toArray, List.set_cons_succ, List.set_cons_zero]
        iterate 2 (apply Free.chain_still (by first | exact Free.wanted_of rfl rfl rfl | rfl) rfl; (intro w' hB hA; obtain ⟨q0, q1, q2⟩ := hB; clear hA  q1 q2; go_light; go_simp <;> rfl); (try simp only [Act.put, List.setIfInBounds_toArray, List.set_cons_succ, List.set_cons_zero]))
        apply Free.chain_nil
        intro wz ⟨q0, q1, q2⟩ hg _
        simp only [List.drop_succ_cons, List.drop_zero]
        refine wpList_copy_own rfl (.tmp 25) (.tmp 27) 50 50 rfl 5 Tryz.underlying50 (by kernel_rfl) bs (32 * x.1) 32 (32 * n - 32 * x.1) ⟨wr.heap.size, 1, none⟩ 32 32 rfl rfl ((dAt d ws tb k).st.map C8).toArray 5 q1.st (x.2.map C8) (by simp [hl32]) (by have := src_cells q2 32; rwa [List.take_of_length_le (by omega)] at this) (by have := q1.ok.len; have := q1.ok.n2; simp [hl32]; omega) (fun v hv => by obtain ⟨y, _, rfl⟩ := List.mem_map.1 hv; rfl) ?_
        rw [copied]
        have hnew : sAt d.st d.pend ws tb (k + 1) = splice8 (dAt d ws tb k).st (32 * x.1) x.2 := by rw [sAt_more HX.out, if_pos hkw]; rfl
        have q3 := q1.stable (d' := dAt d ws tb (k + 1)) (splice8 (dAt d ws tb k).st (32 * x.1) x.2) (by unfold dAt; rw [hnew]; rfl) (dAt_ok hok ws tb (k + 1))
        have hKz : Keep (Fp b bs bm (.slice (some ⟨g, 0, none⟩) d.pend.length c)) w (wz.setRow bs ((splice8 (dAt d ws tb k).st (32 * x.1) x.2).map C8).toArray) := (HKP.out.trans (Keep.of_below (grow_drew' hg)) (fun _ _ f => f)).setRow (fun _ => .inr (.inl rfl)) _
        have key : RS w b bs bm n ws tb (.slice (some ⟨g, 0, none⟩) d.pend.length c) d (.int .i64 ((k : Int) + 1)) (wz.setRow bs ((splice8 (dAt d ws tb k).st (32 * x.1) x.2).map C8).toArray) := ⟨k + 1, by omega, by go_num, q3, hKz⟩
        have KEY := Lib.hid key
        generalize wz.setRow bs ((splice8 (dAt d ws tb k).st (32 * x.1) x.2).map C8).toArray = w4 at KEY ⊢
        clear key q3 hKz hnew q1 q2 q0 hg HKP HDA HBL HRG HI HL H1C HX
        go_wp2_with fail
        go_roundw
        case rel =>
          go_light
          have key := KEY.out
          first | exact key | ((repeat apply Exists.intro); exact ⟨key, rfl⟩)
        case measure => simp [intOf]; omega
      · by_cases hke : k = ws
        · subst hke
          have hkw1 : ¬ (k : Int) < (k : Int) := by omega
          have hkw2 : ((k : Int) == (k : Int)) = true := by simp
          have htb1 : (tb : Int) ≤ 32 := by omega
          obtain ⟨x, hx⟩ : ∃ x, d.pend[k]? = some x := ⟨_, List.getElem?_eq_getElem hlt⟩
          obtain ⟨g, cap, hpv, hrg⟩ := hD.pendAt (d := dAt d k tb k) hx
          obtain ⟨hA, hc⟩ : A = some ⟨g, 0, none⟩ ∧ c = cap := by injection hpv with h1 h2 h3; exact ⟨h1, h3⟩
          subst hA hc
          have hsec := (h.ok.sec k x hx).1
          have hl32 := (h.ok.sec k x hx).2
          have HL := Lib.hid (encW_len hl32)
          have HI : Hid ((Tryz.prog.info? 95).map (·.size) = some (encW x).length) := by show _ = _; rw [HL.out]; kernel_rfl
          have HRG : Hid (wr.rangeAt g (k * 33) (encW x)) := by show World.rangeAt _ _ _ _; rw [Nat.mul_comm]; exact hrg
          have H1C : Hid ((encW x).toArray.all (·.oneCell') = true) := all_oneCell_toArray (fun v hv => encW_one v hv)
          have hDa := hD.alloc (.cells (encW x).toArray 95)
          have HDA := Lib.hid hDa
          have HKP := Lib.hid (hKp.alloc (.cells (encW x).toArray 95))
          have HBL := Lib.hid (Blk.new wr (encW x) 95)
          have HX := Lib.hid hx
          have hok := h.ok
          have hkl : (k : Int) < (d.pend.length : Int) := by omega
          clear hD hKp hDa hrg hpv hx h
          go_wp2_with (first | (with_reducible refine wpList_load_mid rfl 95 (.tmp 16) rfl g (k * 33) rfl (encW x) _ HRG.out Tryz.underlying95 rfl HI.out ?_) | (with_reducible refine wpList_store_row rfl 95 (.tmp 7) (.tmp 17) rfl wr.heap.size (encW x).toArray rfl rfl 95 _ (heap_alloc_last wr _) (by rw [HI.out]; simp) (by simp [HL.out]) H1C.out ?_; rw [World.setRow_alloc_new]))
          refine Free.wp_region_free 8 [(4, .det (.slice (some ⟨bs, 32 * x.1, none⟩) 32 (32 * n - 32 * x.1)))] (fun w2 => w2.cell? ⟨wr.heap.size, 0, none⟩ = some (.int .i64 x.1) ∧ DiskAt w2 b bs bm (.slice (some ⟨g, 0, none⟩) d.pend.length c) (dAt d k tb k) n ∧ Blk w2 wr.heap.size (encW x) 95) (by kernel_rfl) (by kernel_rfl) ?_ ⟨HBL.out.drew.cellD 0 _ rfl, HDA.out.drew, HBL.out.drew⟩ (fun _ _ h g => ⟨cell_grow' h.1 g, h.2.1.below g, h.2.2.below g h.2.2.lt⟩) ?_
          · intro j mk r hf
            simp only [Free.find] at hf
            repeat' split at hf
            all_goals (first | cases hf | skip)
          simp only [List.take_succ_cons, List.take_zero]
          iterate 4 (apply Free.chain_still (by first | exact Free.wanted_of rfl rfl rfl | rfl) rfl; (intro w' hB hA; obtain ⟨q0, q1, q2⟩ := hB; clear hA  q1 q2; go_light; go_simp <;> rfl); (try simp only [Act.put, List.setIfInBounds_toArray, List.set_cons_succ, List.set_cons_zero]))
          apply Free.chain_det rfl rfl
          · intro w' ⟨q0, q1, q2⟩ hA
            refine Free.opRun_call (f := 58) (args := #[.pointer (some ⟨b, 0, none⟩), .int .i64 x.1]) (by clear q0 q1 q2 hA; go_simp) ?_
            refine (sector_any q1 x.1 hsec).mono ?_
            rintro e w3 ⟨rfl, rfl⟩
            exact ⟨_, rfl, Free.Grow.refl _, rfl⟩
          simp only [Act.put, List.setIfInBounds_toArray, List.set_cons_succ, List.set_cons_zero]
          iterate 3 (apply Free.chain_still (by first | exact Free.wanted_of rfl rfl rfl | rfl) rfl; (intro w' hB hA; obtain ⟨q0, q1, q2⟩ := hB; clear hA  q1 q2; go_light; go_simp <;> rfl); (try simp only [Act.put, List.setIfInBounds_toArray, List.set_cons_succ, List.set_cons_zero]))
          apply Free.chain_nil
          intro wz ⟨q0, q1, q2⟩ hg _
          simp only [List.drop_succ_cons, List.drop_zero]
          refine wpList_copy_own rfl (.tmp 36) (.tmp 39) 50 50 rfl 5 Tryz.underlying50 (by kernel_rfl) bs (32 * x.1) 32 (32 * n - 32 * x.1) ⟨wr.heap.size, 1, none⟩ tb 32 rfl rfl ((dAt d k tb k).st.map C8).toArray 5 q1.st ((x.2.take tb).map C8) (by simp [hl32]) (src_cells q2 tb) (by have := q1.ok.len; have := q1.ok.n2; simp [hl32]; omega) (fun v hv => by obtain ⟨y, _, rfl⟩ := List.mem_map.1 hv; rfl) ?_
          rw [copied]
          have hnew : sAt d.st d.pend k tb (k + 1) = splice8 (dAt d k tb k).st (32 * x.1) (x.2.take tb) := by rw [sAt_more HX.out, if_neg (by omega), if_pos rfl]; rfl
          have q3 := q1.stable (d' := dAt d k tb (k + 1)) (splice8 (dAt d k tb k).st (32 * x.1) (x.2.take tb)) (by unfold dAt; rw [hnew]; rfl) (dAt_ok hok k tb (k + 1))
          have hKz : Keep (Fp b bs bm (.slice (some ⟨g, 0, none⟩) d.pend.length c)) w (wz.setRow bs ((splice8 (dAt d k tb k).st (32 * x.1) (x.2.take tb)).map C8).toArray) := (HKP.out.trans (Keep.of_below (grow_drew' hg)) (fun _ _ f => f)).setRow (fun _ => .inr (.inl rfl)) _
          have key : RS w b bs bm n k tb (.slice (some ⟨g, 0, none⟩) d.pend.length c) d (.int .i64 ((k : Int) + 1)) (wz.setRow bs ((splice8 (dAt d k tb k).st (32 * x.1) (x.2.take tb)).map C8).toArray) := ⟨k + 1, by omega, by go_num, q3, hKz⟩
          have KEY := Lib.hid key
          generalize wz.setRow bs ((splice8 (dAt d k tb k).st (32 * x.1) (x.2.take tb)).map C8).toArray = w4 at KEY ⊢
          clear key q3 hKz hnew q1 q2 q0 hg HKP HDA HBL HRG HI HL H1C HX
          go_wp2_with fail
          go_roundw
          case rel =>
            go_light
            have key := KEY.out
            first | exact key | ((repeat apply Exists.intro); exact ⟨key, rfl⟩)
          case measure => simp [intOf]; omega
        · have hkw1 : ¬ (k : Int) < (ws : Int) := by omega
          have hkw2 : ((k : Int) == (ws : Int)) = false := by simp; omega
          have hkw3 : ¬ (k : Int) = (ws : Int) := by omega
          obtain ⟨x, hx⟩ : ∃ x, d.pend[k]? = some x := ⟨_, List.getElem?_eq_getElem hlt⟩
          obtain ⟨g, cap, hpv, hrg⟩ := hD.pendAt (d := dAt d ws tb k) hx
          obtain ⟨hA, hc⟩ : A = some ⟨g, 0, none⟩ ∧ c = cap := by injection hpv with h1 h2 h3; exact ⟨h1, h3⟩
          subst hA hc
          have hsec := (h.ok.sec k x hx).1
          have hl32 := (h.ok.sec k x hx).2
          have HL := Lib.hid (encW_len hl32)
          have HI : Hid ((Tryz.prog.info? 95).map (·.size) = some (encW x).length) := by show _ = _; rw [HL.out]; kernel_rfl
          have HRG : Hid (wr.rangeAt g (k * 33) (encW x)) := by show World.rangeAt _ _ _ _; rw [Nat.mul_comm]; exact hrg
          have H1C : Hid ((encW x).toArray.all (·.oneCell') = true) := all_oneCell_toArray (fun v hv => encW_one v hv)
          have hDa := hD.alloc (.cells (encW x).toArray 95)
          have HDA := Lib.hid hDa
          have HKP := Lib.hid (hKp.alloc (.cells (encW x).toArray 95))
          have HBL := Lib.hid (Blk.new wr (encW x) 95)
          have HX := Lib.hid hx
          have hok := h.ok
          have hkl : (k : Int) < (d.pend.length : Int) := by omega
          clear hD hKp hDa hrg hpv hx h
          go_wp2_with (first | (with_reducible refine wpList_load_mid rfl 95 (.tmp 16) rfl g (k * 33) rfl (encW x) _ HRG.out Tryz.underlying95 rfl HI.out ?_) | (with_reducible refine wpList_store_row rfl 95 (.tmp 7) (.tmp 17) rfl wr.heap.size (encW x).toArray rfl rfl 95 _ (heap_alloc_last wr _) (by rw [HI.out]; simp) (by simp [HL.out]) H1C.out ?_; rw [World.setRow_alloc_new]))
          have hnew : sAt d.st d.pend ws tb (k + 1) = sAt d.st d.pend ws tb k := by rw [sAt_more HX.out, if_neg hkw, if_neg hke]
          have key : RS w b bs bm n ws tb (.slice (some ⟨g, 0, none⟩) d.pend.length c) d (.int .i64 ((k : Int) + 1)) (wr.alloc (.cells (encW x).toArray 95)) := ⟨k + 1, by omega, by go_num, by unfold dAt; rw [hnew]; exact HDA.out, HKP.out⟩
          have KEY := Lib.hid key
          go_roundw
          case rel =>
            go_light
            have key := KEY.out
            first | exact key | ((repeat apply Exists.intro); exact ⟨key, rfl⟩)
          case measure => simp [intOf]; omega
    · obtain rfl : k = d.pend.length := by omega
      have hok := h.ok
      have c2 := hD.blk.cellD 2 _ rfl
      have f2 := hD.blk.frozen 2
      have B2 := hD.blk.set 2 (.slice none 0 0)
      have B2a := B2.alloc (.map #[] 0)
      have c3 := B2a.cellD 3 _ rfl
      have f3 := B2a.frozen 3
      have B3 := B2a.set 3 (.map (some (wr.setCell ⟨b, 2, none⟩ (.slice none 0 0)).heap.size))
      have hne : ∀ k, k ≠ b → (((wr.setCell ⟨b, 2, none⟩ (.slice none 0 0)).alloc (.map #[] 0)).setCell ⟨b, 3, none⟩ (.map (some (wr.setCell ⟨b, 2, none⟩ (.slice none 0 0)).heap.size))).heap[k]? = ((wr.setCell ⟨b, 2, none⟩ (.slice none 0 0)).alloc (.map #[] 0)).heap[k]? := fun k hk => Below.heap_setCell _ ⟨b, 3, none⟩ _ k hk
      have hz : (wr.setCell ⟨b, 2, none⟩ (.slice none 0 0)).heap.size = wr.heap.size := by simp [World.setCell]
      have hfin : SetPost w b bs bm n (.slice A d.pend.length c) { d with st := settled d.st d.pend ws tb, pend := [] } (.returned (.tuple #[])) (((wr.setCell ⟨b, 2, none⟩ (.slice none 0 0)).alloc (.map #[] 0)).setCell ⟨b, 3, none⟩ (.map (some (wr.setCell ⟨b, 2, none⟩ (.slice none 0 0)).heap.size))) := by
        refine ⟨rfl, (wr.setCell ⟨b, 2, none⟩ (.slice none 0 0)).heap.size, ⟨?_, B3, ?_, World.ownsRow_nil _ _ _ _, ?_⟩, ?_, ?_⟩
        · exact ⟨sAt_len ws tb hok.len hok.sec _, fun i x hx => by simp at hx, by simp, hok.a0, hok.a1, hok.w0, hok.w1, hok.b0, hok.b1, hok.n1, hok.n2⟩
        · refine (Blk.keepB ?_ (hne bs hD.ne1))
          exact (hD.st.set_ne (a := ⟨b, 2, none⟩) (fun e => hD.ne1 e.symm) _).alloc _
        · refine (MapIs.made (wr.setCell ⟨b, 2, none⟩ (.slice none 0 0))).keep (hne _ ?_)
          rw [hz]; have := hD.blk.lt; omega
        · exact ((hKp.setCell (p := ⟨b, 2, none⟩) (fun _ => .inl rfl) _).alloc _).setCell (p := ⟨b, 3, none⟩) (fun _ => .inl rfl) _
        · rw [hz]; exact hKp.size
      have HF := Lib.hid hfin
      have hmm := @run_makeMap Tryz.prog
      rw [hz] at HF
      clear hfin B2 B2a B3 hne h hD hKp hlt hk hok
      go_wp2
      go_end0
      exact HF.out
end
end Go.Proofs.YthfjaaigncjhlaaGreatDoor
