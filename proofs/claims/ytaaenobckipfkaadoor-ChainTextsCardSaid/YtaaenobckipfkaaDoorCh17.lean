/- The law ChainNoFork, walked. Condition: the variables of digest and of strconv hold their numbers. -/
import Derived.Test.YtaaenobckipfkaaDoorChE
import Derived.Test.YtaaenobckipfkaaDoorCh14
namespace Go.Proofs.YtaaenobckipfkaaDoor
open Go.RowKit Go.Blk Go.Opn Go.OpenShut Go.Apl

theorem no_fork {l : List E31} {house pub : Int} (hl : (chk l house pub).1 = 0) {i k : Nat} {x y : E31} (hx : l[i]? = some x) (hy : l[k]? = some y) : forkB x y pub = false := by
  by_cases hik : i = k
  · subst hik
    rw [hx] at hy; cases hy
    exact forkB_self x pub
  · obtain ⟨_, a2, _⟩ := chk_head hl i x hx
    obtain ⟨_, b2, _⟩ := chk_head hl k y hy
    exact fork_seq (by rw [a2, b2]; omega)
def RNF (w : World) (n : Nat) (i : Value) (wr : World) : Prop := ∃ k : Nat, k ≤ n ∧ i = .int .i64 k ∧ Below w.heap.size w wr
theorem box2 (w : World) (la lb : List Value) (T : TypeId) : Blk ((w.alloc (.cells la.toArray T)).alloc (.cells lb.toArray T)) w.heap.size la T ∧
    Blk ((w.alloc (.cells la.toArray T)).alloc (.cells lb.toArray T)) (w.heap.size + 1) lb T ∧ Below w.heap.size w ((w.alloc (.cells la.toArray T)).alloc (.cells lb.toArray T)) := by
  refine ⟨Blk.alloc (Blk.new w la T) _, ?_, (((Below.refl _ w).alloc (Nat.le_refl _) _).alloc (by simp) _)⟩
  have := Blk.new (w.alloc (.cells la.toArray T)) lb T
  simpa using this
set_option maxRecDepth 100000 in
set_option maxHeartbeats 4000000 in
theorem nofork31_any (a b : E31) (A : Option Addr) (c : Nat) (l : List E31) (house pub : Int) (w : World) (oa : a.Ok) (ob : b.Ok) (hl : l.length ≤ 9223372036854775807) (hlc : l.length ≤ c) (h : SL w 7 encE A l) (ho : ∀ a ∈ l, a.Ok)
    (_h1 : (Lit.int .i64 house).wf = true) (_h2 : (Lit.int .i64 pub).wf = true) (hT : HasT w) :
    Calls Tryd.prog 9 #[.agg (encE a).toArray, .agg (encE b).toArray, .slice A l.length c, .int .i64 house, .int .i64 pub] w fun r w' => r = .returned (.bool true) ∧ Below w.heap.size w w' := by
  clear _h1 _h2
  obtain ⟨ba, bb0, hbv⟩ := box2 w (encE a) (encE b) 37
  obtain ⟨V, eV⟩ : ∃ V, V = (w.alloc (.cells (encE a).toArray 37)).alloc (.cells (encE b).toArray 37) := ⟨_, rfl⟩
  rw [← eV] at ba bb0 hbv
  have BA := Lib.hid ba
  have BB := Lib.hid bb0
  have HBV := Lib.hid hbv
  have HT := Lib.hid (hT.below hbv (Nat.le_refl _))
  have C0 : Hid (∀ w' b', SL w' 7 encE (some ⟨b', 0, none⟩) [a, b] → Calls Tryd.prog 24 #[.slice (some ⟨b', 0, none⟩) 2 2, .int .i64 2] w' fun e w2 => e = .returned (.bool (fewB [a, b] 2)) ∧ w' = w2) := fun w' b' hs => few_any (some ⟨b', 0, none⟩) 2 2 [a, b] w' hs (by simp)
  have C1 : Hid (∀ w', Below w.heap.size w w' → Calls Tryd.prog 24 #[.slice A l.length c, .int .i64 14] w' fun e w2 => e = .returned (.bool (fewB l 14)) ∧ w' = w2) := fun w' hb => few_any A c 14 l w' (h.below hb (Nat.le_refl _)) hl
  clear ba bb0 hbv
  by_cases hfab : fewB [a, b] 2 = true
  · rw [hfab] at C0
    by_cases hfew : fewB l 14 = true
    · rw [hfew] at C1
      obtain ⟨hf, hl14⟩ := few_of ho hfew
      obtain ⟨hf2, _⟩ := few_of (l := [a, b]) (by intro e he; simp at he; rcases he with rfl | rfl <;> assumption) hfab
      obtain ⟨_, a2, a3⟩ := hf2 a (by simp)
      obtain ⟨_, b2, b3⟩ := hf2 b (by simp)
      have C3 : Hid (∀ w', Below w.heap.size w w' → Calls Tryd.prog 17 #[.slice A l.length c, .int .i64 house, .int .i64 pub] w' (ChkPost w' (chk l house pub))) := fun w' hb => check_any A c l house pub w' (h.below hb (Nat.le_refl _)) hl hlc hf (hT.below hb (Nat.le_refl _))
      obtain ⟨F, eF⟩ : ∃ F, F = forkB a b pub := ⟨_, rfl⟩
      have C4 : Hid (∀ w', Below w.heap.size w w' → Calls Tryd.prog 21 #[.agg (encE a).toArray, .agg (encE b).toArray, .int .i64 pub] w' fun e w2 => e = .returned (.bool F) ∧ Below w'.heap.size w' w2) := fun w' hb => by
        have := fork_any a b pub w' oa ob a2 b2 a3 b3 (hT.below hb (Nat.le_refl _))
        rw [← eF] at this; exact this
      have C5 : Hid (∀ w', Below w.heap.size w w' → Calls Tryd.prog 21 #[.agg (encE b).toArray, .agg (encE a).toArray, .int .i64 pub] w' fun e w2 => e = .returned (.bool F) ∧ Below w'.heap.size w' w2) := fun w' hb => by
        have := fork_any b a pub w' ob oa b2 a2 b3 a3 (hT.below hb (Nat.le_refl _))
        rw [forkB_symm b a, ← eF] at this; exact this
      have C6 : Hid (∀ w', Below w.heap.size w w' → Calls Tryd.prog 21 #[.agg (encE a).toArray, .agg (encE a).toArray, .int .i64 pub] w' fun e w2 => e = .returned (.bool false) ∧ Below w'.heap.size w' w2) := fun w' hb => by
        have := fork_any a a pub w' oa oa a2 a2 a3 a3 (hT.below hb (Nat.le_refl _))
        rw [forkB_self] at this; exact this
      have HS := Lib.hid h
      have HF := Lib.hid hf
      have HT0 := Lib.hid hT
      have NF : Hid ((chk l house pub).1 = 0 → ∀ (i k : Nat) (x y : E31), l[i]? = some x → l[k]? = some y → forkB x y pub = false) := fun hc i k x y hx hy => no_fork hc hx hy
      obtain ⟨fe, efe⟩ : ∃ fe, fe = chk l house pub := ⟨_, rfl⟩
      rw [← efe] at C3 NF
      obtain ⟨fe1, fe2⟩ := fe
      obtain ⟨ah, aq, ad, ap, ab, ar, az⟩ := a
      obtain ⟨bh, bq, bd, bp, bb, br, bz⟩ := b
      have hbf : (F != F) = false := by simp
      clear h ho hT hfew hfab hf hf2 a2 a3 b2 b3 oa ob efe eF
      go_enter Tryd.func9, Tryd.ntmps9
      go_wp2_with fail
      rw [← eV]
      refine (head31_any _ HT.out).mono ?_
      rintro e w1 ⟨rfl, hb1⟩
      have HB1 := Lib.hid (HBV.out.trans (hb1.mono HBV.out.size))
      have BA := Lib.hid (BA.out.below hb1 BA.out.lt)
      have BB := Lib.hid (BB.out.below hb1 BB.out.lt)
      have c0 := BA.out.cellD 0 _ rfl
      have c1 := BA.out.cellD 1 _ rfl
      have c2 := BA.out.cellD 2 _ rfl
      have c3 := BA.out.cellD 3 _ rfl
      have c4 := BA.out.cellD 4 _ rfl
      have c5 := BA.out.cellD 5 _ rfl
      have c6 := BA.out.cellD 6 _ rfl
      have d0 := BB.out.cellD 0 _ rfl
      have d1 := BB.out.cellD 1 _ rfl
      have d2 := BB.out.cellD 2 _ rfl
      have d3 := BB.out.cellD 3 _ rfl
      have d4 := BB.out.cellD 4 _ rfl
      have d5 := BB.out.cellD 5 _ rfl
      have d6 := BB.out.cellD 6 _ rfl
      clear hb1
      go_wp2_with fail
      obtain ⟨W, eW⟩ : ∃ W, W = w1.alloc (.cells #[.int .i64 ah, .int .i64 aq, .int .i64 ad, .string ap, .string ab, .int .i64 ar, .int .i64 az, .int .i64 bh, .int .i64 bq, .int .i64 bd, .string bp, .string bb, .int .i64 br, .int .i64 bz] 37) := ⟨_, rfl⟩
      have hbW : Below w1.heap.size w1 W := by rw [eW]; exact (Below.refl _ _).alloc (Nat.le_refl _) _
      have sW : SL W 7 encE (some ⟨w1.heap.size, 0, none⟩) [⟨ah, aq, ad, ap, ab, ar, az⟩, ⟨bh, bq, bd, bp, bb, br, bz⟩] := by
        rw [eW]; exact sl_of_cells encE_len (heap_alloc_last _ _) (fun j u hu => by simpa [encE] using hu)
      have HB1 := Lib.hid (HB1.out.trans (hbW.mono HB1.out.size))
      have BA := Lib.hid (BA.out.below hbW BA.out.lt)
      have BB := Lib.hid (BB.out.below hbW BB.out.lt)
      rw [← eW]
      refine (C0.out _ _ sW).mono ?_
      rintro e w' ⟨rfl, rfl⟩
      clear C0 eW hbW sW c0 c1 c2 c3 c4 c5 c6 d0 d1 d2 d3 d4 d5 d6
      go_wp2_with fail
      refine (C1.out _ HB1.out).mono ?_
      rintro e w' ⟨rfl, rfl⟩
      clear C1
      go_wp2_with fail
      refine Free.wp_region_free 15 [(3, .det (.bool F)), (7, .det (.bool F)), (13, .det (.bool false))] (fun w2 => Below w.heap.size w w2 ∧ Blk w2 w.heap.size (encE ⟨ah, aq, ad, ap, ab, ar, az⟩) 37 ∧ Blk w2 (w.heap.size + 1) (encE ⟨bh, bq, bd, bp, bb, br, bz⟩) 37) (by kernel_rfl) (by kernel_rfl) ?_ ⟨HB1.out.drew, BA.out.drew, BB.out.drew⟩ (fun _ _ h g => ⟨h.1.trans (Below.mono g h.1.size), h.2.1.below g h.2.1.lt, h.2.2.below g h.2.2.lt⟩) ?_
      · intro j mk r hf
        simp only [Free.find] at hf
        repeat' split at hf
        all_goals (first | cases hf | skip)
      simp only [List.take_succ_cons, List.take_zero]
      apply Free.chain_still (by first | exact Free.wanted_of rfl rfl rfl | rfl) rfl
      · intro w' hB hA
        exact exec_entry (x := ⟨ah, aq, ad, ap, ab, ar, az⟩) rfl rfl (fun p u hu => by rw [Nat.zero_add]; exact hB.2.1.cellD p u hu)
      simp only [Act.put, List.setIfInBounds_toArray, List.set_cons_succ, List.set_cons_zero]
      apply Free.chain_still (by first | exact Free.wanted_of rfl rfl rfl | rfl) rfl
      · intro w' hB hA
        exact exec_entry (x := ⟨bh, bq, bd, bp, bb, br, bz⟩) rfl rfl (fun p u hu => by rw [Nat.zero_add]; exact hB.2.2.cellD p u hu)
      simp only [Act.put, List.setIfInBounds_toArray, List.set_cons_succ, List.set_cons_zero]
      iterate 1 (apply Free.chain_still (by first | exact Free.wanted_of rfl rfl rfl | rfl) rfl; (intro w' hB hA; obtain ⟨qT, qA, qB⟩ := hB; clear hA  qT qA qB; go_light; go_simp <;> rfl); (try simp only [Act.put, List.setIfInBounds_toArray, List.set_cons_succ, List.set_cons_zero]))
      apply Free.chain_det (by first | exact Free.wanted_of rfl rfl rfl | rfl) rfl
      · intro w' hB hA
        refine Free.opRun_call (f := 21) (args := #[.agg (encE ⟨ah, aq, ad, ap, ab, ar, az⟩).toArray, .agg (encE ⟨bh, bq, bd, bp, bb, br, bz⟩).toArray, .int .i64 pub]) (by clear hB hA; go_simp <;> rfl) ?_
        refine (C4.out _ hB.1).mono ?_
        rintro e w3 ⟨rfl, hb3⟩
        exact ⟨_, rfl, hb3, rfl⟩
      simp only [Act.put, List.setIfInBounds_toArray, List.set_cons_succ, List.set_cons_zero]
      apply Free.chain_still (by first | exact Free.wanted_of rfl rfl rfl | rfl) rfl
      · intro w' hB hA
        exact exec_entry (x := ⟨bh, bq, bd, bp, bb, br, bz⟩) rfl rfl (fun p u hu => by rw [Nat.zero_add]; exact hB.2.2.cellD p u hu)
      simp only [Act.put, List.setIfInBounds_toArray, List.set_cons_succ, List.set_cons_zero]
      apply Free.chain_still (by first | exact Free.wanted_of rfl rfl rfl | rfl) rfl
      · intro w' hB hA
        exact exec_entry (x := ⟨ah, aq, ad, ap, ab, ar, az⟩) rfl rfl (fun p u hu => by rw [Nat.zero_add]; exact hB.2.1.cellD p u hu)
      simp only [Act.put, List.setIfInBounds_toArray, List.set_cons_succ, List.set_cons_zero]
      iterate 1 (apply Free.chain_still (by first | exact Free.wanted_of rfl rfl rfl | rfl) rfl; (intro w' hB hA; obtain ⟨qT, qA, qB⟩ := hB; clear hA  qT qA qB; go_light; go_simp <;> rfl); (try simp only [Act.put, List.setIfInBounds_toArray, List.set_cons_succ, List.set_cons_zero]))
      apply Free.chain_det (by first | exact Free.wanted_of rfl rfl rfl | rfl) rfl
      · intro w' hB hA
        refine Free.opRun_call (f := 21) (args := #[.agg (encE ⟨bh, bq, bd, bp, bb, br, bz⟩).toArray, .agg (encE ⟨ah, aq, ad, ap, ab, ar, az⟩).toArray, .int .i64 pub]) (by clear hB hA; go_simp <;> rfl) ?_
        refine (C5.out _ hB.1).mono ?_
        rintro e w3 ⟨rfl, hb3⟩
        exact ⟨_, rfl, hb3, rfl⟩
      simp only [Act.put, List.setIfInBounds_toArray, List.set_cons_succ, List.set_cons_zero]
      iterate 2 (apply Free.chain_still (by first | exact Free.wanted_of rfl rfl rfl | rfl) rfl; (intro w' hB hA; obtain ⟨qT, qA, qB⟩ := hB; clear hA  qT qA qB; go_light; go_simp <;> rfl); (try simp only [Act.put, List.setIfInBounds_toArray, List.set_cons_succ, List.set_cons_zero]))
      apply Free.chain_still (by first | exact Free.wanted_of rfl rfl rfl | rfl) rfl
      · intro w' hB hA
        exact exec_entry (x := ⟨ah, aq, ad, ap, ab, ar, az⟩) rfl rfl (fun p u hu => by rw [Nat.zero_add]; exact hB.2.1.cellD p u hu)
      simp only [Act.put, List.setIfInBounds_toArray, List.set_cons_succ, List.set_cons_zero]
      apply Free.chain_still (by first | exact Free.wanted_of rfl rfl rfl | rfl) rfl
      · intro w' hB hA
        exact exec_entry (x := ⟨ah, aq, ad, ap, ab, ar, az⟩) rfl rfl (fun p u hu => by rw [Nat.zero_add]; exact hB.2.1.cellD p u hu)
      simp only [Act.put, List.setIfInBounds_toArray, List.set_cons_succ, List.set_cons_zero]
      iterate 1 (apply Free.chain_still (by first | exact Free.wanted_of rfl rfl rfl | rfl) rfl; (intro w' hB hA; obtain ⟨qT, qA, qB⟩ := hB; clear hA  qT qA qB; go_light; go_simp <;> rfl); (try simp only [Act.put, List.setIfInBounds_toArray, List.set_cons_succ, List.set_cons_zero]))
      apply Free.chain_det (by first | exact Free.wanted_of rfl rfl rfl | rfl) rfl
      · intro w' hB hA
        refine Free.opRun_call (f := 21) (args := #[.agg (encE ⟨ah, aq, ad, ap, ab, ar, az⟩).toArray, .agg (encE ⟨ah, aq, ad, ap, ab, ar, az⟩).toArray, .int .i64 pub]) (by clear hB hA; go_simp <;> rfl) ?_
        refine (C6.out _ hB.1).mono ?_
        rintro e w3 ⟨rfl, hb3⟩
        exact ⟨_, rfl, hb3, rfl⟩
      simp only [Act.put, List.setIfInBounds_toArray, List.set_cons_succ, List.set_cons_zero]
      iterate 1 (apply Free.chain_still (by first | exact Free.wanted_of rfl rfl rfl | rfl) rfl; (intro w' hB hA; obtain ⟨qT, qA, qB⟩ := hB; clear hA  qT qA qB; go_light; go_simp <;> rfl); (try simp only [Act.put, List.setIfInBounds_toArray, List.set_cons_succ, List.set_cons_zero]))
      apply Free.chain_nil
      intro wy hBz _ _
      have HBY := Lib.hid hBz.1
      simp only [List.drop_succ_cons, List.drop_zero]
      clear hBz HB1 BA BB hbf C4 C5 C6
      go_wp2_with fail
      refine (C3.out _ HBY.out).mono ?_
      rintro e w2 ⟨rfl, hb2⟩
      have HB2 := Lib.hid (HBY.out.trans (hb2.mono HBY.out.size))
      clear hb2 HBY C3
      simp only
      by_cases hc : fe1 = 0
      · subst hc
        have NF2 := Lib.hid (NF.out rfl)
        clear NF
        go_wp2_with fail
        have HST : Hid (RNF w l.length (.int .i64 0) w2) := ⟨0, Nat.zero_le _, rfl, HB2.out⟩
        clear HB2
        go_loopw [14] (fun i wr => RNF w l.length i wr) (fun i _ => l.length - (intOf i).toNat)
        case atStart => exact HST.out
        case round =>
          clear HST
          obtain ⟨k, hk, rfl, hbr⟩ := hrel
          by_cases hlt : k < l.length
          · have hki : (k : Int) < (l.length : Int) := by omega
            have k00 : (0 : Int) ≤ (k : Int) := by omega
            have HST : Hid (RNF w l.length (.int .i64 0) wr) := ⟨0, Nat.zero_le _, rfl, hbr⟩
            clear hbr
            obtain ⟨x, hx⟩ : ∃ x, l[k]? = some x := ⟨_, List.getElem?_eq_getElem (by omega)⟩
            go_wp2_with fail
            go_loopw [15] (fun i wr => RNF w l.length i wr) (fun i _ => l.length - (intOf i).toNat)
            case atStart => exact HST.out
            case round =>
              clear HST
              obtain ⟨j, hj, rfl, hbr⟩ := hrel
              by_cases hlt2 : j < l.length
              · have hji : (j : Int) < (l.length : Int) := by omega
                have j00 : (0 : Int) ≤ (j : Int) := by omega
                obtain ⟨y, hy⟩ : ∃ y, l[j]? = some y := ⟨_, List.getElem?_eq_getElem (by omega)⟩
                have hno := NF2.out k j x y hx hy
                obtain ⟨bb, off, rfl, _⟩ := HS.out.at_ hx
                have CX : Hid (∀ w', Below w.heap.size w w' → ∀ p u, (encE x)[p]? = some u → w'.cell? ⟨bb, off + k * 7 + p, none⟩ = some u) := fun w' hb p u hu => by
                  obtain ⟨_, _, e1, h1⟩ := (HS.out.below hb (Nat.le_refl _)).at_ hx
                  cases e1
                  rw [Nat.add_assoc]; exact h1 p u hu
                have CY : Hid (∀ w', Below w.heap.size w w' → ∀ p u, (encE y)[p]? = some u → w'.cell? ⟨bb, off + j * 7 + p, none⟩ = some u) := fun w' hb p u hu => by
                  obtain ⟨_, _, e1, h1⟩ := (HS.out.below hb (Nat.le_refl _)).at_ hy
                  cases e1
                  rw [Nat.add_assoc]; exact h1 p u hu
                obtain ⟨x1, x2, x3⟩ := HF.out x (List.mem_of_getElem? hx)
                obtain ⟨y1, y2, y3⟩ := HF.out y (List.mem_of_getElem? hy)
                have C5 : Hid (∀ w', Below w.heap.size w w' → Calls Tryd.prog 21 #[.agg (encE x).toArray, .agg (encE y).toArray, .int .i64 pub] w' fun e w2 => e = .returned (.bool false) ∧ Below w'.heap.size w' w2) := fun w' hb => by
                  have := fork_any x y pub w' x1 y1 x2 y2 x3 y3 (HT0.out.below hb (Nat.le_refl _))
                  rw [hno] at this; exact this
                have HBR := Lib.hid hbr
                clear x1 x2 x3 y1 y2 y3 hy hbr hno
                go_wp2_with fail
                refine Free.wp_region_free 10 [(9, .det (.bool false))] (fun w2 => Below w.heap.size w w2 ∧ True) (by kernel_rfl) (by kernel_rfl) ?_ ⟨HBR.out.drew, trivial⟩ (fun _ _ h g => ⟨h.1.trans (Below.mono g h.1.size), trivial⟩) ?_
                · intro j mk r hf
                  simp only [Free.find] at hf
                  repeat' split at hf
                  all_goals (first | cases hf | skip)
                simp only [List.take_succ_cons, List.take_zero]
                iterate 3 (apply Free.chain_still (by first | exact Free.wanted_of rfl rfl rfl | rfl) rfl; (intro w' hB hA; obtain ⟨qT, qU⟩ := hB; clear hA  qT qU; go_light; go_simp <;> rfl); (try simp only [Act.put, List.setIfInBounds_toArray, List.set_cons_succ, List.set_cons_zero]))
                apply Free.chain_still (by first | exact Free.wanted_of rfl rfl rfl | rfl) rfl
                · intro w' hB hA
                  exact exec_entry (x := x) rfl rfl (CX.out w' hB.1)
                simp only [Act.put, List.setIfInBounds_toArray, List.set_cons_succ, List.set_cons_zero]
                iterate 3 (apply Free.chain_still (by first | exact Free.wanted_of rfl rfl rfl | rfl) rfl; (intro w' hB hA; obtain ⟨qT, qU⟩ := hB; clear hA  qT qU; go_light; go_simp <;> rfl); (try simp only [Act.put, List.setIfInBounds_toArray, List.set_cons_succ, List.set_cons_zero]))
                apply Free.chain_still (by first | exact Free.wanted_of rfl rfl rfl | rfl) rfl
                · intro w' hB hA
                  exact exec_entry (x := y) rfl rfl (CY.out w' hB.1)
                simp only [Act.put, List.setIfInBounds_toArray, List.set_cons_succ, List.set_cons_zero]
                iterate 1 (apply Free.chain_still (by first | exact Free.wanted_of rfl rfl rfl | rfl) rfl; (intro w' hB hA; obtain ⟨qT, qU⟩ := hB; clear hA  qT qU; go_light; go_simp <;> rfl); (try simp only [Act.put, List.setIfInBounds_toArray, List.set_cons_succ, List.set_cons_zero]))
                apply Free.chain_det (by first | exact Free.wanted_of rfl rfl rfl | rfl) rfl
                · intro w' hB hA
                  refine Free.opRun_call (f := 21) (args := #[.agg (encE x).toArray, .agg (encE y).toArray, .int .i64 pub]) (by clear hB hA; go_simp <;> rfl) ?_
                  refine (C5.out _ hB.1).mono ?_
                  rintro e w3 ⟨rfl, hb3⟩
                  exact ⟨_, rfl, hb3, rfl⟩
                simp only [Act.put, List.setIfInBounds_toArray, List.set_cons_succ, List.set_cons_zero]
                apply Free.chain_nil
                intro wz hBz _ _
                have KEY : Hid (RNF w l.length (.int .i64 ((j : Int) + 1)) wz) := ⟨j + 1, hlt2, by go_num, hBz.1⟩
                simp only [List.drop_succ_cons, List.drop_zero]
                clear hBz HBR C5 CX CY
                go_wp2_with fail
                go_roundw
                case rel =>
                  go_light
                  have key := KEY.out
                  first | exact key | ((repeat apply Exists.intro); exact ⟨key, rfl⟩)
                case measure => simp [intOf]; omega
              · have hji : ¬ ((j : Int) < (l.length : Int)) := by omega
                have KEY : Hid (RNF w l.length (.int .i64 ((k : Int) + 1)) wr) := ⟨k + 1, hlt, by go_num, hbr⟩
                clear hbr hx
                go_wp2_with fail
                go_roundw
                case rel =>
                  go_light
                  have key := KEY.out
                  first | exact key | ((repeat apply Exists.intro); exact ⟨key, rfl⟩)
                case measure => simp [intOf]; omega
          · have hki : ¬ ((k : Int) < (l.length : Int)) := by omega
            have HBR := Lib.hid hbr
            clear hbr
            go_wp2_with fail
            go_ret
            exact ⟨rfl, HBR.out⟩
      · have hcb : (fe1 != 0) = true := by simpa using hc
        clear NF
        go_wp2_with fail
        go_ret
        exact ⟨rfl, HB2.out⟩
    · have hff : fewB l 14 = false := by cases hb : fewB l 14 with | true => exact absurd hb hfew | false => rfl
      rw [hff] at C1
      obtain ⟨ah, aq, ad, ap, ab, ar, az⟩ := a
      obtain ⟨bh, bq, bd, bp, bb, br, bz⟩ := b
      clear h ho hT hfew hff oa ob hfab
      go_enter Tryd.func9, Tryd.ntmps9
      go_wp2_with fail
      rw [← eV]
      refine (head31_any _ HT.out).mono ?_
      rintro e w1 ⟨rfl, hb1⟩
      have HB1 := Lib.hid (HBV.out.trans (hb1.mono HBV.out.size))
      have BA := Lib.hid (BA.out.below hb1 BA.out.lt)
      have BB := Lib.hid (BB.out.below hb1 BB.out.lt)
      have c0 := BA.out.cellD 0 _ rfl
      have c1 := BA.out.cellD 1 _ rfl
      have c2 := BA.out.cellD 2 _ rfl
      have c3 := BA.out.cellD 3 _ rfl
      have c4 := BA.out.cellD 4 _ rfl
      have c5 := BA.out.cellD 5 _ rfl
      have c6 := BA.out.cellD 6 _ rfl
      have d0 := BB.out.cellD 0 _ rfl
      have d1 := BB.out.cellD 1 _ rfl
      have d2 := BB.out.cellD 2 _ rfl
      have d3 := BB.out.cellD 3 _ rfl
      have d4 := BB.out.cellD 4 _ rfl
      have d5 := BB.out.cellD 5 _ rfl
      have d6 := BB.out.cellD 6 _ rfl
      clear hb1
      go_wp2_with fail
      obtain ⟨W, eW⟩ : ∃ W, W = w1.alloc (.cells #[.int .i64 ah, .int .i64 aq, .int .i64 ad, .string ap, .string ab, .int .i64 ar, .int .i64 az, .int .i64 bh, .int .i64 bq, .int .i64 bd, .string bp, .string bb, .int .i64 br, .int .i64 bz] 37) := ⟨_, rfl⟩
      have hbW : Below w1.heap.size w1 W := by rw [eW]; exact (Below.refl _ _).alloc (Nat.le_refl _) _
      have sW : SL W 7 encE (some ⟨w1.heap.size, 0, none⟩) [⟨ah, aq, ad, ap, ab, ar, az⟩, ⟨bh, bq, bd, bp, bb, br, bz⟩] := by
        rw [eW]; exact sl_of_cells encE_len (heap_alloc_last _ _) (fun j u hu => by simpa [encE] using hu)
      have HB1 := Lib.hid (HB1.out.trans (hbW.mono HB1.out.size))
      have BA := Lib.hid (BA.out.below hbW BA.out.lt)
      have BB := Lib.hid (BB.out.below hbW BB.out.lt)
      rw [← eW]
      refine (C0.out _ _ sW).mono ?_
      rintro e w' ⟨rfl, rfl⟩
      clear C0 eW hbW sW c0 c1 c2 c3 c4 c5 c6 d0 d1 d2 d3 d4 d5 d6
      go_wp2_with fail
      refine (C1.out _ HB1.out).mono ?_
      rintro e w' ⟨rfl, rfl⟩
      clear C1
      go_wp2_with fail
      go_ret
      exact ⟨rfl, HB1.out⟩
  · have hff : fewB [a, b] 2 = false := by cases hb : fewB [a, b] 2 with | true => exact absurd hb hfab | false => rfl
    rw [hff] at C0
    obtain ⟨ah, aq, ad, ap, ab, ar, az⟩ := a
    obtain ⟨bh, bq, bd, bp, bb, br, bz⟩ := b
    clear h ho hT hff oa ob hfab C1
    go_enter Tryd.func9, Tryd.ntmps9
    go_wp2_with fail
    rw [← eV]
    refine (head31_any _ HT.out).mono ?_
    rintro e w1 ⟨rfl, hb1⟩
    have HB1 := Lib.hid (HBV.out.trans (hb1.mono HBV.out.size))
    have BA := Lib.hid (BA.out.below hb1 BA.out.lt)
    have BB := Lib.hid (BB.out.below hb1 BB.out.lt)
    have c0 := BA.out.cellD 0 _ rfl
    have c1 := BA.out.cellD 1 _ rfl
    have c2 := BA.out.cellD 2 _ rfl
    have c3 := BA.out.cellD 3 _ rfl
    have c4 := BA.out.cellD 4 _ rfl
    have c5 := BA.out.cellD 5 _ rfl
    have c6 := BA.out.cellD 6 _ rfl
    have d0 := BB.out.cellD 0 _ rfl
    have d1 := BB.out.cellD 1 _ rfl
    have d2 := BB.out.cellD 2 _ rfl
    have d3 := BB.out.cellD 3 _ rfl
    have d4 := BB.out.cellD 4 _ rfl
    have d5 := BB.out.cellD 5 _ rfl
    have d6 := BB.out.cellD 6 _ rfl
    clear hb1
    go_wp2_with fail
    obtain ⟨W, eW⟩ : ∃ W, W = w1.alloc (.cells #[.int .i64 ah, .int .i64 aq, .int .i64 ad, .string ap, .string ab, .int .i64 ar, .int .i64 az, .int .i64 bh, .int .i64 bq, .int .i64 bd, .string bp, .string bb, .int .i64 br, .int .i64 bz] 37) := ⟨_, rfl⟩
    have hbW : Below w1.heap.size w1 W := by rw [eW]; exact (Below.refl _ _).alloc (Nat.le_refl _) _
    have sW : SL W 7 encE (some ⟨w1.heap.size, 0, none⟩) [⟨ah, aq, ad, ap, ab, ar, az⟩, ⟨bh, bq, bd, bp, bb, br, bz⟩] := by
      rw [eW]; exact sl_of_cells encE_len (heap_alloc_last _ _) (fun j u hu => by simpa [encE] using hu)
    have HB1 := Lib.hid (HB1.out.trans (hbW.mono HB1.out.size))
    have BA := Lib.hid (BA.out.below hbW BA.out.lt)
    have BB := Lib.hid (BB.out.below hbW BB.out.lt)
    rw [← eW]
    refine (C0.out _ _ sW).mono ?_
    rintro e w' ⟨rfl, rfl⟩
    clear C0 eW hbW sW c0 c1 c2 c3 c4 c5 c6 d0 d1 d2 d3 d4 d5 d6
    go_wp2_with fail
    go_ret
    exact ⟨rfl, HB1.out⟩
end Go.Proofs.YtaaenobckipfkaaDoor
