/- The law ChainSame, walked. Condition: the variables of digest and of strconv hold their numbers. -/
import Derived.Test.YtaaenobckipfkaaDoorCh24
import Derived.Test.YtaaenobckipfkaaDoorCh18
import Derived.Test.YtaaenobckipfkaaDoorCh14
namespace Go.Proofs.YtaaenobckipfkaaDoor
open Go.RowKit Go.Blk Go.Opn Go.OpenShut

/-- Two chains with the same entry have the same entries before it, if no two different ones before it have the same digest. -/
theorem same_before {l m : List E31} {house pub : Int} (hl : (chk l house pub).1 = 0) (hm : (chk m house pub).1 = 0) (k : Nat) {z : E31} (h1 : l[k]? = some z) (h2 : m[k]? = some z)
    (hd : ∀ i x y, i < k → l[i]? = some x → m[i]? = some y → dig x = dig y → x = y) : l.take k = m.take k := by
  induction k generalizing z with
  | zero => rfl
  | succ k ih =>
    have hkl := (List.getElem?_eq_some_iff.1 h1).1
    have hkm := (List.getElem?_eq_some_iff.1 h2).1
    obtain ⟨x, hx⟩ : ∃ x, l[k]? = some x := ⟨_, List.getElem?_eq_getElem (by omega)⟩
    obtain ⟨y, hy⟩ : ∃ y, m[k]? = some y := ⟨_, List.getElem?_eq_getElem (by omega)⟩
    obtain ⟨_, _, _, p1⟩ := chk_head hl (k + 1) z h1
    obtain ⟨_, _, _, p2⟩ := chk_head hm (k + 1) z h2
    have g1 : prevE (l.take (k + 1)) = dig x := by
      unfold prevE
      rw [List.getLast?_eq_getElem?, List.length_take, Nat.min_eq_left (by omega), List.getElem?_take, if_pos (by omega)]
      simp only [Nat.add_sub_cancel, hx]
    have g2 : prevE (m.take (k + 1)) = dig y := by
      unfold prevE
      rw [List.getLast?_eq_getElem?, List.length_take, Nat.min_eq_left (by omega), List.getElem?_take, if_pos (by omega)]
      simp only [Nat.add_sub_cancel, hy]
    have hxy : x = y := hd k x y (by omega) hx hy (by rw [← g1, ← g2, ← p1, ← p2])
    subst hxy
    have := ih hx hy (fun i a b hi => hd i a b (by omega))
    obtain ⟨q1, e1⟩ := List.getElem?_eq_some_iff.1 hx
    obtain ⟨q2, e2⟩ := List.getElem?_eq_some_iff.1 hy
    rw [List.take_succ_eq_append_getElem q1, List.take_succ_eq_append_getElem q2, e1, e2, this]
theorem exec_neqV {o : Oper} {ρ : Operand → Value} {w : World} {a b : Operand} {x y : E31} {Q : Bool} (ho : o.op = .binOp .neq 37 a b 37) (ha : ρ a = .agg (encE x).toArray) (hb : ρ b = .agg (encE y).toArray) (hQ : (!eqB x y) = Q) :
    (execOp ρ o).run Tryd.prog w = .ok (.value (.bool Q)) w := by rw [← hQ]; exact exec_neq ho ha hb
def RSA (w : World) (l m : List E31) (k : Nat) (i : Value) (wr : World) : Prop := ∃ j : Nat, j ≤ k ∧ i = .int .i64 j ∧ (∀ i x y, i < j → l[i]? = some x → m[i]? = some y → dig x = dig y → x = y) ∧ Below w.heap.size w wr
set_option maxRecDepth 100000 in
set_option maxHeartbeats 2000000 in
theorem same31_any (A A' : Option Addr) (c c' : Nat) (l m : List E31) (house pub raw : Int) (w : World) (hl : l.length ≤ 9223372036854775807) (hlc : l.length ≤ c) (h : SL w 7 encE A l) (ho : ∀ a ∈ l, a.Ok)
    (hl' : m.length ≤ 9223372036854775807) (hlc' : m.length ≤ c') (h' : SL w 7 encE A' m) (ho' : ∀ a ∈ m, a.Ok)
    (_h1 : (Lit.int .i64 house).wf = true) (_h2 : (Lit.int .i64 pub).wf = true) (h3 : (Lit.int .u8 raw).wf = true) (hT : HasT w) :
    Calls Tryd.prog 7 #[.slice A l.length c, .slice A' m.length c', .int .i64 house, .int .i64 pub, .int .u8 raw] w fun r w' => r = .returned (.bool true) ∧ Below w.heap.size w w' := by
  obtain ⟨hr0, hr1⟩ := bounds_u8 h3
  clear _h1 _h2 h3
  have C1 : Hid (∀ w', Below w.heap.size w w' → Calls Tryd.prog 24 #[.slice A l.length c, .int .i64 14] w' fun e w2 => e = .returned (.bool (fewB l 14)) ∧ w' = w2) := fun w' hb => few_any A c 14 l w' (h.below hb (Nat.le_refl _)) hl
  have D1 : Hid (∀ w', Below w.heap.size w w' → Calls Tryd.prog 24 #[.slice A' m.length c', .int .i64 14] w' fun e w2 => e = .returned (.bool (fewB m 14)) ∧ w' = w2) := fun w' hb => few_any A' c' 14 m w' (h'.below hb (Nat.le_refl _)) hl'
  have HT := Lib.hid hT
  by_cases hfew : fewB l 14 = true
  · rw [hfew] at C1
    by_cases hfew' : fewB m 14 = true
    · rw [hfew'] at D1
      by_cases hl0 : l.length = 0
      · have HZ0 := Lib.hid hl0
        clear h h' ho ho' hT hfew hfew' hl0
        go_enter Tryd.func7, Tryd.ntmps7
        go_wp2_with fail
        refine (head31_any _ HT.out).mono ?_
        rintro e w1 ⟨rfl, hb1⟩
        have HB1 := Lib.hid hb1
        clear hb1
        go_wp2_with fail
        refine (C1.out _ HB1.out).mono ?_
        rintro e w' ⟨rfl, rfl⟩
        clear C1
        go_wp2_with fail
        refine (D1.out _ HB1.out).mono ?_
        rintro e w' ⟨rfl, rfl⟩
        clear D1
        have hz : (l.length : Int) = 0 := by have := HZ0.out; omega
        go_wp2_with fail
        go_ret
        exact ⟨rfl, HB1.out⟩
      by_cases hm0 : m.length = 0
      · have HZ0 := Lib.hid hm0
        have hz2 : ((l.length : Int) == 0) = false := by simp; intro e; exact hl0 (by rw [e]; rfl)
        clear h h' ho ho' hT hfew hfew' hm0 hl0
        go_enter Tryd.func7, Tryd.ntmps7
        go_wp2_with fail
        refine (head31_any _ HT.out).mono ?_
        rintro e w1 ⟨rfl, hb1⟩
        have HB1 := Lib.hid hb1
        clear hb1
        go_wp2_with fail
        refine (C1.out _ HB1.out).mono ?_
        rintro e w' ⟨rfl, rfl⟩
        clear C1
        go_wp2_with fail
        refine (D1.out _ HB1.out).mono ?_
        rintro e w' ⟨rfl, rfl⟩
        clear D1
        have hz : (m.length : Int) = 0 := by have := HZ0.out; omega
        go_wp2_with fail
        go_ret
        exact ⟨rfl, HB1.out⟩
      have hz1 : ((l.length : Int) == 0) = false := by simp; intro e; exact hl0 (by rw [e]; rfl)
      have hz2 : ((m.length : Int) == 0) = false := by simp; intro e; exact hm0 (by rw [e]; rfl)
      obtain ⟨hf, hl14⟩ := few_of ho hfew
      obtain ⟨hf', hl14'⟩ := few_of ho' hfew'
      have hsm := few_small hfew
      have hsm' := few_small hfew'
      have C3 : Hid (∀ w', Below w.heap.size w w' → Calls Tryd.prog 17 #[.slice A l.length c, .int .i64 house, .int .i64 pub] w' (ChkPost w' (chk l house pub))) := fun w' hb => check_any A c l house pub w' (h.below hb (Nat.le_refl _)) hl hlc hf (hT.below hb (Nat.le_refl _))
      have D3 : Hid (∀ w', Below w.heap.size w w' → Calls Tryd.prog 17 #[.slice A' m.length c', .int .i64 house, .int .i64 pub] w' (ChkPost w' (chk m house pub))) := fun w' hb => check_any A' c' m house pub w' (h'.below hb (Nat.le_refl _)) hl' hlc' hf' (hT.below hb (Nat.le_refl _))
      have hmin : min (l.length : Int) (m.length : Int) = ((min l.length m.length : Nat) : Int) := by omega
      obtain ⟨mn, emn⟩ : ∃ mn, mn = min l.length m.length := ⟨_, rfl⟩
      rw [← emn] at hmin
      have hmn : 0 < mn := by omega
      have hmnz : ¬ ((mn : Int) = 0) := by omega
      obtain ⟨k, hk⟩ : ∃ k : Nat, raw % (mn : Int) = k := ⟨(raw % (mn : Int)).toNat, by have := Int.emod_nonneg raw (show (mn : Int) ≠ 0 by omega); omega⟩
      have hkm : k < mn := by have := Int.emod_lt_of_pos raw (show (0 : Int) < (mn : Int) by omega); omega
      by_cases hc : (chk l house pub).1 = 0
      · by_cases hc' : (chk m house pub).1 = 0
        · obtain ⟨x, hx⟩ : ∃ x, l[k]? = some x := ⟨_, List.getElem?_eq_getElem (by omega)⟩
          obtain ⟨y, hy⟩ : ∃ y, m[k]? = some y := ⟨_, List.getElem?_eq_getElem (by omega)⟩
          have SB : Hid (eqB x y = true → (∀ i x y, i < k → l[i]? = some x → m[i]? = some y → dig x = dig y → x = y) → sameB (l.take k) (m.take k) = true) := fun he hd => by
            have := (eqB_iff x y).1 he
            subst this
            exact (sameB_iff _ _).2 (same_before hc hc' k hx hy hd)
          rw [chk_ok hc] at C3
          rw [chk_ok hc'] at D3
          have HS := Lib.hid h
          have HS' := Lib.hid h'
          obtain ⟨bb, off, rfl, _⟩ := h.at_ hx
          obtain ⟨b2, o2, rfl, _⟩ := h'.at_ hy
          have CX : Hid (∀ w', Below w.heap.size w w' → ∀ p u, (encE x)[p]? = some u → w'.cell? ⟨bb, off + k * 7 + p, none⟩ = some u) := fun w' hb p u hu => by
            obtain ⟨_, _, e1, h1⟩ := (HS.out.below hb (Nat.le_refl _)).at_ hx
            cases e1
            rw [Nat.add_assoc]; exact h1 p u hu
          have CY : Hid (∀ w', Below w.heap.size w w' → ∀ p u, (encE y)[p]? = some u → w'.cell? ⟨b2, o2 + k * 7 + p, none⟩ = some u) := fun w' hb p u hu => by
            obtain ⟨_, _, e1, h1⟩ := (HS'.out.below hb (Nat.le_refl _)).at_ hy
            cases e1
            rw [Nat.add_assoc]; exact h1 p u hu
          have HF := Lib.hid hf
          have HF' := Lib.hid hf'
          have HSM := Lib.hid hsm
          have HSM' := Lib.hid hsm'
          have hkl : k < l.length := by omega
          have hkm' : k < m.length := by omega
          have k00 : (0 : Int) ≤ (k : Int) := by omega
          have hki : (k : Int) < (l.length : Int) := by omega
          have hki' : (k : Int) < (m.length : Int) := by omega
          have hkc : (k : Int) ≤ (c : Int) := by omega
          have hkc' : (k : Int) ≤ (c' : Int) := by omega
          have CS : Hid (∀ w', Below w.heap.size w w' → Calls Tryd.prog 28 #[.slice (some ⟨bb, off, none⟩) k c, .slice (some ⟨b2, o2, none⟩) k c'] w' fun e w2 => e = .returned (.bool (sameB (l.take k) (m.take k))) ∧ Below w'.heap.size w' w2) := fun w' hb => by
            have := same_any (some ⟨bb, off, none⟩) (some ⟨b2, o2, none⟩) c c' (l.take k) (m.take k) w' ((HS.out.below hb (Nat.le_refl _)).take k) ((HS'.out.below hb (Nat.le_refl _)).take k) (by rw [List.length_take]; omega)
            rw [List.length_take, List.length_take, Nat.min_eq_left (by omega), Nat.min_eq_left (by omega)] at this; exact this
          clear h h' ho ho' hT hfew hfew' hf hf' hc hc' hx hy hsm hsm' emn
          go_enter Tryd.func7, Tryd.ntmps7
          go_wp2_with fail
          refine (head31_any _ HT.out).mono ?_
          rintro e w1 ⟨rfl, hb1⟩
          have HB1 := Lib.hid hb1
          clear hb1
          go_wp2_with fail
          refine (C1.out _ HB1.out).mono ?_
          rintro e w' ⟨rfl, rfl⟩
          clear C1
          go_wp2_with fail
          refine (D1.out _ HB1.out).mono ?_
          rintro e w' ⟨rfl, rfl⟩
          clear D1
          go_wp2_with fail
          refine (C3.out _ HB1.out).mono ?_
          rintro e w2 ⟨rfl, hb2⟩
          have HB2 := Lib.hid (HB1.out.trans (hb2.mono HB1.out.size))
          clear hb2 HB1 C3
          simp only
          go_wp2_with fail
          refine (D3.out _ HB2.out).mono ?_
          rintro e w3 ⟨rfl, hb3⟩
          have HB3 := Lib.hid (HB2.out.trans (hb3.mono HB2.out.size))
          clear hb3 HB2 D3
          simp only
          go_wp2_with fail
          rw [hk]
          clear hk hmin hmnz
          refine Free.wp_region_free 17 [] (fun w2 => Below w.heap.size w w2 ∧ True) (by kernel_rfl) (by kernel_rfl) ?_ ⟨HB3.out.drew, trivial⟩ (fun _ _ h g => ⟨h.1.trans (Below.mono g h.1.size), trivial⟩) ?_
          · intro j mk r hf
            simp only [Free.find] at hf
            repeat' split at hf
            all_goals (first | cases hf | skip)
          simp only [List.take_succ_cons, List.take_zero]
          iterate 10 (apply Free.chain_still (by first | exact Free.wanted_of rfl rfl rfl | rfl) rfl; (intro w' hB hA; obtain ⟨qT, qU⟩ := hB; clear hA  qT qU; go_light; go_simp <;> rfl); (try simp only [Act.put, List.setIfInBounds_toArray, List.set_cons_succ, List.set_cons_zero]))
          apply Free.chain_still (by first | exact Free.wanted_of rfl rfl rfl | rfl) rfl
          · intro w' hB hA
            exact exec_entry (x := x) rfl rfl (CX.out w' hB.1)
          simp only [Act.put, List.setIfInBounds_toArray, List.set_cons_succ, List.set_cons_zero]
          iterate 3 (apply Free.chain_still (by first | exact Free.wanted_of rfl rfl rfl | rfl) rfl; (intro w' hB hA; obtain ⟨qT, qU⟩ := hB; clear hA  qT qU; go_light; go_simp <;> rfl); (try simp only [Act.put, List.setIfInBounds_toArray, List.set_cons_succ, List.set_cons_zero]))
          apply Free.chain_still (by first | exact Free.wanted_of rfl rfl rfl | rfl) rfl
          · intro w' hB hA
            exact exec_entry (x := y) rfl rfl (CY.out w' hB.1)
          simp only [Act.put, List.setIfInBounds_toArray, List.set_cons_succ, List.set_cons_zero]
          apply Free.chain_still (by first | exact Free.wanted_of rfl rfl rfl | rfl) rfl
          · intro w' hB hA
            exact exec_neq (x := x) (y := y) rfl rfl rfl
          simp only [Act.put, List.setIfInBounds_toArray, List.set_cons_succ, List.set_cons_zero]
          iterate 1 (apply Free.chain_still (by first | exact Free.wanted_of rfl rfl rfl | rfl) rfl; (intro w' hB hA; obtain ⟨qT, qU⟩ := hB; clear hA  qT qU; go_light; go_simp <;> rfl); (try simp only [Act.put, List.setIfInBounds_toArray, List.set_cons_succ, List.set_cons_zero]))
          apply Free.chain_nil
          intro wy hBz _ _
          have HBY := Lib.hid hBz.1
          simp only [List.drop_succ_cons, List.drop_zero]
          clear hBz
          clear CX CY HB3
          cases hq : eqB x y with
          | false =>
            clear hq
            simp only [Bool.not_false]
            go_wp2_with fail
            go_ret
            exact ⟨rfl, HBY.out⟩
          | true =>
            have SB2 := Lib.hid (SB.out hq)
            clear hq SB
            simp only [Bool.not_true]
            go_wp2_with fail
            have HST : Hid (RSA w l m k (.int .i64 0) wy) := ⟨0, Nat.zero_le _, rfl, fun i _ _ hi => by omega, HBY.out⟩
            clear HBY
            go_loopw [17] (fun i wr => RSA w l m k i wr) (fun i _ => k - (intOf i).toNat)
            case atStart => exact HST.out
            case round =>
              clear HST
              obtain ⟨j, hj, rfl, hd, hbr⟩ := hrel
              by_cases hlt : j < k
              · obtain ⟨x', hx⟩ : ∃ x, l[j]? = some x := ⟨_, List.getElem?_eq_getElem (by omega)⟩
                obtain ⟨y', hy⟩ : ∃ y, m[j]? = some y := ⟨_, List.getElem?_eq_getElem (by omega)⟩
                have CX : Hid (∀ w', Below w.heap.size w w' → ∀ p u, (encE x')[p]? = some u → w'.cell? ⟨bb, off + j * 7 + p, none⟩ = some u) := fun w' hb p u hu => by
                  obtain ⟨_, _, e1, h1⟩ := (HS.out.below hb (Nat.le_refl _)).at_ hx
                  cases e1
                  rw [Nat.add_assoc]; exact h1 p u hu
                have CY : Hid (∀ w', Below w.heap.size w w' → ∀ p u, (encE y')[p]? = some u → w'.cell? ⟨b2, o2 + j * 7 + p, none⟩ = some u) := fun w' hb p u hu => by
                  obtain ⟨_, _, e1, h1⟩ := (HS'.out.below hb (Nat.le_refl _)).at_ hy
                  cases e1
                  rw [Nat.add_assoc]; exact h1 p u hu
                obtain ⟨x1, _, _⟩ := HF.out x' (List.mem_of_getElem? hx)
                obtain ⟨y1, _, _⟩ := HF'.out y' (List.mem_of_getElem? hy)
                have x2 := HSM.out x' (List.mem_of_getElem? hx)
                have y2 := HSM'.out y' (List.mem_of_getElem? hy)
                obtain ⟨dx, edx⟩ : ∃ dx, dx = dig x' := ⟨_, rfl⟩
                obtain ⟨dy, edy⟩ : ∃ dy, dy = dig y' := ⟨_, rfl⟩
                have C5 : Hid (∀ w', Calls Tryd.prog 22 #[.agg (encE x').toArray] w' fun e w2 => e = .returned (.string dx) ∧ Below w'.heap.size w' w2) := fun w' => by
                  have := rdig_any x' w' x1 (by omega) (by omega)
                  rw [← edx] at this; exact this
                have C6 : Hid (∀ w', Calls Tryd.prog 22 #[.agg (encE y').toArray] w' fun e w2 => e = .returned (.string dy) ∧ Below w'.heap.size w' w2) := fun w' => by
                  have := rdig_any y' w' y1 (by omega) (by omega)
                  rw [← edy] at this; exact this
                have hstep : (eqB x' y' = true ∨ (dx.toList == dy.toList) = false) → ∀ i x y, i < j + 1 → l[i]? = some x → m[i]? = some y → dig x = dig y → x = y := by
                  intro hor i a b hi ha hb2 hab
                  by_cases hij : i < j
                  · exact hd i a b hij ha hb2 hab
                  · have : i = j := by omega
                    subst this
                    rw [hx] at ha
                    rw [hy] at hb2
                    cases ha
                    cases hb2
                    rcases hor with h1 | h1
                    · exact (eqB_iff _ _).1 h1
                    · rw [edx, edy, hab] at h1; simp at h1
                have HSTEP := Lib.hid hstep
                have hji : (j : Int) < (k : Int) := by omega
                have hjl : (j : Int) < (l.length : Int) := by omega
                have hjm : (j : Int) < (m.length : Int) := by omega
                have j00 : (0 : Int) ≤ (j : Int) := by omega
                have HBR := Lib.hid hbr
                clear x1 x2 y1 y2 hx hy hbr hstep edx edy hd
                go_wp2_with fail
                cases hq : eqB x' y' with
                | true =>
                  refine Free.wp_region_free 22 [] (fun w2 => Below w.heap.size w w2 ∧ True) (by kernel_rfl) (by kernel_rfl) ?_ ⟨HBR.out.drew, trivial⟩ (fun _ _ h g => ⟨h.1.trans (Below.mono g h.1.size), trivial⟩) ?_
                  · intro j mk r hf
                    simp only [Free.find] at hf
                    repeat' split at hf
                    all_goals (first | cases hf | skip)
                  simp only [List.take_succ_cons, List.take_zero]
                  iterate 3 (apply Free.chain_still (by first | exact Free.wanted_of rfl rfl rfl | rfl) rfl; (intro w' hB hA; obtain ⟨qT, qU⟩ := hB; clear hA  qT qU; go_light; go_simp <;> rfl); (try simp only [Act.put, List.setIfInBounds_toArray, List.set_cons_succ, List.set_cons_zero]))
                  apply Free.chain_still (by first | exact Free.wanted_of rfl rfl rfl | rfl) rfl
                  · intro w' hB hA
                    exact exec_entry (x := x') rfl rfl (CX.out w' hB.1)
                  simp only [Act.put, List.setIfInBounds_toArray, List.set_cons_succ, List.set_cons_zero]
                  iterate 3 (apply Free.chain_still (by first | exact Free.wanted_of rfl rfl rfl | rfl) rfl; (intro w' hB hA; obtain ⟨qT, qU⟩ := hB; clear hA  qT qU; go_light; go_simp <;> rfl); (try simp only [Act.put, List.setIfInBounds_toArray, List.set_cons_succ, List.set_cons_zero]))
                  apply Free.chain_still (by first | exact Free.wanted_of rfl rfl rfl | rfl) rfl
                  · intro w' hB hA
                    exact exec_entry (x := y') rfl rfl (CY.out w' hB.1)
                  simp only [Act.put, List.setIfInBounds_toArray, List.set_cons_succ, List.set_cons_zero]
                  apply Free.chain_still (v := .bool false) (by first | exact Free.wanted_of rfl rfl rfl | rfl) rfl
                  · intro w' hB hA
                    exact exec_neqV (x := x') (y := y') rfl rfl rfl (by rw [hq]; rfl)
                  simp only [Act.put, List.setIfInBounds_toArray, List.set_cons_succ, List.set_cons_zero]
                  iterate 1 (apply Free.chain_still (by first | exact Free.wanted_of rfl rfl rfl | rfl) rfl; (intro w' hB hA; obtain ⟨qT, qU⟩ := hB; clear hA  qT qU; go_light; go_simp <;> rfl); (try simp only [Act.put, List.setIfInBounds_toArray, List.set_cons_succ, List.set_cons_zero]))
                  iterate 11 (apply Free.chain_skip (by exact unwanted2 rfl rfl rfl rfl); simp only [Act.put, List.setIfInBounds_toArray, List.set_cons_succ, List.set_cons_zero])
                  iterate 1 (apply Free.chain_still (by first | exact Free.wanted_of rfl rfl rfl | rfl) rfl; (intro w' hB hA; obtain ⟨qT, qU⟩ := hB; clear hA  qT qU; go_light; go_simp <;> rfl); (try simp only [Act.put, List.setIfInBounds_toArray, List.set_cons_succ, List.set_cons_zero]))
                  apply Free.chain_nil
                  intro wy hBz _ _
                  have HBY := Lib.hid hBz.1
                  simp only [List.drop_succ_cons, List.drop_zero]
                  clear hBz
                  have KEY : Hid (RSA w l m k (.int .i64 ((j : Int) + 1)) wy) := ⟨j + 1, hlt, by go_num, HSTEP.out (.inl hq), HBY.out⟩
                  clear HBY hq C5 C6 CX CY HBR HSTEP
                  go_wp2_with fail
                  go_roundw
                  case rel =>
                    go_light
                    have key := KEY.out
                    first | exact key | ((repeat apply Exists.intro); exact ⟨key, rfl⟩)
                  case measure => simp [intOf]; omega
                | false =>
                  refine Free.wp_region_free 22 [(14, .det (.string dx)), (19, .det (.string dy))] (fun w2 => Below w.heap.size w w2 ∧ True) (by kernel_rfl) (by kernel_rfl) ?_ ⟨HBR.out.drew, trivial⟩ (fun _ _ h g => ⟨h.1.trans (Below.mono g h.1.size), trivial⟩) ?_
                  · intro j mk r hf
                    simp only [Free.find] at hf
                    repeat' split at hf
                    all_goals (first | cases hf | skip)
                  simp only [List.take_succ_cons, List.take_zero]
                  iterate 3 (apply Free.chain_still (by first | exact Free.wanted_of rfl rfl rfl | rfl) rfl; (intro w' hB hA; obtain ⟨qT, qU⟩ := hB; clear hA  qT qU; go_light; go_simp <;> rfl); (try simp only [Act.put, List.setIfInBounds_toArray, List.set_cons_succ, List.set_cons_zero]))
                  apply Free.chain_still (by first | exact Free.wanted_of rfl rfl rfl | rfl) rfl
                  · intro w' hB hA
                    exact exec_entry (x := x') rfl rfl (CX.out w' hB.1)
                  simp only [Act.put, List.setIfInBounds_toArray, List.set_cons_succ, List.set_cons_zero]
                  iterate 3 (apply Free.chain_still (by first | exact Free.wanted_of rfl rfl rfl | rfl) rfl; (intro w' hB hA; obtain ⟨qT, qU⟩ := hB; clear hA  qT qU; go_light; go_simp <;> rfl); (try simp only [Act.put, List.setIfInBounds_toArray, List.set_cons_succ, List.set_cons_zero]))
                  apply Free.chain_still (by first | exact Free.wanted_of rfl rfl rfl | rfl) rfl
                  · intro w' hB hA
                    exact exec_entry (x := y') rfl rfl (CY.out w' hB.1)
                  simp only [Act.put, List.setIfInBounds_toArray, List.set_cons_succ, List.set_cons_zero]
                  apply Free.chain_still (v := .bool true) (by first | exact Free.wanted_of rfl rfl rfl | rfl) rfl
                  · intro w' hB hA
                    exact exec_neqV (x := x') (y := y') rfl rfl rfl (by rw [hq]; rfl)
                  simp only [Act.put, List.setIfInBounds_toArray, List.set_cons_succ, List.set_cons_zero]
                  clear hq
                  iterate 4 (apply Free.chain_still (by first | exact Free.wanted_of rfl rfl rfl | rfl) rfl; (intro w' hB hA; obtain ⟨qT, qU⟩ := hB; clear hA  qT qU; go_light; go_simp <;> rfl); (try simp only [Act.put, List.setIfInBounds_toArray, List.set_cons_succ, List.set_cons_zero]))
                  apply Free.chain_still (by first | exact Free.wanted_of rfl rfl rfl | rfl) rfl
                  · intro w' hB hA
                    exact exec_entry (x := x') rfl rfl (CX.out w' hB.1)
                  simp only [Act.put, List.setIfInBounds_toArray, List.set_cons_succ, List.set_cons_zero]
                  apply Free.chain_det (by first | exact Free.wanted_of rfl rfl rfl | rfl) rfl
                  · intro w' hB hA
                    refine Free.opRun_call (f := 22) (args := #[.agg (encE x').toArray]) (by clear hB hA; go_simp <;> rfl) ?_
                    refine (C5.out w').mono ?_
                    rintro e w3 ⟨rfl, hb3⟩
                    exact ⟨_, rfl, hb3, rfl⟩
                  simp only [Act.put, List.setIfInBounds_toArray, List.set_cons_succ, List.set_cons_zero]
                  iterate 3 (apply Free.chain_still (by first | exact Free.wanted_of rfl rfl rfl | rfl) rfl; (intro w' hB hA; obtain ⟨qT, qU⟩ := hB; clear hA  qT qU; go_light; go_simp <;> rfl); (try simp only [Act.put, List.setIfInBounds_toArray, List.set_cons_succ, List.set_cons_zero]))
                  apply Free.chain_still (by first | exact Free.wanted_of rfl rfl rfl | rfl) rfl
                  · intro w' hB hA
                    exact exec_entry (x := y') rfl rfl (CY.out w' hB.1)
                  simp only [Act.put, List.setIfInBounds_toArray, List.set_cons_succ, List.set_cons_zero]
                  apply Free.chain_det (by first | exact Free.wanted_of rfl rfl rfl | rfl) rfl
                  · intro w' hB hA
                    refine Free.opRun_call (f := 22) (args := #[.agg (encE y').toArray]) (by clear hB hA; go_simp <;> rfl) ?_
                    refine (C6.out w').mono ?_
                    rintro e w3 ⟨rfl, hb3⟩
                    exact ⟨_, rfl, hb3, rfl⟩
                  simp only [Act.put, List.setIfInBounds_toArray, List.set_cons_succ, List.set_cons_zero]
                  iterate 2 (apply Free.chain_still (by first | exact Free.wanted_of rfl rfl rfl | rfl) rfl; (intro w' hB hA; obtain ⟨qT, qU⟩ := hB; clear hA  qT qU; go_light; go_simp <;> rfl); (try simp only [Act.put, List.setIfInBounds_toArray, List.set_cons_succ, List.set_cons_zero]))
                  apply Free.chain_nil
                  intro wy hBz _ _
                  have HBY := Lib.hid hBz.1
                  simp only [List.drop_succ_cons, List.drop_zero]
                  clear hBz
                  cases hs : (dx.toList == dy.toList) with
                  | true =>
                    clear hs C5 C6 CX CY HBR HSTEP
                    go_wp2_with fail
                    go_ret
                    exact ⟨rfl, HBY.out⟩
                  | false =>
                    have KEY : Hid (RSA w l m k (.int .i64 ((j : Int) + 1)) wy) := ⟨j + 1, hlt, by go_num, HSTEP.out (.inr hs), HBY.out⟩
                    clear HBY hs C5 C6 CX CY HBR HSTEP
                    go_wp2_with fail
                    go_roundw
                    case rel =>
                      go_light
                      have key := KEY.out
                      first | exact key | ((repeat apply Exists.intro); exact ⟨key, rfl⟩)
                    case measure => simp [intOf]; omega
              · have hjk : j = k := by omega
                subst hjk
                have CS2 : Hid (∀ w', Below w.heap.size w w' → Calls Tryd.prog 28 #[.slice (some ⟨bb, off, none⟩) j c, .slice (some ⟨b2, o2, none⟩) j c'] w' fun e w2 => e = .returned (.bool true) ∧ Below w'.heap.size w' w2) := fun w' hb => by
                  have := CS.out w' hb
                  rw [SB2.out hd] at this; exact this
                have HBR := Lib.hid hbr
                clear hbr hd CS SB2
                go_wp2_with fail
                refine Free.wp_region_free 10 [(8, .det (.bool true))] (fun w2 => Below w.heap.size w w2 ∧ True) (by kernel_rfl) (by kernel_rfl) ?_ ⟨HBR.out.drew, trivial⟩ (fun _ _ h g => ⟨h.1.trans (Below.mono g h.1.size), trivial⟩) ?_
                · intro j mk r hf
                  simp only [Free.find] at hf
                  repeat' split at hf
                  all_goals (first | cases hf | skip)
                simp only [List.take_succ_cons, List.take_zero]
                iterate 8 (apply Free.chain_still (by first | exact Free.wanted_of rfl rfl rfl | rfl) rfl; (intro w' hB hA; obtain ⟨qT, qU⟩ := hB; clear hA  qT qU; go_light; go_simp <;> rfl); (try simp only [Act.put, List.setIfInBounds_toArray, List.set_cons_succ, List.set_cons_zero]))
                apply Free.chain_det (by first | exact Free.wanted_of rfl rfl rfl | rfl) rfl
                · intro w' hB hA
                  refine Free.opRun_call (f := 28) (args := #[.slice (some ⟨bb, off, none⟩) j c, .slice (some ⟨b2, o2, none⟩) j c']) (by clear hB hA; go_simp <;> rfl) ?_
                  refine (CS2.out w' hB.1).mono ?_
                  rintro e w3 ⟨rfl, hb3⟩
                  exact ⟨_, rfl, hb3, rfl⟩
                simp only [Act.put, List.setIfInBounds_toArray, List.set_cons_succ, List.set_cons_zero]
                iterate 1 (apply Free.chain_still (by first | exact Free.wanted_of rfl rfl rfl | rfl) rfl; (intro w' hB hA; obtain ⟨qT, qU⟩ := hB; clear hA  qT qU; go_light; go_simp <;> rfl); (try simp only [Act.put, List.setIfInBounds_toArray, List.set_cons_succ, List.set_cons_zero]))
                apply Free.chain_nil
                intro wy hBz _ _
                have HBY := Lib.hid hBz.1
                simp only [List.drop_succ_cons, List.drop_zero]
                clear hBz
                clear CS2 HBR
                go_wp2_with fail
                go_ret
                exact ⟨rfl, HBY.out⟩
        · rw [chk_ok hc] at C3
          obtain ⟨fe, efe⟩ : ∃ fe, fe = chk m house pub := ⟨_, rfl⟩
          rw [← efe] at D3 hc'
          obtain ⟨fe1, fe2⟩ := fe
          have hcb : (fe1 != 0) = true := by simpa using hc'
          clear h h' ho ho' hT hfew hfew' hf hf' hc hc' efe hsm hsm' emn
          go_enter Tryd.func7, Tryd.ntmps7
          go_wp2_with fail
          refine (head31_any _ HT.out).mono ?_
          rintro e w1 ⟨rfl, hb1⟩
          have HB1 := Lib.hid hb1
          clear hb1
          go_wp2_with fail
          refine (C1.out _ HB1.out).mono ?_
          rintro e w' ⟨rfl, rfl⟩
          clear C1
          go_wp2_with fail
          refine (D1.out _ HB1.out).mono ?_
          rintro e w' ⟨rfl, rfl⟩
          clear D1
          go_wp2_with fail
          refine (C3.out _ HB1.out).mono ?_
          rintro e w2 ⟨rfl, hb2⟩
          have HB2 := Lib.hid (HB1.out.trans (hb2.mono HB1.out.size))
          clear hb2 HB1 C3
          simp only
          go_wp2_with fail
          refine (D3.out _ HB2.out).mono ?_
          rintro e w3 ⟨rfl, hb3⟩
          have HB3 := Lib.hid (HB2.out.trans (hb3.mono HB2.out.size))
          clear hb3 HB2 D3
          simp only
          go_wp2_with fail
          refine Free.wp_region_free 17 [] (fun w2 => Below w.heap.size w w2 ∧ True) (by kernel_rfl) (by kernel_rfl) ?_ ⟨HB3.out.drew, trivial⟩ (fun _ _ h g => ⟨h.1.trans (Below.mono g h.1.size), trivial⟩) ?_
          · intro j mk r hf
            simp only [Free.find] at hf
            repeat' split at hf
            all_goals (first | cases hf | skip)
          simp only [List.take_succ_cons, List.take_zero]
          iterate 7 (apply Free.chain_still (by first | exact Free.wanted_of rfl rfl rfl | rfl) rfl; (intro w' hB hA; obtain ⟨qT, qU⟩ := hB; clear hA  qT qU; go_light; go_simp <;> rfl); (try simp only [Act.put, List.setIfInBounds_toArray, List.set_cons_succ, List.set_cons_zero]))
          iterate 9 (apply Free.chain_skip (by exact unwanted2 rfl rfl rfl rfl); simp only [Act.put, List.setIfInBounds_toArray, List.set_cons_succ, List.set_cons_zero])
          iterate 1 (apply Free.chain_still (by first | exact Free.wanted_of rfl rfl rfl | rfl) rfl; (intro w' hB hA; obtain ⟨qT, qU⟩ := hB; clear hA  qT qU; go_light; go_simp <;> rfl); (try simp only [Act.put, List.setIfInBounds_toArray, List.set_cons_succ, List.set_cons_zero]))
          apply Free.chain_nil
          intro wy hBz _ _
          have HBY := Lib.hid hBz.1
          simp only [List.drop_succ_cons, List.drop_zero]
          clear hBz
          go_wp2_with fail
          go_ret
          exact ⟨rfl, HBY.out⟩
      · obtain ⟨fe, efe⟩ : ∃ fe, fe = chk l house pub := ⟨_, rfl⟩
        rw [← efe] at C3 hc
        obtain ⟨fe1, fe2⟩ := fe
        obtain ⟨ge, ege⟩ : ∃ ge, ge = chk m house pub := ⟨_, rfl⟩
        rw [← ege] at D3
        obtain ⟨ge1, ge2⟩ := ge
        have hcb : (fe1 != 0) = true := by simpa using hc
        clear h h' ho ho' hT hfew hfew' hf hf' hc efe ege hsm hsm' emn
        go_enter Tryd.func7, Tryd.ntmps7
        go_wp2_with fail
        refine (head31_any _ HT.out).mono ?_
        rintro e w1 ⟨rfl, hb1⟩
        have HB1 := Lib.hid hb1
        clear hb1
        go_wp2_with fail
        refine (C1.out _ HB1.out).mono ?_
        rintro e w' ⟨rfl, rfl⟩
        clear C1
        go_wp2_with fail
        refine (D1.out _ HB1.out).mono ?_
        rintro e w' ⟨rfl, rfl⟩
        clear D1
        go_wp2_with fail
        refine (C3.out _ HB1.out).mono ?_
        rintro e w2 ⟨rfl, hb2⟩
        have HB2 := Lib.hid (HB1.out.trans (hb2.mono HB1.out.size))
        clear hb2 HB1 C3
        simp only
        go_wp2_with fail
        refine (D3.out _ HB2.out).mono ?_
        rintro e w3 ⟨rfl, hb3⟩
        have HB3 := Lib.hid (HB2.out.trans (hb3.mono HB2.out.size))
        clear hb3 HB2 D3
        simp only
        go_wp2_with fail
        refine Free.wp_region_free 17 [] (fun w2 => Below w.heap.size w w2 ∧ True) (by kernel_rfl) (by kernel_rfl) ?_ ⟨HB3.out.drew, trivial⟩ (fun _ _ h g => ⟨h.1.trans (Below.mono g h.1.size), trivial⟩) ?_
        · intro j mk r hf
          simp only [Free.find] at hf
          repeat' split at hf
          all_goals (first | cases hf | skip)
        simp only [List.take_succ_cons, List.take_zero]
        iterate 3 (apply Free.chain_still (by first | exact Free.wanted_of rfl rfl rfl | rfl) rfl; (intro w' hB hA; obtain ⟨qT, qU⟩ := hB; clear hA  qT qU; go_light; go_simp <;> rfl); (try simp only [Act.put, List.setIfInBounds_toArray, List.set_cons_succ, List.set_cons_zero]))
        iterate 2 (apply Free.chain_skip (by exact unwanted2 rfl rfl rfl rfl); simp only [Act.put, List.setIfInBounds_toArray, List.set_cons_succ, List.set_cons_zero])
        iterate 2 (apply Free.chain_still (by first | exact Free.wanted_of rfl rfl rfl | rfl) rfl; (intro w' hB hA; obtain ⟨qT, qU⟩ := hB; clear hA  qT qU; go_light; go_simp <;> rfl); (try simp only [Act.put, List.setIfInBounds_toArray, List.set_cons_succ, List.set_cons_zero]))
        iterate 9 (apply Free.chain_skip (by exact unwanted2 rfl rfl rfl rfl); simp only [Act.put, List.setIfInBounds_toArray, List.set_cons_succ, List.set_cons_zero])
        iterate 1 (apply Free.chain_still (by first | exact Free.wanted_of rfl rfl rfl | rfl) rfl; (intro w' hB hA; obtain ⟨qT, qU⟩ := hB; clear hA  qT qU; go_light; go_simp <;> rfl); (try simp only [Act.put, List.setIfInBounds_toArray, List.set_cons_succ, List.set_cons_zero]))
        apply Free.chain_nil
        intro wy hBz _ _
        have HBY := Lib.hid hBz.1
        simp only [List.drop_succ_cons, List.drop_zero]
        clear hBz
        go_wp2_with fail
        go_ret
        exact ⟨rfl, HBY.out⟩
    · have hff : fewB m 14 = false := by cases hb : fewB m 14 with | true => exact absurd hb hfew' | false => rfl
      rw [hff] at D1
      clear h h' ho ho' hT hfew hfew' hff
      go_enter Tryd.func7, Tryd.ntmps7
      go_wp2_with fail
      refine (head31_any _ HT.out).mono ?_
      rintro e w1 ⟨rfl, hb1⟩
      have HB1 := Lib.hid hb1
      clear hb1
      go_wp2_with fail
      refine (C1.out _ HB1.out).mono ?_
      rintro e w' ⟨rfl, rfl⟩
      clear C1
      go_wp2_with fail
      refine (D1.out _ HB1.out).mono ?_
      rintro e w' ⟨rfl, rfl⟩
      clear D1
      go_wp2_with fail
      go_ret
      exact ⟨rfl, HB1.out⟩
  · have hff : fewB l 14 = false := by cases hb : fewB l 14 with | true => exact absurd hb hfew | false => rfl
    rw [hff] at C1
    clear h h' ho ho' hT hfew hff D1
    go_enter Tryd.func7, Tryd.ntmps7
    go_wp2_with fail
    refine (head31_any _ HT.out).mono ?_
    rintro e w1 ⟨rfl, hb1⟩
    have HB1 := Lib.hid hb1
    clear hb1
    go_wp2_with fail
    refine (C1.out _ HB1.out).mono ?_
    rintro e w' ⟨rfl, rfl⟩
    clear C1
    go_wp2_with fail
    go_ret
    exact ⟨rfl, HB1.out⟩
end Go.Proofs.YtaaenobckipfkaaDoor
