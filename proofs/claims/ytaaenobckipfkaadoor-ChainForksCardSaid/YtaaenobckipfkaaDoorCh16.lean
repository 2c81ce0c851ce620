/- The law ChainForks, walked. Condition: the variables of digest and of strconv hold their numbers. -/
import Derived.Test.YtaaenobckipfkaaDoorChE
import Derived.Test.YtaaenobckipfkaaDoorCh14
namespace Go.Proofs.YtaaenobckipfkaaDoor
open Go.RowKit Go.Blk Go.Opn Go.OpenShut

theorem fork_of {l m : List E31} {house pub : Int} (hl : (chk l house pub).1 = 0) (hm : (chk m house pub).1 = 0) {k : Nat} {x y : E31} (hx : l[k]? = some x) (hy : m[k]? = some y) (hne : eqB x y = false) : forkB x y pub = true := by
  obtain ⟨a1, a2, a3, _⟩ := chk_head hl k x hx
  obtain ⟨b1, b2, b3, _⟩ := chk_head hm k y hy
  rw [fork_yes hne (a1.trans b1.symm) (a2.trans b2.symm), a3, b3]; rfl
def RFK (w : World) (n : Nat) (i : Value) (wr : World) : Prop := ∃ k : Nat, k ≤ n ∧ i = .int .i64 k ∧ Below w.heap.size w wr
set_option maxRecDepth 100000 in
set_option maxHeartbeats 4000000 in
theorem forks31_any (A A' : Option Addr) (c c' : Nat) (l m : List E31) (house pub : Int) (w : World) (hl : l.length ≤ 9223372036854775807) (hlc : l.length ≤ c) (h : SL w 7 encE A l) (ho : ∀ a ∈ l, a.Ok)
    (hl' : m.length ≤ 9223372036854775807) (hlc' : m.length ≤ c') (h' : SL w 7 encE A' m) (ho' : ∀ a ∈ m, a.Ok)
    (_h1 : (Lit.int .i64 house).wf = true) (_h2 : (Lit.int .i64 pub).wf = true) (hT : HasT w) :
    Calls Tryd.prog 8 #[.slice A l.length c, .slice A' m.length c', .int .i64 house, .int .i64 pub] w fun r w' => r = .returned (.bool true) ∧ Below w.heap.size w w' := by
  clear _h1 _h2
  have C1 : Hid (∀ w', Below w.heap.size w w' → Calls Tryd.prog 24 #[.slice A l.length c, .int .i64 14] w' fun e w2 => e = .returned (.bool (fewB l 14)) ∧ w' = w2) := fun w' hb => few_any A c 14 l w' (h.below hb (Nat.le_refl _)) hl
  have D1 : Hid (∀ w', Below w.heap.size w w' → Calls Tryd.prog 24 #[.slice A' m.length c', .int .i64 14] w' fun e w2 => e = .returned (.bool (fewB m 14)) ∧ w' = w2) := fun w' hb => few_any A' c' 14 m w' (h'.below hb (Nat.le_refl _)) hl'
  have HT := Lib.hid hT
  by_cases hfew : fewB l 14 = true
  · rw [hfew] at C1
    by_cases hfew' : fewB m 14 = true
    · rw [hfew'] at D1
      obtain ⟨hf, hl14⟩ := few_of ho hfew
      obtain ⟨hf', hl14'⟩ := few_of ho' hfew'
      have C3 : Hid (∀ w', Below w.heap.size w w' → Calls Tryd.prog 17 #[.slice A l.length c, .int .i64 house, .int .i64 pub] w' (ChkPost w' (chk l house pub))) := fun w' hb => check_any A c l house pub w' (h.below hb (Nat.le_refl _)) hl hlc hf (hT.below hb (Nat.le_refl _))
      have D3 : Hid (∀ w', Below w.heap.size w w' → Calls Tryd.prog 17 #[.slice A' m.length c', .int .i64 house, .int .i64 pub] w' (ChkPost w' (chk m house pub))) := fun w' hb => check_any A' c' m house pub w' (h'.below hb (Nat.le_refl _)) hl' hlc' hf' (hT.below hb (Nat.le_refl _))
      by_cases hc : (chk l house pub).1 = 0
      · by_cases hc' : (chk m house pub).1 = 0
        · rw [chk_ok hc] at C3
          rw [chk_ok hc'] at D3
          have FO : Hid (∀ (k : Nat) (x y : E31), l[k]? = some x → m[k]? = some y → eqB x y = false → forkB x y pub = true) := fun k x y hx hy he => fork_of hc hc' hx hy he
          have HS := Lib.hid h
          have HS' := Lib.hid h'
          have HF := Lib.hid hf
          have HF' := Lib.hid hf'
          clear h h' ho ho' hT hfew hfew' hf hf' hc hc'
          go_enter Tryd.func8, Tryd.ntmps8
          go_wp2_with fail
          refine (head31_any _ HT.out).mono ?_
          rintro e w1 ⟨rfl, hb1⟩
          have HB1 := Lib.hid hb1
          clear hb1
          go_wp2_with fail
          refine (C1.out _ HB1.out).mono ?_
          rintro e w' ⟨rfl, rfl⟩
          clear C1
          go_wp2_with fail
          refine (D1.out _ HB1.out).mono ?_
          rintro e w' ⟨rfl, rfl⟩
          clear D1
          go_wp2_with fail
          refine (C3.out _ HB1.out).mono ?_
          rintro e w2 ⟨rfl, hb2⟩
          have HB2 := Lib.hid (HB1.out.trans (hb2.mono HB1.out.size))
          clear hb2 HB1 C3
          simp only
          go_wp2_with fail
          refine (D3.out _ HB2.out).mono ?_
          rintro e w3 ⟨rfl, hb3⟩
          have HB3 := Lib.hid (HB2.out.trans (hb3.mono HB2.out.size))
          clear hb3 HB2 D3
          simp only
          go_wp2_with fail
          have HST : Hid (RFK w (min l.length m.length) (.int .i64 0) w3) := ⟨0, Nat.zero_le _, rfl, HB3.out⟩
          clear HB3
          go_loopw [14] (fun i wr => RFK w (min l.length m.length) i wr) (fun i _ => l.length - (intOf i).toNat)
          case atStart => exact HST.out
          case round =>
            clear HST
            obtain ⟨k, hk, rfl, hbr⟩ := hrel
            have hmin : min (l.length : Int) (m.length : Int) = ((min l.length m.length : Nat) : Int) := by omega
            by_cases hlt : k < min l.length m.length
            · obtain ⟨x, hx⟩ : ∃ x, l[k]? = some x := ⟨_, List.getElem?_eq_getElem (by omega)⟩
              obtain ⟨y, hy⟩ : ∃ y, m[k]? = some y := ⟨_, List.getElem?_eq_getElem (by omega)⟩
              have fo := FO.out k x y hx hy
              obtain ⟨bb, off, rfl, _⟩ := HS.out.at_ hx
              obtain ⟨b2, o2, rfl, _⟩ := HS'.out.at_ hy
              have CX : Hid (∀ w', Below w.heap.size w w' → ∀ p u, (encE x)[p]? = some u → w'.cell? ⟨bb, off + k * 7 + p, none⟩ = some u) := fun w' hb p u hu => by
                obtain ⟨_, _, e1, h1⟩ := (HS.out.below hb (Nat.le_refl _)).at_ hx
                cases e1
                rw [Nat.add_assoc]; exact h1 p u hu
              have CY : Hid (∀ w', Below w.heap.size w w' → ∀ p u, (encE y)[p]? = some u → w'.cell? ⟨b2, o2 + k * 7 + p, none⟩ = some u) := fun w' hb p u hu => by
                obtain ⟨_, _, e1, h1⟩ := (HS'.out.below hb (Nat.le_refl _)).at_ hy
                cases e1
                rw [Nat.add_assoc]; exact h1 p u hu
              obtain ⟨x1, x2, x3⟩ := HF.out x (List.mem_of_getElem? hx)
              obtain ⟨y1, y2, y3⟩ := HF'.out y (List.mem_of_getElem? hy)
              have C5 : Hid (∀ w', Below w.heap.size w w' → Calls Tryd.prog 21 #[.agg (encE x).toArray, .agg (encE y).toArray, .int .i64 pub] w' fun e w2 => e = .returned (.bool (forkB x y pub)) ∧ Below w'.heap.size w' w2) := fun w' hb => fork_any x y pub w' x1 y1 x2 y2 x3 y3 (HT.out.below hb (Nat.le_refl _))
              have C6 : Hid (∀ w', Below w.heap.size w w' → Calls Tryd.prog 21 #[.agg (encE y).toArray, .agg (encE x).toArray, .int .i64 pub] w' fun e w2 => e = .returned (.bool (forkB x y pub)) ∧ Below w'.heap.size w' w2) := fun w' hb => by
                have := fork_any y x pub w' y1 x1 y2 x2 y3 x3 (HT.out.below hb (Nat.le_refl _))
                rw [forkB_symm y x] at this; exact this
              have hki : (k : Int) < ((min l.length m.length : Nat) : Int) := by omega
              have hki2 : (k : Int) < (l.length : Int) := by omega
              have hki3 : (k : Int) < (m.length : Int) := by omega
              have k00 : (0 : Int) ≤ (k : Int) := by omega
              have HBR := Lib.hid hbr
              clear x1 x2 x3 y1 y2 y3 hx hy hbr
              go_wp2_with fail
              refine Free.wp_region_free 9 [] (fun w2 => Below w.heap.size w w2 ∧ True) (by kernel_rfl) (by kernel_rfl) ?_ ⟨HBR.out.drew, trivial⟩ (fun _ _ h g => ⟨h.1.trans (Below.mono g h.1.size), trivial⟩) ?_
              · intro j mk r hf
                simp only [Free.find] at hf
                cases hf
              simp only [List.take_succ_cons, List.take_zero]
              iterate 3 (apply Free.chain_still (by first | exact Free.wanted_of rfl rfl rfl | rfl) rfl; (intro w' hB hA; obtain ⟨qT, qU⟩ := hB; clear hA  qT qU; go_light; go_simp <;> rfl); (try simp only [Act.put, List.setIfInBounds_toArray, List.set_cons_succ, List.set_cons_zero]))
              apply Free.chain_still (by first | exact Free.wanted_of rfl rfl rfl | rfl) rfl
              · intro w' hB hA
                exact exec_entry (x := x) rfl rfl (CX.out w' hB.1)
              simp only [Act.put, List.setIfInBounds_toArray, List.set_cons_succ, List.set_cons_zero]
              iterate 3 (apply Free.chain_still (by first | exact Free.wanted_of rfl rfl rfl | rfl) rfl; (intro w' hB hA; obtain ⟨qT, qU⟩ := hB; clear hA  qT qU; go_light; go_simp <;> rfl); (try simp only [Act.put, List.setIfInBounds_toArray, List.set_cons_succ, List.set_cons_zero]))
              apply Free.chain_still (by first | exact Free.wanted_of rfl rfl rfl | rfl) rfl
              · intro w' hB hA
                exact exec_entry (x := y) rfl rfl (CY.out w' hB.1)
              simp only [Act.put, List.setIfInBounds_toArray, List.set_cons_succ, List.set_cons_zero]
              apply Free.chain_still rfl rfl
              · intro w' hB hA
                exact exec_neq (x := x) (y := y) rfl rfl rfl
              simp only [Act.put, List.setIfInBounds_toArray, List.set_cons_succ, List.set_cons_zero]
              apply Free.chain_nil
              intro wy hBz _ _
              have HBY := Lib.hid hBz.1
              simp only [List.drop_succ_cons, List.drop_zero]
              clear hBz HBR
              cases hq : eqB x y with
              | true =>
                have KEY : Hid (RFK w (min l.length m.length) (.int .i64 ((k : Int) + 1)) wy) := ⟨k + 1, hlt, by go_num, HBY.out⟩
                clear HBY fo hq C5 C6 CX CY
                simp only [Bool.not_true]
                go_wp2_with fail
                go_roundw
                case rel =>
                  go_light
                  have key := KEY.out
                  first | exact key | ((repeat apply Exists.intro); exact ⟨key, rfl⟩)
                case measure => simp [intOf]; omega
              | false =>
                have hfo := fo hq
                rw [hfo] at C5 C6
                clear fo hfo hq
                simp only [Bool.not_false]
                go_wp2_with fail
                refine Free.wp_region_free 25 [(11, .det (.bool true)), (23, .det (.bool true))] (fun w2 => Below w.heap.size w w2 ∧ True) (by kernel_rfl) (by kernel_rfl) ?_ ⟨HBY.out.drew, trivial⟩ (fun _ _ h g => ⟨h.1.trans (Below.mono g h.1.size), trivial⟩) ?_
                · intro j mk r hf
                  simp only [Free.find] at hf
                  repeat' split at hf
                  all_goals (first | cases hf | skip)
                simp only [List.take_succ_cons, List.take_zero]
                iterate 5 (apply Free.chain_still (by first | exact Free.wanted_of rfl rfl rfl | rfl) rfl; (intro w' hB hA; obtain ⟨qT, qU⟩ := hB; clear hA  qT qU; go_light; go_simp <;> rfl); (try simp only [Act.put, List.setIfInBounds_toArray, List.set_cons_succ, List.set_cons_zero]))
                apply Free.chain_still (by first | exact Free.wanted_of rfl rfl rfl | rfl) rfl
                · intro w' hB hA
                  exact exec_entry (x := x) rfl rfl (CX.out w' hB.1)
                simp only [Act.put, List.setIfInBounds_toArray, List.set_cons_succ, List.set_cons_zero]
                iterate 3 (apply Free.chain_still (by first | exact Free.wanted_of rfl rfl rfl | rfl) rfl; (intro w' hB hA; obtain ⟨qT, qU⟩ := hB; clear hA  qT qU; go_light; go_simp <;> rfl); (try simp only [Act.put, List.setIfInBounds_toArray, List.set_cons_succ, List.set_cons_zero]))
                apply Free.chain_still (by first | exact Free.wanted_of rfl rfl rfl | rfl) rfl
                · intro w' hB hA
                  exact exec_entry (x := y) rfl rfl (CY.out w' hB.1)
                simp only [Act.put, List.setIfInBounds_toArray, List.set_cons_succ, List.set_cons_zero]
                iterate 1 (apply Free.chain_still (by first | exact Free.wanted_of rfl rfl rfl | rfl) rfl; (intro w' hB hA; obtain ⟨qT, qU⟩ := hB; clear hA  qT qU; go_light; go_simp <;> rfl); (try simp only [Act.put, List.setIfInBounds_toArray, List.set_cons_succ, List.set_cons_zero]))
                apply Free.chain_det (by first | exact Free.wanted_of rfl rfl rfl | rfl) rfl
                · intro w' hB hA
                  refine Free.opRun_call (f := 21) (args := #[.agg (encE x).toArray, .agg (encE y).toArray, .int .i64 pub]) (by clear hB hA; go_simp <;> rfl) ?_
                  refine (C5.out _ hB.1).mono ?_
                  rintro e w3 ⟨rfl, hb3⟩
                  exact ⟨_, rfl, hb3, rfl⟩
                simp only [Act.put, List.setIfInBounds_toArray, List.set_cons_succ, List.set_cons_zero]
                iterate 5 (apply Free.chain_still (by first | exact Free.wanted_of rfl rfl rfl | rfl) rfl; (intro w' hB hA; obtain ⟨qT, qU⟩ := hB; clear hA  qT qU; go_light; go_simp <;> rfl); (try simp only [Act.put, List.setIfInBounds_toArray, List.set_cons_succ, List.set_cons_zero]))
                apply Free.chain_still (by first | exact Free.wanted_of rfl rfl rfl | rfl) rfl
                · intro w' hB hA
                  exact exec_entry (x := y) rfl rfl (CY.out w' hB.1)
                simp only [Act.put, List.setIfInBounds_toArray, List.set_cons_succ, List.set_cons_zero]
                iterate 3 (apply Free.chain_still (by first | exact Free.wanted_of rfl rfl rfl | rfl) rfl; (intro w' hB hA; obtain ⟨qT, qU⟩ := hB; clear hA  qT qU; go_light; go_simp <;> rfl); (try simp only [Act.put, List.setIfInBounds_toArray, List.set_cons_succ, List.set_cons_zero]))
                apply Free.chain_still (by first | exact Free.wanted_of rfl rfl rfl | rfl) rfl
                · intro w' hB hA
                  exact exec_entry (x := x) rfl rfl (CX.out w' hB.1)
                simp only [Act.put, List.setIfInBounds_toArray, List.set_cons_succ, List.set_cons_zero]
                iterate 1 (apply Free.chain_still (by first | exact Free.wanted_of rfl rfl rfl | rfl) rfl; (intro w' hB hA; obtain ⟨qT, qU⟩ := hB; clear hA  qT qU; go_light; go_simp <;> rfl); (try simp only [Act.put, List.setIfInBounds_toArray, List.set_cons_succ, List.set_cons_zero]))
                apply Free.chain_det (by first | exact Free.wanted_of rfl rfl rfl | rfl) rfl
                · intro w' hB hA
                  refine Free.opRun_call (f := 21) (args := #[.agg (encE y).toArray, .agg (encE x).toArray, .int .i64 pub]) (by clear hB hA; go_simp <;> rfl) ?_
                  refine (C6.out _ hB.1).mono ?_
                  rintro e w3 ⟨rfl, hb3⟩
                  exact ⟨_, rfl, hb3, rfl⟩
                simp only [Act.put, List.setIfInBounds_toArray, List.set_cons_succ, List.set_cons_zero]
                iterate 1 (apply Free.chain_still (by first | exact Free.wanted_of rfl rfl rfl | rfl) rfl; (intro w' hB hA; obtain ⟨qT, qU⟩ := hB; clear hA  qT qU; go_light; go_simp <;> rfl); (try simp only [Act.put, List.setIfInBounds_toArray, List.set_cons_succ, List.set_cons_zero]))
                apply Free.chain_nil
                intro wz hBz _ _
                have HBZ := Lib.hid hBz.1
                simp only [List.drop_succ_cons, List.drop_zero]
                clear hBz HBY
                go_wp2_with fail
                go_ret
                exact ⟨rfl, HBZ.out⟩
            · have hki : ¬ ((k : Int) < ((min l.length m.length : Nat) : Int)) := by omega
              have HBR := Lib.hid hbr
              clear hbr
              go_wp2_with fail
              go_ret
              exact ⟨rfl, HBR.out⟩
        · rw [chk_ok hc] at C3
          obtain ⟨fe, efe⟩ : ∃ fe, fe = chk m house pub := ⟨_, rfl⟩
          rw [← efe] at D3 hc'
          obtain ⟨fe1, fe2⟩ := fe
          have hcb : (fe1 != 0) = true := by simpa using hc'
          clear h h' ho ho' hT hfew hfew' hf hf' hc hc' efe
          go_enter Tryd.func8, Tryd.ntmps8
          go_wp2_with fail
          refine (head31_any _ HT.out).mono ?_
          rintro e w1 ⟨rfl, hb1⟩
          have HB1 := Lib.hid hb1
          clear hb1
          go_wp2_with fail
          refine (C1.out _ HB1.out).mono ?_
          rintro e w' ⟨rfl, rfl⟩
          clear C1
          go_wp2_with fail
          refine (D1.out _ HB1.out).mono ?_
          rintro e w' ⟨rfl, rfl⟩
          clear D1
          go_wp2_with fail
          refine (C3.out _ HB1.out).mono ?_
          rintro e w2 ⟨rfl, hb2⟩
          have HB2 := Lib.hid (HB1.out.trans (hb2.mono HB1.out.size))
          clear hb2 HB1 C3
          simp only
          go_wp2_with fail
          refine (D3.out _ HB2.out).mono ?_
          rintro e w3 ⟨rfl, hb3⟩
          have HB3 := Lib.hid (HB2.out.trans (hb3.mono HB2.out.size))
          clear hb3 HB2 D3
          simp only
          go_wp2_with fail
          go_ret
          exact ⟨rfl, HB3.out⟩
      · obtain ⟨fe, efe⟩ : ∃ fe, fe = chk l house pub := ⟨_, rfl⟩
        rw [← efe] at C3 hc
        obtain ⟨fe1, fe2⟩ := fe
        obtain ⟨ge, ege⟩ : ∃ ge, ge = chk m house pub := ⟨_, rfl⟩
        rw [← ege] at D3
        obtain ⟨ge1, ge2⟩ := ge
        have hcb : (fe1 != 0) = true := by simpa using hc
        clear h h' ho ho' hT hfew hfew' hf hf' hc efe ege
        go_enter Tryd.func8, Tryd.ntmps8
        go_wp2_with fail
        refine (head31_any _ HT.out).mono ?_
        rintro e w1 ⟨rfl, hb1⟩
        have HB1 := Lib.hid hb1
        clear hb1
        go_wp2_with fail
        refine (C1.out _ HB1.out).mono ?_
        rintro e w' ⟨rfl, rfl⟩
        clear C1
        go_wp2_with fail
        refine (D1.out _ HB1.out).mono ?_
        rintro e w' ⟨rfl, rfl⟩
        clear D1
        go_wp2_with fail
        refine (C3.out _ HB1.out).mono ?_
        rintro e w2 ⟨rfl, hb2⟩
        have HB2 := Lib.hid (HB1.out.trans (hb2.mono HB1.out.size))
        clear hb2 HB1 C3
        simp only
        go_wp2_with fail
        refine (D3.out _ HB2.out).mono ?_
        rintro e w3 ⟨rfl, hb3⟩
        have HB3 := Lib.hid (HB2.out.trans (hb3.mono HB2.out.size))
        clear hb3 HB2 D3
        simp only
        go_wp2_with fail
        go_ret
        exact ⟨rfl, HB3.out⟩
    · have hff : fewB m 14 = false := by cases hb : fewB m 14 with | true => exact absurd hb hfew' | false => rfl
      rw [hff] at D1
      clear h h' ho ho' hT hfew hfew' hff
      go_enter Tryd.func8, Tryd.ntmps8
      go_wp2_with fail
      refine (head31_any _ HT.out).mono ?_
      rintro e w1 ⟨rfl, hb1⟩
      have HB1 := Lib.hid hb1
      clear hb1
      go_wp2_with fail
      refine (C1.out _ HB1.out).mono ?_
      rintro e w' ⟨rfl, rfl⟩
      clear C1
      go_wp2_with fail
      refine (D1.out _ HB1.out).mono ?_
      rintro e w' ⟨rfl, rfl⟩
      clear D1
      go_wp2_with fail
      go_ret
      exact ⟨rfl, HB1.out⟩
  · have hff : fewB l 14 = false := by cases hb : fewB l 14 with | true => exact absurd hb hfew | false => rfl
    rw [hff] at C1
    clear h h' ho ho' hT hfew hff D1
    go_enter Tryd.func8, Tryd.ntmps8
    go_wp2_with fail
    refine (head31_any _ HT.out).mono ?_
    rintro e w1 ⟨rfl, hb1⟩
    have HB1 := Lib.hid hb1
    clear hb1
    go_wp2_with fail
    refine (C1.out _ HB1.out).mono ?_
    rintro e w' ⟨rfl, rfl⟩
    clear C1
    go_wp2_with fail
    go_ret
    exact ⟨rfl, HB1.out⟩
end Go.Proofs.YtaaenobckipfkaaDoor
