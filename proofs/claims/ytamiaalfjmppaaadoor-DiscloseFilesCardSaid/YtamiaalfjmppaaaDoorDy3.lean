/- The law DiscloseFiles, walked. Condition: the variables of digest and of strconv hold their numbers. -/
import Derived.Test.YtamiaalfjmppaaaDoorDy2
import Derived.Test.YtamiaalfjmppaaaDoorDw2
namespace Go.Proofs.YtamiaalfjmppaaaDoor
open Go.RowKit Go.Blk Go.Sg Go.Opn Go.Di Go.Apl Go.Rf

theorem fac_cell {w : World} {b off i : Nat} {l : List Fac} {x : Fac} (h : SL w 6 encF (some ⟨b, off, none⟩) l) (hx : l[i]? = some x) : ∀ p u, (encF x)[p]? = some u → w.cell? ⟨b, off + i * 6 + p, none⟩ = some u := by
  obtain ⟨b', off', e1, hc⟩ := h.at_ hx
  cases e1
  intro p u hu
  have := hc p u hu
  rw [← Nat.add_assoc] at this; exact this
theorem sl_addr {w : World} {A : Option Addr} {l : List Fac} {i : Nat} {x : Fac} (h : SL w 6 encF A l) (hx : l[i]? = some x) : ∃ b off, A = some ⟨b, off, none⟩ := by
  obtain ⟨b, off, e, _⟩ := h.at_ hx
  exact ⟨b, off, e⟩
/-- No two of the first facts have one Ref. -/
def NoRef (l : List Fac) (a : Nat) : Prop := ∀ x y f g, x < a → y < x → l[x]? = some f → l[y]? = some g → f.ref ≠ g.ref
def NoRef1 (l : List Fac) (a b : Nat) : Prop := ∀ y f g, y < b → l[a]? = some f → l[y]? = some g → f.ref ≠ g.ref
theorem noRef_uniq {l : List Fac} (h : NoRef l l.length) {i j : Nat} {f g : Fac} (hi : l[i]? = some f) (hj : l[j]? = some g) (he : f.ref = g.ref) : i = j := by
  have h1 := (List.getElem?_eq_some_iff.1 hi).1
  have h2 := (List.getElem?_eq_some_iff.1 hj).1
  rcases Nat.lt_trichotomy i j with hlt | rfl | hlt
  · exact absurd he.symm (h j i g f h2 hlt hj hi)
  · rfl
  · exact absurd he (h i j f g h1 hlt hi hj)
def RNo (w : World) (l : List Fac) (i : Value) (wr : World) : Prop := ∃ k : Nat, k ≤ l.length ∧ i = .int .i64 (k : Int) ∧ NoRef l k ∧ Below w.heap.size w wr
def RNo1 (w : World) (l : List Fac) (a : Nat) (i : Value) (wr : World) : Prop := ∃ k : Nat, k ≤ a ∧ i = .int .i64 (k : Int) ∧ NoRef1 l a k ∧ Below w.heap.size w wr
def RAt (V w : World) (n j : Nat) (i a : Value) (wr : World) : Prop := ∃ k : Nat, k ≤ n ∧ i = .int .i64 (k : Int) ∧ a = .int .i64 (if j < k then (j : Int) else -1) ∧ Below V.heap.size V wr ∧ Below w.heap.size w wr
set_option maxRecDepth 100000 in
set_option maxHeartbeats 4000000 in
theorem files34_law (house : Int) (A B D : Option Addr) (c d f : Nat) (l : List Fac) (os : List (Int × Int)) (salts : List ByteArray) (w : World) (hl1 : l.length ≤ 9223372036854775807) (hl2 : os.length ≤ 9223372036854775807) (hs1 : SL w 6 encF A l) (hs2 : SL w 2 encBf B os) (ho : ∀ a ∈ l, a.Ok)
    (hl3 : salts.length ≤ 9223372036854775807) (hs3 : SL w 1 encS D salts) (hT : HasT w) :
    Calls Tryd.prog 10 #[.agg #[.int .i64 house, .slice A l.length c, .slice B os.length d], .slice D salts.length f] w fun r w' => r = .returned (.bool true) ∧ Below w.heap.size w w' := by
  obtain ⟨R, eR⟩ : ∃ R : Ending → World → Prop, R = fun r w' => r = .returned (.bool true) ∧ Below w.heap.size w w' := ⟨_, rfl⟩
  rw [← eR]
  have FIN0 : Hid (∀ w', Below w.heap.size w w' → R (.returned (.bool true)) w') := fun w' hb => by rw [eR]; exact ⟨rfl, hb⟩
  obtain ⟨V, eV⟩ : ∃ V, V = w.alloc (.cells #[.int .i64 house, .slice A l.length c, .slice B os.length d] 63) := ⟨_, rfl⟩
  have HBV : Hid (Below w.heap.size w V) := by rw [eV]; exact (Below.refl _ w).alloc (Nat.le_refl _) _
  have FIN : Hid (∀ w', Below V.heap.size V w' → R (.returned (.bool true)) w') := fun w' hb => FIN0.out w' (HBV.out.trans (hb.mono HBV.out.size))
  have BC : Hid (∀ w', Below V.heap.size V w' → Blk w' w.heap.size [.int .i64 house, .slice A l.length c, .slice B os.length d] 63) := fun w' hb => by
    have h0 : Blk V w.heap.size [.int .i64 house, .slice A l.length c, .slice B os.length d] 63 := by rw [eV]; exact Blk.new w _ _
    exact h0.below hb h0.lt
  have S1 := Lib.hid (hs1.below HBV.out (Nat.le_refl _))
  have S2 := Lib.hid (hs2.below HBV.out (Nat.le_refl _))
  have S3 := Lib.hid (hs3.below HBV.out (Nat.le_refl _))
  have OK := Lib.hid ho
  have HT := Lib.hid (hT.below HBV.out (Nat.le_refl _))
  have HH := Lib.hid (head34_any V HT.out)
  have EV : Hid (w.alloc (.cells #[.int .i64 house, .slice A l.length c, .slice B os.length d] 63) = V) := eV.symm
  clear eR hs1 hs2 hs3 hT eV ho FIN0
  go_enter Tryd.func10, Tryd.ntmps10
  go_wp2_with fail
  rw [EV.out]
  refine HH.out.mono ?_
  rintro e w1 ⟨rfl, hb1⟩
  have HB1 := Lib.hid hb1
  clear hb1 HH EV
  have c1 := (BC.out _ HB1.out).cellD 1 _ rfl
  have c2 := (BC.out _ HB1.out).cellD 2 _ rfl
  by_cases h40 : 40 < l.length
  · have q1 : (40 : Int) < (l.length : Int) := by omega
    go_wp2_with fail
    exact FIN.out _ HB1.out
  have q1 : ¬ (40 : Int) < (l.length : Int) := by omega
  by_cases h41 : 40 < os.length
  · have q2 : (40 : Int) < (os.length : Int) := by omega
    go_wp2_with fail
    exact FIN.out _ HB1.out
  have q2 : ¬ (40 : Int) < (os.length : Int) := by omega
  have CS := Lib.hid (small_any D f 40 salts w1 (S3.out.below HB1.out (Nat.le_refl _)) hl3)
  obtain ⟨F, eF⟩ : ∃ F, F = smallB salts 40 := ⟨_, rfl⟩
  rw [← eF] at CS
  have EF := Lib.hid eF
  clear eF
  go_wp2_with fail
  refine CS.out.mono ?_
  rintro e w' ⟨rfl, rfl⟩
  clear CS
  cases F with
  | false =>
    go_wp2_with fail
    exact FIN.out _ HB1.out
  | true =>
  have HSM := Lib.hid (smallB_short EF.out.symm)
  have hsm := HSM.out.1
  have HST : Hid (RNo V l (.int .i64 0) w1) := ⟨0, Nat.zero_le _, rfl, fun x _ _ _ h => absurd h (Nat.not_lt_zero _), HB1.out⟩
  clear EF c1 c2
  go_wp2_with fail
  go_loopw [6] (fun i wr => RNo V l i wr) (fun i _ => l.length - (intOf i).toNat)
  case atStart => exact HST.out
  case round =>
    clear HST
    obtain ⟨a, ha, rfl, hno, hbr⟩ := hrel
    have HBR := Lib.hid hbr
    have c1 := (BC.out _ hbr).cellD 1 _ rfl
    clear hbr
    by_cases hlt : a < l.length
    · obtain ⟨x, hx⟩ : ∃ x, l[a]? = some x := ⟨_, List.getElem?_eq_getElem hlt⟩
      obtain ⟨ba, oa, rfl⟩ := sl_addr S1.out hx
      have ki1 : (a : Int) < (l.length : Int) := by omega
      have k00 : (0 : Int) ≤ (a : Int) := by omega
      have HNO := Lib.hid hno
      have HX := Lib.hid hx
      have HST1 : Hid (RNo1 V l a (.int .i64 0) wr) := ⟨0, Nat.zero_le _, rfl, fun y _ _ h => absurd h (Nat.not_lt_zero _), HBR.out⟩
      clear hno hx
      go_wp2_with fail
      clear c1
      go_loopw [7] (fun i wr => RNo1 V l a i wr) (fun i _ => a - (intOf i).toNat)
      case atStart => exact HST1.out
      case round =>
        clear HST1 HBR
        obtain ⟨k, hk, rfl, hno1, hbr2⟩ := hrel
        by_cases hkt : k < a
        · obtain ⟨y, hy⟩ : ∃ y, l[k]? = some y := ⟨_, List.getElem?_eq_getElem (by omega)⟩
          have kj1 : (k : Int) < (a : Int) := by omega
          have kj2 : (k : Int) < (l.length : Int) := by omega
          have k01 : (0 : Int) ≤ (k : Int) := by omega
          have d0 := fac_cell (S1.out.below hbr2 (Nat.le_refl _)) HX.out 0 _ rfl
          have e0 := fac_cell (S1.out.below hbr2 (Nat.le_refl _)) hy 0 _ rfl
          have c1 := (BC.out _ hbr2).cellD 1 _ rfl
          simp only [Nat.add_zero] at d0 e0
          have HY := Lib.hid hy
          have HNO1 := Lib.hid hno1
          have HBR2 := Lib.hid hbr2
          obtain ⟨xr, exr⟩ : ∃ xr, xr = x.ref := ⟨_, rfl⟩
          obtain ⟨yr, eyr⟩ : ∃ yr, yr = y.ref := ⟨_, rfl⟩
          rw [← exr] at d0
          rw [← eyr] at e0
          have EXR := Lib.hid exr
          have EYR := Lib.hid eyr
          clear hy hno1 hbr2 exr eyr
          go_wp2_with fail
          refine Free.wp_region_free 13 [] (fun w2 => Below wr.heap.size wr w2 ∧ w2.cell? ⟨w.heap.size, 1, none⟩ = some (.slice (some ⟨ba, oa, none⟩) l.length c) ∧ w2.cell? ⟨ba, oa + a * 6, none⟩ = some (.int .i64 xr) ∧ w2.cell? ⟨ba, oa + k * 6, none⟩ = some (.int .i64 yr)) (by kernel_rfl) (by kernel_rfl) (Free.mono_det (fun j mk r hf => by simp only [Free.find] at hf; repeat' (first | cases hf | split at hf))) ⟨(Below.refl _ _).drew, c1, d0, e0⟩ (fun _ _ h g => ⟨h.1.trans (Below.mono g h.1.size), cell_grow h.2.1 g, cell_grow h.2.2.1 g, cell_grow h.2.2.2 g⟩) ?_
          simp only [List.take_succ_cons, List.take_zero]
          clear c1 d0 e0
          iterate 13 (apply Free.chain_still (by first | exact Free.wanted_of rfl rfl rfl | rfl) rfl; (intro w' hB hA; obtain ⟨qB, r1, r2, r3⟩ := hB; clear hA  qB; go_light; go_simp <;> rfl); (try simp only [Act.put, List.setIfInBounds_toArray, List.set_cons_succ, List.set_cons_zero]))
          apply Free.chain_nil
          intro wz hBz _ _
          simp only [List.drop_succ_cons, List.drop_zero]
          have LZ := Lib.hid (HBR2.out.trans (hBz.1.mono HBR2.out.size))
          clear hBz
          by_cases hxy : xr = yr
          · rw [show (xr == yr) = true by rw [hxy]; simp]
            clear hxy
            go_wp2_with fail
            exact FIN.out _ LZ.out
          · rw [show (xr == yr) = false from beq_eq_false_iff_ne.2 hxy]
            have KEY : Hid (RNo1 V l a (.int .i64 ((k : Int) + 1)) wz) := ⟨k + 1, by omega, by go_num, fun j g h hj hg hh => by
              by_cases e : j = k
              · subst e
                rw [HX.out] at hg
                rw [HY.out] at hh
                cases hg; cases hh
                rw [← EXR.out, ← EYR.out]; exact hxy
              · exact HNO1.out j g h (by omega) hg hh, LZ.out⟩
            clear hxy
            go_wp2_with fail
            refine ⟨KEY.out, ?_⟩
            simp [intOf]; omega
        · obtain rfl : k = a := by omega
          have KEY : Hid (RNo V l (.int .i64 ((k : Int) + 1)) wr) := ⟨k + 1, by omega, by go_num, fun x y g h hx hy hg hh => by
            by_cases e : x = k
            · subst e; exact hno1 y g h hy hg hh
            · exact HNO.out x y g h (by omega) hy hg hh, hbr2⟩
          clear hno1 hbr2
          go_wp2_with fail
          refine ⟨KEY.out, ?_⟩
          simp [intOf]; omega
    · obtain rfl : a = l.length := by omega
      have HNO := Lib.hid hno
      clear hno
      have hl40 : l.length ≤ 40 := by omega
      have CL := Lib.hid (leaves_any A D c f l salts wr (S1.out.below HBR.out (Nat.le_refl _)) (S3.out.below HBR.out (Nat.le_refl _)) (by omega) OK.out (short_200 HSM.out.2) (HT.out.below HBR.out (Nat.le_refl _)))
      have c0 := (BC.out _ HBR.out).cellD 0 _ rfl
      have c2 := (BC.out _ HBR.out).cellD 2 _ rfl
      go_wp2_with fail
      refine CL.out.mono ?_
      rintro e w2 ⟨⟨A', c', hc', rfl, hsl⟩, hb2⟩
      have HB2 := Lib.hid (HBR.out.trans (hb2.mono HBR.out.size))
      have HSL := Lib.hid hsl
      have LV := Lib.hid (leavesA_len l salts)
      have LVS := Lib.hid (leavesA_short l salts)
      have HCK : Hid (∀ (k : Nat) (x : Fac), l[k]? = some x → checkD (rootOf (leavesA l salts)) (l.length : Int) (k : Int) x (saltA salts k) (pathL (leavesA l salts) k) = true) := fun k x hx => check_leaf (by omega) hx
      have CR : Hid (Calls Tryd.prog 16 #[.slice A' l.length c'] w2 fun e w' => e = .returned (.string (rootOf (leavesA l salts))) ∧ Below w2.heap.size w2 w') := by
        have := root_any (leavesA l salts) A' c' w2 (by rw [LV.out]; exact hc') (by rw [LV.out]; omega) hsl LVS.out (HT.out.below HB2.out (Nat.le_refl _))
        rw [LV.out] at this
        exact this
      obtain ⟨lv, elv⟩ : ∃ lv, lv = leavesA l salts := ⟨_, rfl⟩
      rw [← elv] at HSL LV LVS HCK CR
      obtain ⟨rt, ert⟩ : ∃ rt, rt = rootOf lv := ⟨_, rfl⟩
      rw [← ert] at HCK CR
      clear hb2 hsl CL elv ert c0 c1 c2 HBR
      go_wp2_with fail
      refine CR.out.mono ?_
      rintro e w3 ⟨rfl, hb3⟩
      have HB3 := Lib.hid (HB2.out.trans (hb3.mono HB2.out.size))
      have HS3 := Lib.hid (HSL.out.below hb3 (Nat.le_refl _))
      have c0 := (BC.out _ HB3.out).cellD 0 _ rfl
      have c1 := (BC.out _ HB3.out).cellD 1 _ rfl
      have c2 := (BC.out _ HB3.out).cellD 2 _ rfl
      have CO := Lib.hid (open_any house A B c d l os w3 (by omega) (by omega) (S1.out.below HB3.out (Nat.le_refl _)) (S2.out.below HB3.out (Nat.le_refl _)) OK.out)
      unfold OpPost at CO
      have HOP : Hid (∀ y ∈ openF l, y ∈ l ∧ y.secret = false) := fun y hy => by
        have := List.mem_filter.1 hy
        exact ⟨this.1, by simpa using this.2⟩
      have hop : (openF l).length ≤ 40 := Nat.le_trans (List.length_filter_le _ _) hl40
      obtain ⟨op, eop⟩ : ∃ op, op = openF l := ⟨_, rfl⟩
      rw [← eop] at CO HOP hop
      clear hb3 CR HB2 HSL eop
      go_wp2_with fail
      refine CO.out.mono ?_
      rintro e w4 ⟨⟨A4, c4, B4, n4, d4, rfl, hc4, hs4⟩, hb4⟩
      have HB4 := Lib.hid (HB3.out.trans (hb4.mono HB3.out.size))
      have HS4 := Lib.hid (HS3.out.below hb4 (Nat.le_refl _))
      have HO4 := Lib.hid hs4
      have HST : Hid (RUpto w4 op.length (.int .i64 0) w4) := ⟨0, Nat.zero_le _, rfl, Below.refl _ _⟩
      clear hb4 hs4 CO HB3 HS3 c0 c1 c2 hc4
      have hfd : Sem.run Tryd.prog (Instr.field 63 (.agg #[.int .i64 house, .slice A4 op.length c4, .slice B4 n4 d4]) 1) w4 = .ok (.slice A4 op.length c4) w4 := by kernel_rfl
      go_wp2_with fail
      clear hfd
      go_loopw [11] (fun i wr => RUpto w4 op.length i wr) (fun i _ => op.length - (intOf i).toNat)
      case atStart => exact HST.out
      case round =>
        clear HST
        obtain ⟨k, hk, rfl, hb5⟩ := hrel
        have HB5 := Lib.hid (HB4.out.trans (hb5.mono HB4.out.size))
        have HW5 := Lib.hid hb5
        clear hb5
        by_cases hlt : k < op.length
        · obtain ⟨y, hy⟩ : ∃ y, op[k]? = some y := ⟨_, List.getElem?_eq_getElem hlt⟩
          obtain ⟨hyl, hys⟩ := HOP.out y (List.mem_of_getElem? hy)
          obtain ⟨j, hj⟩ := List.mem_iff_getElem?.1 hyl
          have hjl := (List.getElem?_eq_some_iff.1 hj).1
          obtain ⟨bo, oo, rfl⟩ := sl_addr HO4.out hy
          obtain ⟨bl, ol, rfl⟩ := sl_addr S1.out hj
          have HY := Lib.hid hy
          have HJ := Lib.hid hj
          have HYS := Lib.hid hys
          have kk1 : (k : Int) < (op.length : Int) := by omega
          have kk0 : (0 : Int) ≤ (k : Int) := by omega
          have HST2 : Hid (RAt V w4 l.length j (.int .i64 0) (.int .i64 (-1)) _) := ⟨0, Nat.zero_le _, rfl, rfl, HB5.out, HW5.out⟩
          have HUQ : Hid (∀ a x, l[a]? = some x → x.ref = y.ref → a = j) := fun a x hx he => noRef_uniq HNO.out hx HJ.out he
          clear hy hyl hys hj
          go_wp2_with fail
          go_loopw [13, 12] (fun i a wr => RAt V w4 l.length j i a wr) (fun i _ _ => l.length - (intOf i).toNat)
          case atStart => exact HST2.out
          case round =>
            clear HST2
            obtain ⟨a, ha, rfl, rfl, hb6, hb6w⟩ := hrel
            have c1 := (BC.out _ hb6).cellD 1 _ rfl
            have HB6 := Lib.hid hb6
            by_cases hat : a < l.length
            · obtain ⟨x, hx⟩ : ∃ x, l[a]? = some x := ⟨_, List.getElem?_eq_getElem hat⟩
              have aj1 : (a : Int) < (l.length : Int) := by omega
              have aj0 : (0 : Int) ≤ (a : Int) := by omega
              have d0 := fac_cell (S1.out.below hb6 (Nat.le_refl _)) hx 0 _ rfl
              have e0 := fac_cell (HO4.out.below hb6w (Nat.le_refl _)) HY.out 0 _ rfl
              simp only [Nat.add_zero] at d0 e0
              have HREF : Hid ((a = j → x.ref = y.ref) ∧ (a ≠ j → x.ref ≠ y.ref)) := ⟨fun e => by subst e; rw [HJ.out] at hx; cases hx; rfl, fun hne he => hne (HUQ.out a x hx he)⟩
              have HNX : Hid ((a = j → (if j < a + 1 then (j : Int) else -1) = (a : Int)) ∧ (a ≠ j → (if j < a + 1 then (j : Int) else -1) = (if j < a then (j : Int) else -1))) := ⟨fun e => by subst e; rw [if_pos (by omega)], fun hne => by
                by_cases h : j < a
                · rw [if_pos h, if_pos (by omega)]
                · rw [if_neg h, if_neg (by omega)]⟩
              obtain ⟨av, eav⟩ : ∃ av, av = (if j < a then (j : Int) else -1) := ⟨_, rfl⟩
              rw [← eav] at HNX ⊢
              obtain ⟨xr, exr⟩ : ∃ xr, xr = x.ref := ⟨_, rfl⟩
              obtain ⟨yr, eyr⟩ : ∃ yr, yr = y.ref := ⟨_, rfl⟩
              rw [← exr] at d0 HREF
              rw [← eyr] at e0 HREF
              have HW6 := Lib.hid hb6w
              clear hx hb6 eav exr eyr hb6w
              go_wp2_with fail
              refine Free.wp_region_free 12 [] (fun w2 => Below wr.heap.size wr w2 ∧ w2.cell? ⟨w.heap.size, 1, none⟩ = some (.slice (some ⟨bl, ol, none⟩) l.length c) ∧ w2.cell? ⟨bl, ol + a * 6, none⟩ = some (.int .i64 xr) ∧ w2.cell? ⟨bo, oo + k * 6, none⟩ = some (.int .i64 yr)) (by kernel_rfl) (by kernel_rfl) (Free.mono_det (fun j mk r hf => by simp only [Free.find] at hf; repeat' (first | cases hf | split at hf))) ⟨(Below.refl _ _).drew, c1, d0, e0⟩ (fun _ _ h g => ⟨h.1.trans (Below.mono g h.1.size), cell_grow h.2.1 g, cell_grow h.2.2.1 g, cell_grow h.2.2.2 g⟩) ?_
              simp only [List.take_succ_cons, List.take_zero]
              clear c1 d0 e0
              iterate 12 (apply Free.chain_still (by first | exact Free.wanted_of rfl rfl rfl | rfl) rfl; (intro w' hB hA; obtain ⟨qB, r1, r2, r3⟩ := hB; clear hA  qB; go_light; go_simp <;> rfl); (try simp only [Act.put, List.setIfInBounds_toArray, List.set_cons_succ, List.set_cons_zero]))
              apply Free.chain_nil
              intro wz hBz _ _
              simp only [List.drop_succ_cons, List.drop_zero]
              have LZ := Lib.hid (HB6.out.trans (hBz.1.mono HB6.out.size))
              have LW := Lib.hid (HW6.out.trans (hBz.1.mono HW6.out.size))
              clear hBz
              by_cases haj : a = j
              · rw [show (xr == yr) = true by rw [HREF.out.1 haj]; simp]
                have KEY : Hid (RAt V w4 l.length j (.int .i64 ((a : Int) + 1)) (.int .i64 (a : Int)) wz) := ⟨a + 1, by omega, by go_num, by rw [HNX.out.1 haj], LZ.out, LW.out⟩
                clear haj
                go_wp2_with fail
                refine ⟨KEY.out, ?_⟩
                simp [intOf]; omega
              · rw [show (xr == yr) = false from beq_eq_false_iff_ne.2 (HREF.out.2 haj)]
                have KEY : Hid (RAt V w4 l.length j (.int .i64 ((a : Int) + 1)) (.int .i64 av) wz) := ⟨a + 1, by omega, by go_num, by rw [HNX.out.2 haj], LZ.out, LW.out⟩
                clear haj
                go_wp2_with fail
                refine ⟨KEY.out, ?_⟩
                simp [intOf]; omega
            · obtain rfl : a = l.length := by omega
              rw [if_pos hjl]
              have hxo := OK.out y (List.mem_of_getElem? HJ.out)
              have hck := HCK.out j y HJ.out
              have hsz := saltA_200 HSM.out.2 j
              have CP : Hid (∀ R : Ending → World → Prop, (∀ w' A2 c2, Below wr.heap.size wr w' → SL w' 1 encS A2 (pathL lv j) → R (.returned (.tuple #[.slice A2 (pathL lv j).length c2, .int .i64 0])) w') → Calls Tryd.prog 18 #[.slice A' l.length c', .int .i64 (j : Int)] wr R) := fun R hR => by
                have := prove_in lv A' c' j wr R (by rw [LV.out]; exact hjl) (by rw [LV.out]; exact hc') (by rw [LV.out]; omega) (HS4.out.below hb6w (Nat.le_refl _)) LVS.out (HT.out.below hb6 (Nat.le_refl _)) (fun w' A2 c2 a1 _ a3 => hR w' A2 c2 a1 a3)
                rw [LV.out] at this
                exact this
              have hpl : (pathL lv j).length < 1000000000 := by
                have := path_len lv j
                have h2 := lev_len lv.length j
                rw [LV.out] at h2 this
                omega
              have hps : Short (pathL lv j) := path_texts lv j LVS.out (by rw [LV.out]; omega)
              obtain ⟨st, est⟩ : ∃ st, st = saltA salts j := ⟨_, rfl⟩
              obtain ⟨pa, epa⟩ : ∃ pa, pa = pathL lv j := ⟨_, rfl⟩
              rw [← est] at hck hsz
              rw [← epa] at hck CP hpl hps
              have CS : Hid (∀ w', Below V.heap.size V w' → Calls Tryd.prog 30 #[.slice D salts.length f, .int .i64 (j : Int)] w' fun e w2 => e = .returned (.string st) ∧ Below w'.heap.size w' w2) := fun w' hb => by
                rw [est]
                refine (salt_any D f j salts w' (S3.out.below hb (Nat.le_refl _))).mono ?_
                rintro e w2 ⟨rfl, rfl⟩
                exact ⟨rfl, Below.refl _ _⟩
              have CC : Hid (∀ w' A2 c2, Below V.heap.size V w' → SL w' 1 encS A2 pa → Calls Tryd.prog 19 #[.string rt, .int .i64 (l.length : Int), .int .i64 (j : Int), .agg (encF y).toArray, .string st, .slice A2 pa.length c2] w' fun e w2 => e = .returned (.bool true) ∧ Below w'.heap.size w' w2) := fun w' A2 c2 hb hs => by
                have := check_dis rt (l.length : Int) (j : Int) y st pa A2 c2 w' hxo (by omega) hpl hs hps (HT.out.below hb (Nat.le_refl _))
                rw [hck] at this
                exact this
              have CE : Hid (∀ w', Below w4.heap.size w4 w' → ∀ p u, (encF y)[p]? = some u → w'.cell? ⟨bo, oo + k * 6 + p, none⟩ = some u) := fun w' hb => fac_cell (HO4.out.below hb (Nat.le_refl _)) HY.out
              have jn0 : ¬ (j : Int) < 0 := by omega
              have HW6 := Lib.hid hb6w
              clear hxo hck hsz hpl hps est epa hb6 hb6w hjl
              go_wp2_with fail
              refine CP.out _ ?_
              intro w7 A2 c2 hby hsy
              have HB7 := Lib.hid (HB6.out.trans (hby.mono HB6.out.size))
              have HW7 := Lib.hid (HW6.out.trans (hby.mono HW6.out.size))
              have HSY := Lib.hid hsy
              clear hby hsy CP c1
              have s5 := CE.out _ HW7.out 5 _ rfl
              rw [HYS.out] at s5
              go_wp2_with fail
              refine Free.wp_region_free 29 [(24, .det (.string st)), (26, .det (.bool true))] (fun w2 => Below w7.heap.size w7 w2 ∧ w2.cell? ⟨bo, oo + k * 6 + 5, none⟩ = some (.bool false)) (by kernel_rfl) (by kernel_rfl) (Free.mono_det (fun j mk r hf => by simp only [Free.find] at hf; repeat' (first | cases hf | split at hf))) ⟨(Below.refl _ _).drew, s5⟩ (fun _ _ h g => ⟨h.1.trans (Below.mono g h.1.size), cell_grow h.2 g⟩) ?_
              simp only [List.take_succ_cons, List.take_zero]
              clear s5
              iterate 21 (apply Free.chain_still (by first | exact Free.wanted_of rfl rfl rfl | rfl) rfl; (intro w' hB hA; obtain ⟨qB, r5⟩ := hB; clear hA  qB; go_light; go_simp <;> rfl); (try simp only [Act.put, List.setIfInBounds_toArray, List.set_cons_succ, List.set_cons_zero]))
              apply Free.chain_still (by first | exact Free.wanted_of rfl rfl rfl | rfl) rfl
              · intro w' hB hA
                exact exec_fac (x := y) rfl rfl (CE.out w' (HW7.out.trans (hB.1.mono HW7.out.size)))
              simp only [Act.put, List.setIfInBounds_toArray, List.set_cons_succ, List.set_cons_zero]
              iterate 2 (apply Free.chain_still (by first | exact Free.wanted_of rfl rfl rfl | rfl) rfl; (intro w' hB hA; obtain ⟨qB, r5⟩ := hB; clear hA  qB; go_light; go_simp <;> rfl); (try simp only [Act.put, List.setIfInBounds_toArray, List.set_cons_succ, List.set_cons_zero]))
              apply Free.chain_det (by first | exact Free.wanted_of rfl rfl rfl | rfl) rfl
              · intro w' hB hA
                refine Free.opRun_call (f := 30) (args := #[.slice D salts.length f, .int .i64 (j : Int)]) (by clear hB hA; go_simp <;> rfl) ?_
                refine (CS.out w' (HB7.out.trans (hB.1.mono HB7.out.size))).mono ?_
                rintro e w3 ⟨rfl, hb3⟩
                exact ⟨_, rfl, hb3, rfl⟩
              simp only [Act.put, List.setIfInBounds_toArray, List.set_cons_succ, List.set_cons_zero]
              iterate 1 (apply Free.chain_still (by first | exact Free.wanted_of rfl rfl rfl | rfl) rfl; (intro w' hB hA; obtain ⟨qB, r5⟩ := hB; clear hA  qB; go_light; go_simp <;> rfl); (try simp only [Act.put, List.setIfInBounds_toArray, List.set_cons_succ, List.set_cons_zero]))
              apply Free.chain_det (by first | exact Free.wanted_of rfl rfl rfl | rfl) rfl
              · intro w' hB hA
                refine Free.opRun_call (f := 19) (args := #[.string rt, .int .i64 (l.length : Int), .int .i64 (j : Int), .agg (encF y).toArray, .string st, .slice A2 pa.length c2]) (by clear hB hA; go_simp <;> rfl) ?_
                refine (CC.out w' _ _ (HB7.out.trans (hB.1.mono HB7.out.size)) (HSY.out.below hB.1 (Nat.le_refl _))).mono ?_
                rintro e w3 ⟨rfl, hb3⟩
                exact ⟨_, rfl, hb3, rfl⟩
              simp only [Act.put, List.setIfInBounds_toArray, List.set_cons_succ, List.set_cons_zero]
              iterate 2 (apply Free.chain_still (by first | exact Free.wanted_of rfl rfl rfl | rfl) rfl; (intro w' hB hA; obtain ⟨qB, r5⟩ := hB; clear hA  qB; go_light; go_simp <;> rfl); (try simp only [Act.put, List.setIfInBounds_toArray, List.set_cons_succ, List.set_cons_zero]))
              apply Free.chain_nil
              intro wy hBz _ _
              simp only [List.drop_succ_cons, List.drop_zero]
              have KEY : Hid (RUpto w4 op.length (.int .i64 ((k : Int) + 1)) wy) := ⟨k + 1, by omega, by go_num, HW7.out.trans (hBz.1.mono HW7.out.size)⟩
              clear hBz CS CC CE
              go_wp2_with fail
              refine ⟨KEY.out, ?_⟩
              simp [intOf]; omega
        · obtain rfl : k = op.length := by omega
          go_wp2_with fail
          exact FIN.out _ HB5.out
end Go.Proofs.YtamiaalfjmppaaaDoor
