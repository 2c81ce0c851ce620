/- The fixed examples of the law 34 (head): it returns true. Condition: the variables of digest and strconv hold their numbers. -/
import Derived.Test.YtamiaalfjmppaaaDoorDh1
namespace Go.Proofs.YtamiaalfjmppaaaDoor
open Go.RowKit Go.W32 Go.Blk Go.Sg Go.Opn Go.Di Go.Rf

theorem sl_new {w : World} {b : Nat} {l : List ByteArray} (h : w.heap[b]? = some (.cells (l.map Value.string).toArray 9 (0, 0))) : SL w 1 encS (some ⟨b, 0, none⟩) l := by
  refine ⟨fun _ => ⟨b, 0, rfl, fun i e hi p u hu => ?_⟩⟩
  have hp : p = 0 := by
    have := (List.getElem?_eq_some_iff.1 hu).1
    simp [encS] at this; omega
  subst hp
  cases hu
  simp [World.cell?, h, hi]
set_option maxRecDepth 100000 in
set_option maxHeartbeats 4000000 in
theorem head34_any (w : World) (hT : HasT w) : Calls Tryd.prog 22 #[] w fun e w' => e = .returned (.bool true) ∧ Below w.heap.size w w' := by
  obtain ⟨R, eR⟩ : ∃ R : Ending → World → Prop, R = fun e w' => e = .returned (.bool true) ∧ Below w.heap.size w w' := ⟨_, rfl⟩
  rw [← eR]
  have FIN : Hid (∀ w', Below w.heap.size w w' → R (.returned (.bool true)) w') := fun w' hb => by rw [eR]; exact ⟨rfl, hb⟩
  have HT := Lib.hid hT
  obtain ⟨lx, elx⟩ : ∃ lx, lx = leafD hxF sS := ⟨_, rfl⟩
  obtain ⟨ly, ely⟩ : ∃ ly, ly = leafD hyF sT := ⟨_, rfl⟩
  have hlx : lx.size = 64 := by rw [elx]; exact tagD_size _ _ _
  have hly : ly.size = 64 := by rw [ely]; exact tagD_size _ _ _
  have hsC : sC.size = 1 := rfl
  have hsh : Short [lx, ly, sC] := fun b hb => by
    rcases List.mem_cons.1 hb with rfl | hb
    · omega
    · rcases List.mem_cons.1 hb with rfl | hb
      · omega
      · rcases List.mem_cons.1 hb with rfl | hb
        · omega
        · cases hb
  have hshp : Short [lx, sC] := fun b hb => hsh b (by rcases List.mem_cons.1 hb with rfl | hb <;> simp_all)
  have CX : Hid (∀ w, HasT w → Calls Tryd.prog 12 #[.agg (encF hxF).toArray, .string ⟨#[115]⟩] w fun e w' => e = .returned (.string lx) ∧ Below w.heap.size w w') := fun w h => by rw [elx]; exact leaf_any hxF sS w hx_ok (by decide) h
  have CY : Hid (∀ w, HasT w → Calls Tryd.prog 12 #[.agg (encF hyF).toArray, .string ⟨#[116]⟩] w fun e w' => e = .returned (.string ly) ∧ Below w.heap.size w w') := fun w h => by rw [ely]; exact leaf_any hyF sT w hy_ok (by decide) h
  obtain ⟨nxy, enxy⟩ : ∃ nxy, nxy = nodeD lx ly := ⟨_, rfl⟩
  obtain ⟨rt, ert⟩ : ∃ rt, rt = nodeD nxy sC := ⟨_, rfl⟩
  have hnxy : nxy.size = 64 := by rw [enxy]; exact tagD_size _ _ _
  have hrt : rt = hR := by rw [ert, enxy, elx, ely]; rfl
  have hpp : [lx, sC] = hP := by rw [elx]; rfl
  have CR : Hid (∀ (w : World) (A : Option Addr) (c : Nat), 3 ≤ c → SL w 1 encS A [lx, ly, sC] → HasT w → Calls Tryd.prog 16 #[.slice A 3 c] w fun e w' => e = .returned (.string rt) ∧ Below w.heap.size w w') := fun w A c hc hs h => by
    have := root_any [lx, ly, sC] A c w hc (by simp) hs hsh h
    rw [if_neg (by simp), root_3, ← enxy, ← ert] at this
    exact this
  have P1 : Hid (∀ (w : World) (A : Option Addr) (c : Nat) (R : Ending → World → Prop), 3 ≤ c → SL w 1 encS A [lx, ly, sC] → HasT w → (∀ w' A' c', Below w.heap.size w w' → SL w' 1 encS A' [lx, sC] → R (.returned (.tuple #[.slice A' 2 c', .int .i64 0])) w') → Calls Tryd.prog 18 #[.slice A 3 c, .int .i64 1] w R) := fun w A c R hc hs h hR => by
    refine prove_in [lx, ly, sC] A c 1 w R (by simp) hc (by simp) hs hsh h (fun w' A' c' a1 _ a3 => ?_)
    rw [path_3_1] at a3 ⊢
    exact hR w' A' c' a1 a3
  have P2 : Hid (∀ (w : World) (A : Option Addr) (c : Nat) (R : Ending → World → Prop), 3 ≤ c → SL w 1 encS A [lx, ly, sC] → HasT w → (∀ w' A' c', Below w.heap.size w w' → SL w' 1 encS A' [nxy] → R (.returned (.tuple #[.slice A' 1 c', .int .i64 0])) w') → Calls Tryd.prog 18 #[.slice A 3 c, .int .i64 2] w R) := fun w A c R hc hs h hR => by
    refine prove_in [lx, ly, sC] A c 2 w R (by simp) hc (by simp) hs hsh h (fun w' A' c' a1 _ a3 => ?_)
    rw [path_3_2, ← enxy] at a3 ⊢
    exact hR w' A' c' a1 a3
  have P3 := Lib.hid (fun (w : World) (A : Option Addr) (c : Nat) => prove_out A 3 c 3 w (by decide))
  have S1 : Hid (∀ (w : World) (A B : Option Addr) (c d : Nat), SL w 1 encS A [lx, sC] → SL w 1 encS B [lx, sC] → Calls Tryd.prog 27 #[.slice A 2 c, .slice B 2 d] w fun e w' => e = .returned (.bool true) ∧ Below w.heap.size w w') := fun w A B c d h1 h2 => by
    have := strings_any A B c d [lx, sC] [lx, sC] w h1 h2 (by simp)
    rw [decide_eq_true rfl] at this; exact this
  have S2 : Hid (∀ (w : World) (A B : Option Addr) (c d : Nat), SL w 1 encS A [nxy] → SL w 1 encS B [nxy] → Calls Tryd.prog 27 #[.slice A 1 c, .slice B 1 d] w fun e w' => e = .returned (.bool true) ∧ Below w.heap.size w w') := fun w A B c d h1 h2 => by
    have := strings_any A B c d [nxy] [nxy] w h1 h2 (by simp)
    rw [decide_eq_true rfl] at this; exact this
  have N1 : Hid (∀ w : World, HasT w → Calls Tryd.prog 34 #[.string lx, .string ly] w fun e w' => e = .returned (.string nxy) ∧ Below w.heap.size w w') := fun w h => by rw [enxy]; exact node34_any lx ly w (by omega) (by omega) h
  have N2 : Hid (∀ w : World, HasT w → Calls Tryd.prog 34 #[.string nxy, .string ⟨#[99]⟩] w fun e w' => e = .returned (.string rt) ∧ Below w.heap.size w w') := fun w h => by rw [ert]; exact node34_any nxy sC w (by omega) (by omega) h
  have K1 : Hid (∀ (w : World) (A : Option Addr) (c : Nat), SL w 1 encS A [lx, sC] → HasT w → Calls Tryd.prog 19 #[.string rt, .int .i64 3, .int .i64 1, .agg (encF hyF).toArray, .string ⟨#[116]⟩, .slice A 2 c] w fun e w' => e = .returned (.bool true) ∧ Below w.heap.size w w') := fun w A c hs h => by
    have := check_dis rt 3 1 hyF sT [lx, sC] A c w hy_ok (by decide) (by simp) hs hshp h
    rw [hrt, hpp, chk_1, ← hrt] at this; exact this
  have K2 : Hid (∀ (w : World) (A : Option Addr) (c : Nat), SL w 1 encS A [lx, sC] → HasT w → Calls Tryd.prog 19 #[.string rt, .int .i64 3, .int .i64 0, .agg (encF hyF).toArray, .string ⟨#[116]⟩, .slice A 2 c] w fun e w' => e = .returned (.bool false) ∧ Below w.heap.size w w') := fun w A c hs h => by
    have := check_dis rt 3 0 hyF sT [lx, sC] A c w hy_ok (by decide) (by simp) hs hshp h
    rw [hrt, hpp, chk_2, ← hrt] at this; exact this
  have K3 : Hid (∀ (w : World) (A : Option Addr) (c : Nat), SL w 1 encS A [lx, sC] → HasT w → Calls Tryd.prog 19 #[.string rt, .int .i64 3, .int .i64 1, .agg (encF hxF).toArray, .string ⟨#[116]⟩, .slice A 2 c] w fun e w' => e = .returned (.bool false) ∧ Below w.heap.size w w') := fun w A c hs h => by
    have := check_dis rt 3 1 hxF sT [lx, sC] A c w hx_ok (by decide) (by simp) hs hshp h
    rw [hrt, hpp, chk_3, ← hrt] at this; exact this
  have K4 : Hid (∀ (w : World) (A : Option Addr) (c : Nat), SL w 1 encS A [lx, sC] → HasT w → Calls Tryd.prog 19 #[.string rt, .int .i64 3, .int .i64 1, .agg (encF hyF).toArray, .string ⟨#[115]⟩, .slice A 2 c] w fun e w' => e = .returned (.bool false) ∧ Below w.heap.size w w') := fun w A c hs h => by
    have := check_dis rt 3 1 hyF sS [lx, sC] A c w hy_ok (by decide) (by simp) hs hshp h
    rw [hrt, hpp, chk_4, ← hrt] at this; exact this
  obtain ⟨dn, edn⟩ : ∃ dn, dn = sumB KC ⟨#[110, 111, 110, 101]⟩ := ⟨_, rfl⟩
  have RN : Hid (∀ w : World, HasT w → Calls Tryd.prog 16 #[.slice none 0 0] w fun e w' => e = .returned (.string dn) ∧ Below w.heap.size w w') := fun w h => by
    have := root_any [] none 0 w (Nat.le_refl _) (by decide) SL.nil (fun b hb => by cases hb) h
    rw [if_pos rfl, ← edn] at this; exact this
  have SN : Hid (∀ w : World, HasT w → Calls Tryd.prog 45 #[.string ⟨#[110, 111, 110, 101]⟩] w fun e w' => e = .returned (.string dn) ∧ Below w.heap.size w w') := fun w h => by
    rw [edn]; exact sum_any KC ⟨#[110, 111, 110, 101]⟩ w (by decide) h.k
  clear hT eR elx ely hlx hly hsC hsh hshp enxy ert hnxy hrt hpp edn
  go_enter Tryd.func22, Tryd.ntmps22
  go_wp2_with fail
  obtain ⟨V, eV⟩ : ∃ V, V = ((w.alloc (.cells #[.int .i64 1, .int .i64 0, .int .i64 0, .int .i64 2, .int .i64 0, .bool false] 25)).alloc (.cells #[.int .i64 2, .int .i64 0, .int .i64 0, .int .i64 2, .int .i64 0, .bool false] 25)) := ⟨_, rfl⟩
  have HV : Hid (Below w.heap.size w V) := by rw [eV]; exact ((Below.refl _ w).alloc (Nat.le_refl _) _).alloc (by simp) _
  have FX : Hid (∀ w', Below V.heap.size V w' → ∀ p u, (encF hxF)[p]? = some u → w'.cell? ⟨w.heap.size, 0 + p, none⟩ = some u) := fun w' hb p u hu => by
    have hk : Blk V w.heap.size (encF hxF) 25 := by rw [eV]; exact (Blk.new w (encF hxF) 25).alloc _
    rw [Nat.zero_add]
    exact (hk.below hb hk.lt).cellD p u hu
  have FY : Hid (∀ w', Below V.heap.size V w' → ∀ p u, (encF hyF)[p]? = some u → w'.cell? ⟨w.heap.size + 1, 0 + p, none⟩ = some u) := fun w' hb p u hu => by
    have hk : Blk V (w.heap.size + 1) (encF hyF) 25 := by rw [eV]; exact Blk.made (by simp) rfl
    rw [Nat.zero_add]
    exact (hk.below hb hk.lt).cellD p u hu
  rw [← eV]
  have HTV := Lib.hid (HT.out.below HV.out (Nat.le_refl _))
  clear eV HT
  refine Free.wp_region_free 6 [(1, .det (.string lx)), (3, .det (.string ly)), (4, .ind (fun b => .slice (some ⟨b, 0, none⟩) 3 3) (fun b w2 => w2.heap[b]? = some (.cells #[.string lx, .string ly, .string ⟨#[99]⟩] 9 (0, 0))))] (fun w2 => Below V.heap.size V w2) (by kernel_rfl) (by kernel_rfl) ?_ (Below.refl _ _).drew (fun _ _ h g => h.trans (Below.mono g h.size)) ?_
  · intro j mk r hf y w1 w2 hr gr
    simp only [Free.find] at hf
    repeat' split at hf
    all_goals (first | (cases hf; exact (gr.block _ (Array.getElem?_eq_some_iff.1 hr).1).trans hr) | cases hf)
  simp only [List.take_succ_cons, List.take_zero]
  apply Free.chain_still (by first | exact Free.wanted_of rfl rfl rfl | rfl) rfl
  · intro w' hB hA
    exact exec_fac (x := hxF) rfl rfl (FX.out w' hB)
  simp only [Act.put, List.setIfInBounds_toArray, List.set_cons_succ, List.set_cons_zero]
  apply Free.chain_det (by first | exact Free.wanted_of rfl rfl rfl | rfl) rfl
  · intro w' hB hA
    refine Free.opRun_call (f := 12) (args := #[.agg (encF hxF).toArray, .string ⟨#[115]⟩]) (by clear hB hA; go_simp <;> rfl) ?_
    refine (CX.out w' (HTV.out.below hB (Nat.le_refl _))).mono ?_
    rintro e w3 ⟨rfl, hb3⟩
    exact ⟨_, rfl, hb3, rfl⟩
  simp only [Act.put, List.setIfInBounds_toArray, List.set_cons_succ, List.set_cons_zero]
  apply Free.chain_still (by first | exact Free.wanted_of rfl rfl rfl | rfl) rfl
  · intro w' hB hA
    exact exec_fac (x := hyF) rfl rfl (FY.out w' hB)
  simp only [Act.put, List.setIfInBounds_toArray, List.set_cons_succ, List.set_cons_zero]
  apply Free.chain_det (by first | exact Free.wanted_of rfl rfl rfl | rfl) rfl
  · intro w' hB hA
    refine Free.opRun_call (f := 12) (args := #[.agg (encF hyF).toArray, .string ⟨#[116]⟩]) (by clear hB hA; go_simp <;> rfl) ?_
    refine (CY.out w' (HTV.out.below hB (Nat.le_refl _))).mono ?_
    rintro e w3 ⟨rfl, hb3⟩
    exact ⟨_, rfl, hb3, rfl⟩
  simp only [Act.put, List.setIfInBounds_toArray, List.set_cons_succ, List.set_cons_zero]
  apply Free.chain_ind rfl rfl
  · intro w' hB hA
    refine Free.opRun_of (v := .slice (some ⟨w'.heap.size, 0, none⟩) 3 3) (w' := w'.alloc (.cells #[.string lx, .string ly, .string ⟨#[99]⟩] 9)) (by clear hB hA; go_light; go_simp <;> rfl) ⟨Free.Grow.alloc _ _, _, rfl, new_at rfl⟩
  intro b
  simp only [Act.put, List.setIfInBounds_toArray, List.set_cons_succ, List.set_cons_zero]
  iterate 1 (apply Free.chain_still (by first | exact Free.wanted_of rfl rfl rfl | rfl) rfl; (intro w' hB hA; obtain qB := hB; clear hA  ; go_light; go_simp <;> rfl); (try simp only [Act.put, List.setIfInBounds_toArray, List.set_cons_succ, List.set_cons_zero]))
  apply Free.chain_nil
  intro wy hBz _ hh
  have hbz : wy.heap[b]? = some (.cells #[.string lx, .string ly, .string ⟨#[99]⟩] 9 (0, 0)) := hh _ List.mem_cons_self
  simp only [List.drop_succ_cons, List.drop_zero]
  have HL : Hid (∀ w', Below wy.heap.size wy w' → SL w' 1 encS (some ⟨b, 0, none⟩) [lx, ly, sC]) := fun w' hb => (sl_new (l := [lx, ly, sC]) hbz).below hb (Nat.le_refl _)
  have HY := Lib.hid hBz
  have HTY := Lib.hid (HTV.out.below hBz (Nat.le_refl _))
  clear hh hbz hBz CX CY HTV
  go_wp2_with fail
  refine (CR.out _ _ _ (by decide) (HL.out _ (Below.refl _ _)) HTY.out).mono ?_
  rintro e y1 ⟨rfl, hb1⟩
  have L1 := Lib.hid hb1
  clear hb1 CR
  go_wp2_with fail
  refine P1.out _ _ _ _ (by decide) (HL.out _ L1.out) (HTY.out.below L1.out (Nat.le_refl _)) ?_
  intro y2 A2 c2 hb2 hs2
  have L2 := Lib.hid (L1.out.trans (hb2.mono L1.out.size))
  have HS2 := Lib.hid hs2
  clear hb2 hs2 P1
  go_wp2_with fail
  refine P2.out _ _ _ _ (by decide) (HL.out _ L2.out) (HTY.out.below L2.out (Nat.le_refl _)) ?_
  intro y3 A3 c3 hb3 hs3
  have L3 := Lib.hid (L2.out.trans (hb3.mono L2.out.size))
  have HS2' := Lib.hid (HS2.out.below hb3 (Nat.le_refl _))
  have HS3 := Lib.hid hs3
  clear hb3 hs3 P2 HS2
  go_wp2_with fail
  refine (P3.out _ _ _).mono ?_
  rintro e y4 ⟨rfl, hb4⟩
  have L4 := Lib.hid (L3.out.trans (hb4.mono L3.out.size))
  have HSP : Hid (∀ w', Below y4.heap.size y4 w' → SL w' 1 encS A2 [lx, sC]) := fun w' hb => (HS2'.out.below hb4 (Nat.le_refl _)).below hb (Nat.le_refl _)
  have HSQ : Hid (∀ w', Below y4.heap.size y4 w' → SL w' 1 encS A3 [nxy]) := fun w' hb => (HS3.out.below hb4 (Nat.le_refl _)).below hb (Nat.le_refl _)
  have HT4 : Hid (∀ w', Below y4.heap.size y4 w' → HasT w') := fun w' hb => HTY.out.below (L4.out.trans (hb.mono L4.out.size)) (Nat.le_refl _)
  have FX4 : Hid (∀ w', Below y4.heap.size y4 w' → ∀ p u, (encF hxF)[p]? = some u → w'.cell? ⟨w.heap.size, 0 + p, none⟩ = some u) := fun w' hb => FX.out w' (HY.out.trans ((L4.out.trans (hb.mono L4.out.size)).mono HY.out.size))
  have FY4 : Hid (∀ w', Below y4.heap.size y4 w' → ∀ p u, (encF hyF)[p]? = some u → w'.cell? ⟨w.heap.size + 1, 0 + p, none⟩ = some u) := fun w' hb => FY.out w' (HY.out.trans ((L4.out.trans (hb.mono L4.out.size)).mono HY.out.size))
  have FIN4 : Hid (∀ w', Below y4.heap.size y4 w' → R (.returned (.bool true)) w') := fun w' hb => FIN.out w' (HV.out.trans ((HY.out.trans ((L4.out.trans (hb.mono L4.out.size)).mono HY.out.size)).mono HV.out.size))
  have c0 : y4.cell? ⟨b, 0, none⟩ = some (.string lx) := by
    obtain ⟨b', o', e1, hc⟩ := (HL.out y4 L4.out).at_ (i := 0) rfl
    cases e1; exact hc 0 _ rfl
  have c1 : y4.cell? ⟨b, 1, none⟩ = some (.string ly) := by
    obtain ⟨b', o', e1, hc⟩ := (HL.out y4 L4.out).at_ (i := 1) rfl
    cases e1; exact hc 0 _ rfl
  clear hb4 L1 L2 L3 L4 HS2' HS3 FX FY HY HV HTY FIN P3 HL
  go_wp2_with fail
  refine Free.wp_region_free 43 [(15, .ind (fun b => .slice (some ⟨b, 0, none⟩) 2 2) (fun b w2 => w2.heap[b]? = some (.cells #[.string lx, .string ⟨#[99]⟩] 9 (0, 0)))), (16, .det (.bool true)), (26, .det (.string nxy)), (27, .ind (fun b => .slice (some ⟨b, 0, none⟩) 1 1) (fun b w2 => w2.heap[b]? = some (.cells #[.string nxy] 9 (0, 0)))), (28, .det (.bool true)), (38, .det (.string nxy)), (39, .det (.string rt))] (fun w2 => Below y4.heap.size y4 w2 ∧ w2.cell? ⟨b, 0, none⟩ = some (.string lx) ∧ w2.cell? ⟨b, 1, none⟩ = some (.string ly)) (by kernel_rfl) (by kernel_rfl) ?_ ⟨(Below.refl _ _).drew, c0, c1⟩ (fun _ _ h g => ⟨h.1.trans (Below.mono g h.1.size), cell_grow h.2.1 g, cell_grow h.2.2 g⟩) ?_
  · intro j mk r hf y w1 w2 hr gr
    simp only [Free.find] at hf
    repeat' split at hf
    all_goals (first | (cases hf; exact (gr.block _ (Array.getElem?_eq_some_iff.1 hr).1).trans hr) | cases hf)
  simp only [List.take_succ_cons, List.take_zero]
  clear c0 c1
  iterate 15 (apply Free.chain_still (by first | exact Free.wanted_of rfl rfl rfl | rfl) rfl; (intro w' hB hA; obtain ⟨qB, q0, q1⟩ := hB; clear hA  qB; go_light; go_simp <;> rfl); (try simp only [Act.put, List.setIfInBounds_toArray, List.set_cons_succ, List.set_cons_zero]))
  apply Free.chain_ind (by first | exact Free.wanted_of rfl rfl rfl | rfl) rfl
  · intro w' hB hA
    refine Free.opRun_of (v := .slice (some ⟨w'.heap.size, 0, none⟩) 2 2) (w' := w'.alloc (.cells #[.string lx, .string ⟨#[99]⟩] 9)) (by clear hB hA; go_light; go_simp <;> rfl) ⟨Free.Grow.alloc _ _, _, rfl, new_at rfl⟩
  intro b2
  simp only [Act.put, List.setIfInBounds_toArray, List.set_cons_succ, List.set_cons_zero]
  apply Free.chain_det (by first | exact Free.wanted_of rfl rfl rfl | rfl) rfl
  · intro w' hB hA
    refine Free.opRun_call (f := 27) (args := #[.slice A2 2 c2, .slice (some ⟨b2, 0, none⟩) 2 2]) (by clear hB hA; go_simp <;> rfl) ?_
    refine (S1.out w' _ _ _ _ (HSP.out w' hB.1) (sl_new (l := [lx, sC]) (hA _ List.mem_cons_self (by kernel_rfl)))).mono ?_
    rintro e w3 ⟨rfl, hb3⟩
    exact ⟨_, rfl, hb3, rfl⟩
  simp only [Act.put, List.setIfInBounds_toArray, List.set_cons_succ, List.set_cons_zero]
  iterate 9 (apply Free.chain_still (by first | exact Free.wanted_of rfl rfl rfl | rfl) rfl; (intro w' hB hA; obtain ⟨qB, q0, q1⟩ := hB; clear hA  qB; go_light; go_simp <;> rfl); (try simp only [Act.put, List.setIfInBounds_toArray, List.set_cons_succ, List.set_cons_zero]))
  apply Free.chain_det (by first | exact Free.wanted_of rfl rfl rfl | rfl) rfl
  · intro w' hB hA
    refine Free.opRun_call (f := 34) (args := #[.string lx, .string ly]) (by clear hB hA; go_simp <;> rfl) ?_
    refine (N1.out w' (HT4.out w' hB.1)).mono ?_
    rintro e w3 ⟨rfl, hb3⟩
    exact ⟨_, rfl, hb3, rfl⟩
  simp only [Act.put, List.setIfInBounds_toArray, List.set_cons_succ, List.set_cons_zero]
  apply Free.chain_ind (by first | exact Free.wanted_of rfl rfl rfl | rfl) rfl
  · intro w' hB hA
    refine Free.opRun_of (v := .slice (some ⟨w'.heap.size, 0, none⟩) 1 1) (w' := w'.alloc (.cells #[.string nxy] 9)) (by clear hB hA; go_light; go_simp <;> rfl) ⟨Free.Grow.alloc _ _, _, rfl, new_at rfl⟩
  intro b3
  simp only [Act.put, List.setIfInBounds_toArray, List.set_cons_succ, List.set_cons_zero]
  apply Free.chain_det (by first | exact Free.wanted_of rfl rfl rfl | rfl) rfl
  · intro w' hB hA
    refine Free.opRun_call (f := 27) (args := #[.slice A3 1 c3, .slice (some ⟨b3, 0, none⟩) 1 1]) (by clear hB hA; go_simp <;> rfl) ?_
    refine (S2.out w' _ _ _ _ (HSQ.out w' hB.1) (sl_new (l := [nxy]) (hA _ List.mem_cons_self (by kernel_rfl)))).mono ?_
    rintro e w3 ⟨rfl, hb3⟩
    exact ⟨_, rfl, hb3, rfl⟩
  simp only [Act.put, List.setIfInBounds_toArray, List.set_cons_succ, List.set_cons_zero]
  iterate 9 (apply Free.chain_still (by first | exact Free.wanted_of rfl rfl rfl | rfl) rfl; (intro w' hB hA; obtain ⟨qB, q0, q1⟩ := hB; clear hA  qB; go_light; go_simp <;> rfl); (try simp only [Act.put, List.setIfInBounds_toArray, List.set_cons_succ, List.set_cons_zero]))
  apply Free.chain_det (by first | exact Free.wanted_of rfl rfl rfl | rfl) rfl
  · intro w' hB hA
    refine Free.opRun_call (f := 34) (args := #[.string lx, .string ly]) (by clear hB hA; go_simp <;> rfl) ?_
    refine (N1.out w' (HT4.out w' hB.1)).mono ?_
    rintro e w3 ⟨rfl, hb3⟩
    exact ⟨_, rfl, hb3, rfl⟩
  simp only [Act.put, List.setIfInBounds_toArray, List.set_cons_succ, List.set_cons_zero]
  apply Free.chain_det (by first | exact Free.wanted_of rfl rfl rfl | rfl) rfl
  · intro w' hB hA
    refine Free.opRun_call (f := 34) (args := #[.string nxy, .string ⟨#[99]⟩]) (by clear hB hA; go_simp <;> rfl) ?_
    refine (N2.out w' (HT4.out w' hB.1)).mono ?_
    rintro e w3 ⟨rfl, hb3⟩
    exact ⟨_, rfl, hb3, rfl⟩
  simp only [Act.put, List.setIfInBounds_toArray, List.set_cons_succ, List.set_cons_zero]
  iterate 3 (apply Free.chain_still (by first | exact Free.wanted_of rfl rfl rfl | rfl) rfl; (intro w' hB hA; obtain ⟨qB, q0, q1⟩ := hB; clear hA  qB; go_light; go_simp <;> rfl); (try simp only [Act.put, List.setIfInBounds_toArray, List.set_cons_succ, List.set_cons_zero]))
  apply Free.chain_nil
  intro wz hBw _ hh
  simp only [List.drop_succ_cons, List.drop_zero]
  have LZ := Lib.hid hBw.1
  clear hBw hh S1 S2 N1 N2 HSQ
  have yc0_0 : wz.cell? ⟨w.heap.size + 1, 0, none⟩ = some (.int .i64 2) := FY4.out wz LZ.out 0 _ rfl
  have yc0_1 : wz.cell? ⟨w.heap.size + 1, 1, none⟩ = some (.int .i64 0) := FY4.out wz LZ.out 1 _ rfl
  have yc0_2 : wz.cell? ⟨w.heap.size + 1, 2, none⟩ = some (.int .i64 0) := FY4.out wz LZ.out 2 _ rfl
  have yc0_3 : wz.cell? ⟨w.heap.size + 1, 3, none⟩ = some (.int .i64 2) := FY4.out wz LZ.out 3 _ rfl
  have yc0_4 : wz.cell? ⟨w.heap.size + 1, 4, none⟩ = some (.int .i64 0) := FY4.out wz LZ.out 4 _ rfl
  have yc0_5 : wz.cell? ⟨w.heap.size + 1, 5, none⟩ = some (.bool false) := FY4.out wz LZ.out 5 _ rfl
  go_wp2_with fail
  refine (K1.out _ _ _ (HSP.out _ LZ.out) (HT4.out _ LZ.out)).mono ?_
  rintro e z0 ⟨rfl, hz0⟩
  have LZ0 := Lib.hid (LZ.out.trans (hz0.mono LZ.out.size))
  clear hz0 yc0_0 yc0_1 yc0_2 yc0_3 yc0_4 yc0_5 K1
  have yc1_0 : z0.cell? ⟨w.heap.size + 1, 0, none⟩ = some (.int .i64 2) := FY4.out z0 LZ0.out 0 _ rfl
  have yc1_1 : z0.cell? ⟨w.heap.size + 1, 1, none⟩ = some (.int .i64 0) := FY4.out z0 LZ0.out 1 _ rfl
  have yc1_2 : z0.cell? ⟨w.heap.size + 1, 2, none⟩ = some (.int .i64 0) := FY4.out z0 LZ0.out 2 _ rfl
  have yc1_3 : z0.cell? ⟨w.heap.size + 1, 3, none⟩ = some (.int .i64 2) := FY4.out z0 LZ0.out 3 _ rfl
  have yc1_4 : z0.cell? ⟨w.heap.size + 1, 4, none⟩ = some (.int .i64 0) := FY4.out z0 LZ0.out 4 _ rfl
  have yc1_5 : z0.cell? ⟨w.heap.size + 1, 5, none⟩ = some (.bool false) := FY4.out z0 LZ0.out 5 _ rfl
  go_wp2_with fail
  refine (K2.out _ _ _ (HSP.out _ LZ0.out) (HT4.out _ LZ0.out)).mono ?_
  rintro e z1 ⟨rfl, hz1⟩
  have LZ1 := Lib.hid (LZ0.out.trans (hz1.mono LZ0.out.size))
  clear hz1 yc1_0 yc1_1 yc1_2 yc1_3 yc1_4 yc1_5 K2
  have xc2_0 : z1.cell? ⟨w.heap.size, 0, none⟩ = some (.int .i64 1) := FX4.out z1 LZ1.out 0 _ rfl
  have xc2_1 : z1.cell? ⟨w.heap.size, 1, none⟩ = some (.int .i64 0) := FX4.out z1 LZ1.out 1 _ rfl
  have xc2_2 : z1.cell? ⟨w.heap.size, 2, none⟩ = some (.int .i64 0) := FX4.out z1 LZ1.out 2 _ rfl
  have xc2_3 : z1.cell? ⟨w.heap.size, 3, none⟩ = some (.int .i64 2) := FX4.out z1 LZ1.out 3 _ rfl
  have xc2_4 : z1.cell? ⟨w.heap.size, 4, none⟩ = some (.int .i64 0) := FX4.out z1 LZ1.out 4 _ rfl
  have xc2_5 : z1.cell? ⟨w.heap.size, 5, none⟩ = some (.bool false) := FX4.out z1 LZ1.out 5 _ rfl
  go_wp2_with fail
  refine (K3.out _ _ _ (HSP.out _ LZ1.out) (HT4.out _ LZ1.out)).mono ?_
  rintro e z2 ⟨rfl, hz2⟩
  have LZ2 := Lib.hid (LZ1.out.trans (hz2.mono LZ1.out.size))
  clear hz2 xc2_0 xc2_1 xc2_2 xc2_3 xc2_4 xc2_5 K3
  have yc3_0 : z2.cell? ⟨w.heap.size + 1, 0, none⟩ = some (.int .i64 2) := FY4.out z2 LZ2.out 0 _ rfl
  have yc3_1 : z2.cell? ⟨w.heap.size + 1, 1, none⟩ = some (.int .i64 0) := FY4.out z2 LZ2.out 1 _ rfl
  have yc3_2 : z2.cell? ⟨w.heap.size + 1, 2, none⟩ = some (.int .i64 0) := FY4.out z2 LZ2.out 2 _ rfl
  have yc3_3 : z2.cell? ⟨w.heap.size + 1, 3, none⟩ = some (.int .i64 2) := FY4.out z2 LZ2.out 3 _ rfl
  have yc3_4 : z2.cell? ⟨w.heap.size + 1, 4, none⟩ = some (.int .i64 0) := FY4.out z2 LZ2.out 4 _ rfl
  have yc3_5 : z2.cell? ⟨w.heap.size + 1, 5, none⟩ = some (.bool false) := FY4.out z2 LZ2.out 5 _ rfl
  go_wp2_with fail
  refine (K4.out _ _ _ (HSP.out _ LZ2.out) (HT4.out _ LZ2.out)).mono ?_
  rintro e z3 ⟨rfl, hz3⟩
  have LZ3 := Lib.hid (LZ2.out.trans (hz3.mono LZ2.out.size))
  clear hz3 yc3_0 yc3_1 yc3_2 yc3_3 yc3_4 yc3_5 K4
  go_wp2_with fail
  refine (RN.out _ (HT4.out _ LZ3.out)).mono ?_
  rintro e z4 ⟨rfl, hz4⟩
  have LZ4 := Lib.hid (LZ3.out.trans (hz4.mono LZ3.out.size))
  clear hz4
  go_wp2_with fail
  refine (SN.out _ (HT4.out _ LZ4.out)).mono ?_
  rintro e z5 ⟨rfl, hz5⟩
  have LZ5 := Lib.hid (LZ4.out.trans (hz5.mono LZ4.out.size))
  clear hz5
  have qd : (dn.toList == dn.toList) = true := by simp
  go_wp2_with fail
  exact FIN4.out _ LZ5.out
end Go.Proofs.YtamiaalfjmppaaaDoor
