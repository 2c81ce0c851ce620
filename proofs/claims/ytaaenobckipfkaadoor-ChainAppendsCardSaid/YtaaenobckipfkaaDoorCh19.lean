/- The law ChainAppends, walked. Condition: the variables of digest and of strconv hold their numbers. -/
import Derived.Test.YtaaenobckipfkaaDoorCh18
import Derived.Test.YtaaenobckipfkaaDoorCh14
import Derived.Test.YtaaenobckipfkaaDoorChP
namespace Go.Proofs.YtaaenobckipfkaaDoor
open Go.RowKit Go.Blk Go.Opn Go.OpenShut Go.Apl

set_option maxRecDepth 100000 in
set_option maxHeartbeats 4000000 in
theorem appends31_any (A : Option Addr) (c : Nat) (l : List E31) (kk : K31) (w : World) (hl : l.length ≤ 9223372036854775807) (hlc : l.length ≤ c) (h : SL w 7 encE A l) (ho : ∀ a ∈ l, a.Ok) (hk : kk.Ok) (hT : HasT w) :
    Calls Tryd.prog 5 #[.slice A l.length c, .agg (encK kk).toArray] w fun r w' => r = .returned (.bool true) ∧ Below w.heap.size w w' := by
  obtain ⟨V, eV⟩ : ∃ V, V = w.alloc (.cells (encK kk).toArray 48) := ⟨_, rfl⟩
  have bk : Blk V w.heap.size (encK kk) 48 := by rw [eV]; exact Blk.new w (encK kk) 48
  have hbv : Below w.heap.size w V := by rw [eV]; exact (Below.refl _ _).alloc (Nat.le_refl _) _
  have BK := Lib.hid bk
  have HBV := Lib.hid hbv
  have HT := Lib.hid (hT.below hbv (Nat.le_refl _))
  have C1 : Hid (∀ w', Below w.heap.size w w' → Calls Tryd.prog 24 #[.slice A l.length c, .int .i64 14] w' fun e w2 => e = .returned (.bool (fewB l 14)) ∧ w' = w2) := fun w' hb => few_any A c 14 l w' (h.below hb (Nat.le_refl _)) hl
  obtain ⟨kh, ks, kp, kd, kb⟩ := kk
  obtain ⟨hk1, hk2, hk3, hk4, hk5⟩ := hk
  dsimp only at hk1 hk2 hk3 hk4 hk5
  clear bk hbv
  by_cases hfew : fewB l 14 = true
  · rw [hfew] at C1
    by_cases hbd : kb.size ≤ 2100
    · obtain ⟨hf, hl14⟩ := few_of ho hfew
      have hbd2 : ¬ (2100 : Int) < (kb.size : Int) := by omega
      by_cases hE : appE l kh ks kd kb = 0
      · have C2 : Hid (∀ w', Below w.heap.size w w' → _) := fun w' hb => app_yes A c l kh ks kd kb w' (h.below hb (Nat.le_refl _)) (by omega) hlc hf hk1 hk2 hk3 hk4 (by omega) (hT.below hb (Nat.le_refl _)) hE
        obtain ⟨hs, _, _⟩ := appE_ok hE
        have hck := chk_ok (app_chk hE)
        have hfa := few_app (secret := ks) hf (by omega) hk1 hk2 hk3 hk4 (show kb.size ≤ 1000000000 by omega)
        have hsg := sgnB_app (l := l) (house := kh) (day := kd) (body := kb) hs
        have c3 := fun w => pub_any ks w
        unfold pubE at c3
        simp only [if_pos hs] at c3
        obtain ⟨nw, enw⟩ : ∃ nw, nw = appN l kh ks kd kb := ⟨_, rfl⟩
        obtain ⟨y, ey⟩ : ∃ y, y = pubV ks := ⟨_, rfl⟩
        have hnw : nw = ⟨kh, l.length, kd, nw.prev, kb, nw.r, nw.s⟩ := by rw [enw]; rfl
        rw [← enw] at hck hfa hsg C2
        rw [← ey] at hck hsg
        simp only [← ey] at c3
        have C3 := Lib.hid c3
        have C4 : Hid (∀ w' b, SL w' 7 encE (some ⟨b, 0, none⟩) (l ++ [nw]) → HasT w' → Calls Tryd.prog 17 #[.slice (some ⟨b, 0, none⟩) (l.length + 1) (l.length + 1), .int .i64 kh, .int .i64 y] w' (ChkPost w' (0, -1))) := fun w' b hs hT => by
          have := check_any (some ⟨b, 0, none⟩) (l.length + 1) (l ++ [nw]) kh y w' hs (by simp; omega) (by simp) hfa hT
          rw [hck, List.length_append, List.length_singleton] at this; exact this
        have C5 : Hid (∀ w' b, Below w.heap.size w w' → SL w' 7 encE (some ⟨b, 0, none⟩) (l ++ [nw]) → Calls Tryd.prog 28 #[.slice (some ⟨b, 0, none⟩) l.length (l.length + 1), .slice A l.length c] w' fun e w2 => e = .returned (.bool true) ∧ Below w'.heap.size w' w2) := fun w' b hb hs => by
          have h1 := hs.take l.length
          rw [List.take_left] at h1
          have := same_any (some ⟨b, 0, none⟩) A (l.length + 1) c l l w' h1 (h.below hb (Nat.le_refl _)) hl
          rw [(sameB_iff l l).2 rfl] at this; exact this
        obtain ⟨f1, f2, f3⟩ := hfa nw (by simp)
        obtain ⟨tx, etx⟩ : ∃ tx, tx = txE nw := ⟨_, rfl⟩
        have htx : tx.size ≤ 1000000000000 := by have := txE_size f1; rw [etx]; omega
        have C6 : Hid (∀ w' : World, HasT w' → Calls Tryd.prog 19 #[.agg (encE nw).toArray] w' fun en w2 => en = .returned (.string tx) ∧ Below w'.heap.size w' w2) := fun w' hT => by
          have := text31_any nw w' f1 f2 f3 hT
          rw [← etx] at this; exact this
        have C7 : Hid (∀ w' : World, HasT w' → Calls Tryd.prog 18 #[.int .i64 y, .string tx, .agg #[.int .i64 nw.r, .int .i64 nw.s]] w' fun en w2 => en = .returned (.bool true) ∧ Below w'.heap.size w' w2) := fun w' hT => by
          have := ver_any y tx nw.r nw.s w' htx hT
          rw [show verB y tx nw.r nw.s = true from by rw [etx]; exact hsg] at this; exact this
        obtain ⟨pv, epv⟩ : ∃ pv, pv = nw.prev := ⟨_, rfl⟩
        obtain ⟨rr, err⟩ : ∃ rr, rr = nw.r := ⟨_, rfl⟩
        obtain ⟨ss, ess⟩ : ∃ ss, ss = nw.s := ⟨_, rfl⟩
        rw [← epv, ← err, ← ess] at hnw
        rw [← err, ← ess] at C7
        have HNW := Lib.hid hnw
        have HS := Lib.hid h
        have HT0 := Lib.hid hT
        clear h ho hT hfew hf hE hs hck hfa hsg c3 f1 f2 f3 etx htx epv err ess enw ey hnw
        go_enter Tryd.func5, Tryd.ntmps5
        go_wp2_with fail
        rw [← eV]
        refine (head31_any _ HT.out).mono ?_
        rintro e w1 ⟨rfl, hb1⟩
        have HB1 := Lib.hid (HBV.out.trans (hb1.mono HBV.out.size))
        have BK := Lib.hid (BK.out.below hb1 BK.out.lt)
        clear hb1
        have k0 := BK.out.cellD 0 _ rfl
        have k1 := BK.out.cellD 1 _ rfl
        have k3 := BK.out.cellD 3 _ rfl
        have k4 := BK.out.cellD 4 _ rfl
        go_wp2_with fail
        refine (C1.out _ HB1.out).mono ?_
        rintro e w' ⟨rfl, rfl⟩
        clear C1
        go_wp2_with fail
        refine (C2.out _ HB1.out).mono ?_
        rintro e w2 ⟨b, hbb, rfl, sl2, bl2⟩
        have S2 := Lib.hid sl2
        have HB2 := Lib.hid (HB1.out.trans (bl2.mono HB1.out.size))
        have BK := Lib.hid (BK.out.below bl2 BK.out.lt)
        clear hbb sl2 bl2 C2 HB1 k0 k1 k3 k4
        have k0 := BK.out.cellD 0 _ rfl
        have k1 := BK.out.cellD 1 _ rfl
        have k3 := BK.out.cellD 3 _ rfl
        have k4 := BK.out.cellD 4 _ rfl
        simp only
        go_wp2_with fail
        refine (C3.out _).mono ?_
        rintro e w' ⟨rfl, rfl⟩
        clear C3
        have hlw : IntKind.i64.wrap ((l.length : Int) + 1) = (l.length : Int) + 1 := IntWalk.i64_in _ (by omega)
        have hl00 : (0 : Int) ≤ (l.length : Int) := by omega
        have hl01 : (l.length : Int) ≤ (l.length : Int) + 1 := by omega
        go_wp2_with fail
        refine (C5.out _ b HB2.out S2.out).mono ?_
        rintro e w3 ⟨rfl, bl3⟩
        have S3 := Lib.hid (S2.out.below bl3 (Nat.le_refl _))
        have HB3 := Lib.hid (HB2.out.trans (bl3.mono HB2.out.size))
        have BK := Lib.hid (BK.out.below bl3 BK.out.lt)
        clear bl3 C5 HB2 S2 k0 k1 k3 k4
        have k0 := BK.out.cellD 0 _ rfl
        have k1 := BK.out.cellD 1 _ rfl
        have k3 := BK.out.cellD 3 _ rfl
        have k4 := BK.out.cellD 4 _ rfl
        go_wp2_with fail
        refine (C4.out _ b S3.out (HT0.out.below HB3.out (Nat.le_refl _))).mono ?_
        rintro e w4 ⟨rfl, bl4⟩
        have S4 := Lib.hid (S3.out.below bl4 (Nat.le_refl _))
        have HB4 := Lib.hid (HB3.out.trans (bl4.mono HB3.out.size))
        have BK := Lib.hid (BK.out.below bl4 BK.out.lt)
        clear bl4 C4 HB3 S3 k0 k1 k3 k4
        simp only
        rw [HNW.out] at S4 C6
        clear HNW
        obtain ⟨_, _, e1, hcl⟩ := S4.out.at_ (i := l.length) (e := ⟨kh, l.length, kd, pv, kb, rr, ss⟩) (by simp)
        cases e1
        have p0 := hcl 0 _ rfl
        have p1 := hcl 1 _ rfl
        have p2 := hcl 2 _ rfl
        have p3 := hcl 3 _ rfl
        have p4 := hcl 4 _ rfl
        have p5 := hcl 5 _ rfl
        have p6 := hcl 6 _ rfl
        simp only [Nat.zero_add, Nat.add_zero] at p0 p1 p2 p3 p4 p5 p6
        have hlt1 : (l.length : Int) < (l.length : Int) + 1 := by omega
        clear hcl
        go_wp2_with fail
        obtain ⟨U, eU⟩ : ∃ U, U = w4.alloc (.cells #[.int .i64 kh, .int .i64 l.length, .int .i64 kd, .string pv, .string kb, .int .i64 rr, .int .i64 ss] 37) := ⟨_, rfl⟩
        have bx : Blk U w4.heap.size [.int .i64 kh, .int .i64 l.length, .int .i64 kd, .string pv, .string kb, .int .i64 rr, .int .i64 ss] 37 := by rw [eU]; exact Blk.new w4 [.int .i64 kh, .int .i64 l.length, .int .i64 kd, .string pv, .string kb, .int .i64 rr, .int .i64 ss] 37
        have hbU : Below w4.heap.size w4 U := by rw [eU]; exact (Below.refl _ _).alloc (Nat.le_refl _) _
        have BK := Lib.hid (BK.out.below hbU BK.out.lt)
        have HBU := Lib.hid (HB4.out.trans (hbU.mono HB4.out.size))
        rw [← eU]
        have x0 := bx.cellD 0 _ rfl
        have x1 := bx.cellD 1 _ rfl
        have x2 := bx.cellD 2 _ rfl
        have x3 := bx.cellD 3 _ rfl
        have x4 := bx.cellD 4 _ rfl
        have x5 := bx.cellD 5 _ rfl
        have x6 := bx.cellD 6 _ rfl
        have k0 := BK.out.cellD 0 _ rfl
        have k1 := BK.out.cellD 1 _ rfl
        have k3 := BK.out.cellD 3 _ rfl
        have k4 := BK.out.cellD 4 _ rfl
        have TU : HasT U.drew := (HT0.out.below HBU.out (Nat.le_refl _)).below (B := U.heap.size) ⟨rfl, rfl, rfl, Nat.le_refl _, fun _ _ => rfl⟩ (Nat.le_refl _)
        clear p0 p1 p2 p3 p4 p5 p6 eU bx hbU HB4 S4
        refine Free.wp_region_free 45 [(40, .det (.string tx)), (43, .det (.bool true))] (fun w2 => HasT w2 ∧ w2.cell? ⟨w.heap.size, 0, none⟩ = some (.int .i64 kh) ∧ w2.cell? ⟨w.heap.size, 3, none⟩ = some (.int .i64 kd) ∧ w2.cell? ⟨w.heap.size, 4, none⟩ = some (.string kb) ∧ w2.cell? ⟨w4.heap.size, 0, none⟩ = some (.int .i64 kh) ∧ w2.cell? ⟨w4.heap.size, 1, none⟩ = some (.int .i64 l.length) ∧ w2.cell? ⟨w4.heap.size, 2, none⟩ = some (.int .i64 kd) ∧ w2.cell? ⟨w4.heap.size, 3, none⟩ = some (.string pv) ∧ w2.cell? ⟨w4.heap.size, 4, none⟩ = some (.string kb) ∧ w2.cell? ⟨w4.heap.size, 5, none⟩ = some (.int .i64 rr) ∧ w2.cell? ⟨w4.heap.size, 6, none⟩ = some (.int .i64 ss)) (by kernel_rfl) (by kernel_rfl) ?_ ⟨TU, k0, k3, k4, x0, x1, x2, x3, x4, x5, x6⟩
          (fun _ _ h g => ⟨h.1.below g (Nat.le_refl _), grow_cell h.2.1 g, grow_cell h.2.2.1 g, grow_cell h.2.2.2.1 g, grow_cell h.2.2.2.2.1 g, grow_cell h.2.2.2.2.2.1 g, grow_cell h.2.2.2.2.2.2.1 g, grow_cell h.2.2.2.2.2.2.2.1 g, grow_cell h.2.2.2.2.2.2.2.2.1 g, grow_cell h.2.2.2.2.2.2.2.2.2.1 g, grow_cell h.2.2.2.2.2.2.2.2.2.2 g⟩) ?_
        · intro j mk r hf
          simp only [Free.find] at hf
          repeat' split at hf
          all_goals (first | cases hf | skip)
        simp only [List.take_succ_cons, List.take_zero]
        clear k0 k1 k3 k4 x0 x1 x2 x3 x4 x5 x6 TU
        iterate 40 (apply Free.chain_still (by first | exact Free.wanted_of rfl rfl rfl | rfl) rfl; (intro w' hB hA; obtain ⟨qT, r0, r3, r4, q0, q1, q2, q3, q4, q5, q6⟩ := hB; clear hA  qT; go_light; go_simp <;> rfl); (try simp only [Act.put, List.setIfInBounds_toArray, List.set_cons_succ, List.set_cons_zero]))
        apply Free.chain_det (by first | exact Free.wanted_of rfl rfl rfl | rfl) rfl
        · intro w' hB hA
          refine Free.opRun_call (f := 19) (args := #[.agg (encE ⟨kh, l.length, kd, pv, kb, rr, ss⟩).toArray]) (by clear hB hA; go_simp <;> rfl) ?_
          refine (C6.out _ hB.1).mono ?_
          rintro e w3 ⟨rfl, hb3⟩
          exact ⟨_, rfl, hb3, rfl⟩
        simp only [Act.put, List.setIfInBounds_toArray, List.set_cons_succ, List.set_cons_zero]
        iterate 2 (apply Free.chain_still (by first | exact Free.wanted_of rfl rfl rfl | rfl) rfl; (intro w' hB hA; obtain ⟨qT, r0, r3, r4, q0, q1, q2, q3, q4, q5, q6⟩ := hB; clear hA  qT; go_light; go_simp <;> rfl); (try simp only [Act.put, List.setIfInBounds_toArray, List.set_cons_succ, List.set_cons_zero]))
        apply Free.chain_det (by first | exact Free.wanted_of rfl rfl rfl | rfl) rfl
        · intro w' hB hA
          refine Free.opRun_call (f := 18) (args := #[.int .i64 y, .string tx, .agg #[.int .i64 rr, .int .i64 ss]]) (by clear hB hA; go_simp <;> rfl) ?_
          refine (C7.out _ hB.1).mono ?_
          rintro e w3 ⟨rfl, hb3⟩
          exact ⟨_, rfl, hb3, rfl⟩
        simp only [Act.put, List.setIfInBounds_toArray, List.set_cons_succ, List.set_cons_zero]
        iterate 1 (apply Free.chain_still (by first | exact Free.wanted_of rfl rfl rfl | rfl) rfl; (intro w' hB hA; obtain ⟨qT, r0, r3, r4, q0, q1, q2, q3, q4, q5, q6⟩ := hB; clear hA  qT; go_light; go_simp <;> rfl); (try simp only [Act.put, List.setIfInBounds_toArray, List.set_cons_succ, List.set_cons_zero]))
        apply Free.chain_nil
        intro wz _ hg _
        simp only [List.drop_succ_cons, List.drop_zero]
        have hz := grow_drew2 hg
        have FIN := Lib.hid (HBU.out.trans (hz.mono HBU.out.size))
        clear hg hz HBU C6 C7
        go_wp2_with fail
        go_ret
        exact ⟨rfl, FIN.out⟩
      · have C2 : Hid (∀ w', Below w.heap.size w w' → Calls Tryd.prog 26 #[.slice A l.length c, .int .i64 kh, .int .i64 ks, .int .i64 kd, .string kb] w' fun e w2 => e = .returned (.tuple #[.slice none 0 0, .int .i64 (appE l kh ks kd kb)]) ∧ Below w'.heap.size w' w2) := fun w' hb => app_no A c l kh ks kd kb (appE l kh ks kd kb) w' (h.below hb (Nat.le_refl _)) (by omega) hlc hf hk1 hk2 hk3 hk4 (by omega) (hT.below hb (Nat.le_refl _)) rfl hE
        obtain ⟨E, eE⟩ : ∃ E, E = appE l kh ks kd kb := ⟨_, rfl⟩
        rw [← eE] at C2 hE
        have hcb : (E != 0) = true := by simpa using hE
        clear h ho hT hfew hf hE eE
        go_enter Tryd.func5, Tryd.ntmps5
        go_wp2_with fail
        rw [← eV]
        refine (head31_any _ HT.out).mono ?_
        rintro e w1 ⟨rfl, hb1⟩
        have HB1 := Lib.hid (HBV.out.trans (hb1.mono HBV.out.size))
        have BK := Lib.hid (BK.out.below hb1 BK.out.lt)
        clear hb1
        have k0 := BK.out.cellD 0 _ rfl
        have k1 := BK.out.cellD 1 _ rfl
        have k3 := BK.out.cellD 3 _ rfl
        have k4 := BK.out.cellD 4 _ rfl
        go_wp2_with fail
        refine (C1.out _ HB1.out).mono ?_
        rintro e w' ⟨rfl, rfl⟩
        clear C1
        go_wp2_with fail
        refine (C2.out _ HB1.out).mono ?_
        rintro e w2 ⟨rfl, bl2⟩
        have HB2 := Lib.hid (HB1.out.trans (bl2.mono HB1.out.size))
        clear bl2 HB1 C2
        go_wp2_with fail
        go_ret
        exact ⟨rfl, HB2.out⟩
    · have hbd2 : (2100 : Int) < (kb.size : Int) := by omega
      clear h ho hT hfew
      go_enter Tryd.func5, Tryd.ntmps5
      go_wp2_with fail
      rw [← eV]
      refine (head31_any _ HT.out).mono ?_
      rintro e w1 ⟨rfl, hb1⟩
      have HB1 := Lib.hid (HBV.out.trans (hb1.mono HBV.out.size))
      have BK := Lib.hid (BK.out.below hb1 BK.out.lt)
      clear hb1
      have k0 := BK.out.cellD 0 _ rfl
      have k1 := BK.out.cellD 1 _ rfl
      have k3 := BK.out.cellD 3 _ rfl
      have k4 := BK.out.cellD 4 _ rfl
      go_wp2_with fail
      refine (C1.out _ HB1.out).mono ?_
      rintro e w' ⟨rfl, rfl⟩
      clear C1
      go_wp2_with fail
      go_ret
      exact ⟨rfl, HB1.out⟩
  · have hff : fewB l 14 = false := by cases hb : fewB l 14 with | true => exact absurd hb hfew | false => rfl
    rw [hff] at C1
    clear h ho hT hfew hff
    go_enter Tryd.func5, Tryd.ntmps5
    go_wp2_with fail
    rw [← eV]
    refine (head31_any _ HT.out).mono ?_
    rintro e w1 ⟨rfl, hb1⟩
    have HB1 := Lib.hid (HBV.out.trans (hb1.mono HBV.out.size))
    have BK := Lib.hid (BK.out.below hb1 BK.out.lt)
    clear hb1
    have k0 := BK.out.cellD 0 _ rfl
    have k1 := BK.out.cellD 1 _ rfl
    have k3 := BK.out.cellD 3 _ rfl
    have k4 := BK.out.cellD 4 _ rfl
    go_wp2_with fail
    refine (C1.out _ HB1.out).mono ?_
    rintro e w' ⟨rfl, rfl⟩
    clear C1
    go_wp2_with fail
    go_ret
    exact ⟨rfl, HB1.out⟩
end Go.Proofs.YtaaenobckipfkaaDoor
