/- The reference of layer 29: Challenge, Sign, Verify: they return what package sign returns, for texts of at most 500000000 bytes. -/
import Derived.Test.YtaaenobckipfkaaDoorSgU
namespace Go.Proofs.YtaaenobckipfkaaDoor
open Go.RowKit Go.W32 Go.Blk Go.Sg

theorem grow_same {w w' : World} (h : w = w') : Free.Grow w w' := by subst h; exact Free.Grow.refl _
theorem rdec_int (n : Int) (w : World) (h0 : 0 ≤ n) (h1 : n ≤ 9223372036854775807) : Calls Tryd.prog 69 #[.int .i64 n] w fun e w' => e = .returned (.string (dec n)) ∧ Below w.heap.size w w' := by
  obtain ⟨n, rfl⟩ : ∃ m : Nat, n = m := ⟨n.toNat, by omega⟩
  exact rdec_any (n + 1) n w (by omega) (by omega)
set_option maxRecDepth 100000 in
theorem rch_any (r y : Int) (t : ByteArray) (w : World) (hr0 : 0 ≤ r) (hr1 : r ≤ 9223372036854775807) (hy0 : 0 ≤ y) (hy1 : y ≤ 9223372036854775807) (ht : t.size ≤ 500000000) :
    Calls Tryd.prog 70 #[.int .i64 r, .int .i64 y, .string t] w fun e w' => e = .returned (.int .i64 (chal r y t)) ∧ Below w.heap.size w w' := by
  have s1 := dec_size r (by omega) (by omega)
  have s2 := dec_size y (by omega) (by omega)
  have i1 := fun w => rdec_int r w hr0 hr1
  have i2 := fun w => rdec_int y w hy0 hy1
  have hsz : (chT r y t).size ≤ 1000000000 := by
    have e : (chT r y t).size = 2 + (dec r).size + 1 + (dec y).size + 1 + t.size := by unfold chT; rw [ba_size, ba_size, ba_size, ba_size, ba_size]; rfl
    omega
  have n1 := fun w => refnum_any (chT r y t) 2147483646 w hsz (by decide)
  unfold chal
  obtain ⟨a, ea⟩ : ∃ a, a = dec r := ⟨_, rfl⟩
  obtain ⟨b, eb⟩ : ∃ b, b = dec y := ⟨_, rfl⟩
  unfold chT at n1 hsz ⊢
  rw [← ea] at s1 hsz ⊢
  simp only [← ea] at i1 n1
  rw [← eb] at s2 hsz ⊢
  simp only [← eb] at i2 n1
  have I1 := Lib.hid i1
  have I2 := Lib.hid i2
  have N1 := Lib.hid n1
  clear i1 i2 n1 ea eb
  go_enter Tryd.func70, Tryd.ntmps70
  go_wp2_with fail
  refine (I1.out _).mono ?_
  rintro e w1 ⟨rfl, hb1⟩
  have HB1 := Lib.hid hb1
  clear hb1
  go_wp2_with fail
  refine (I2.out _).mono ?_
  rintro e w2 ⟨rfl, hb2⟩
  have HB2 := Lib.hid (HB1.out.trans (hb2.mono HB1.out.size))
  clear hb2
  go_wp2_with fail
  refine (N1.out _).mono ?_
  rintro e w3 ⟨rfl, hb3⟩
  have HB3 := Lib.hid (HB2.out.trans (hb3.mono HB2.out.size))
  clear hb3
  go_wp2_with fail
  go_ret
  exact ⟨rfl, HB3.out⟩
theorem rsign_no (x : Int) (t : ByteArray) (w : World) (hx : ¬ isSec x) :
    Calls Tryd.prog 50 #[.int .i64 x, .string t] w fun e w' => e = .returned (.tuple #[.agg #[.int .i64 0, .int .i64 0], .int .i64 1]) ∧ Below w.heap.size w w' := by
  have hp := fun w => rpub_any x w
  unfold pubV pubE at hp
  simp only [if_neg hx] at hp
  have HP := Lib.hid hp
  clear hp hx
  go_enter Tryd.func50, Tryd.ntmps50
  go_wp2_with fail
  refine (HP.out _).mono ?_
  rintro e w' ⟨rfl, rfl⟩
  go_wp2_with fail
  exact bodyPost_ret (v := .tuple #[.agg #[.int .i64 0, .int .i64 0], .int .i64 1]) (by simp [results, Tryd.results50, go_sem]) rfl ⟨rfl, (Below.refl _ _).alloc (Nat.le_refl _) _⟩
set_option maxRecDepth 100000 in
set_option maxHeartbeats 400000 in
theorem rsign_yes (x : Int) (t : ByteArray) (w : World) (hx : isSec x) (ht : t.size ≤ 500000000) (hT : HasT w) :
    Calls Tryd.prog 50 #[.int .i64 x, .string t] w fun e w' => e = .returned (.tuple #[.agg #[.int .i64 (sgR x t), .int .i64 (sgS x t)], .int .i64 0]) ∧ Below w.heap.size w w' := by
  have hp := fun w => rpub_any x w
  have hx1 : 1 ≤ x := hx.1
  have hx2 : x ≤ 2147483645 := hx.2
  have hpr := pubV_range x
  have hrr : 0 ≤ sgR x t ∧ sgR x t ≤ 2147483646 := power_range _ _
  have hcr := chal_range (sgR x t) (pubV x) t
  have hkr := sgK_range x t
  have s1 := dec_size x (by omega) (by omega)
  have i1 := fun w => rdec_int x w (by omega) (by omega)
  have hsz : (sgT x t).size ≤ 1000000000 := by
    have e : (sgT x t).size = 2 + (dec x).size + 1 + t.size := by unfold sgT; rw [ba_size, ba_size, ba_size]; rfl
    omega
  have n1 := fun w => refnum_any (sgT x t) 2147483645 w hsz (by decide)
  have c1 := fun w => rch_any (sgR x t) (pubV x) t w (by omega) (by omega) (by omega) (by omega) ht
  have p1 := fun w => rpower_any 7 (sgK x t) w (by omega)
  change ∀ w, Calls _ _ _ _ fun e w' => e = .returned (.int .i64 (sgR x t)) ∧ w = w' at p1
  have hpe : pubE x = 0 := by unfold pubE; rw [if_pos hx]
  rw [hpe] at hp
  have hS : sgS x t = (sgK x t + chal (sgR x t) (pubV x) t * x) % 2147483646 := rfl
  have hK : sgK x t = 1 + number KC (sgT x t) 2147483645 := rfl
  have hnr := number_range KC (sgT x t) 2147483645 (by decide)
  unfold sgT at n1
  obtain ⟨a, ea⟩ : ∃ a, a = dec x := ⟨_, rfl⟩
  obtain ⟨y, ey⟩ : ∃ y, y = pubV x := ⟨_, rfl⟩
  obtain ⟨r, er⟩ : ∃ r, r = sgR x t := ⟨_, rfl⟩
  obtain ⟨k, ek⟩ : ∃ k, k = sgK x t := ⟨_, rfl⟩
  obtain ⟨s, es⟩ : ∃ s, s = sgS x t := ⟨_, rfl⟩
  have enn : number KC (sgT x t) 2147483645 = k - 1 := by rw [ek, hK]; omega
  have enn2 : number KC ({ data := #[107, 32] } ++ dec x ++ { data := #[32] } ++ t) 2147483645 = k - 1 := enn
  obtain ⟨c, ec⟩ : ∃ c, c = chal (sgR x t) (pubV x) t := ⟨_, rfl⟩
  simp only [enn2] at n1
  rw [← ec] at hcr hS
  simp only [← ec] at c1
  rw [← ea] at s1; simp only [← ea] at i1 n1
  rw [← ey] at hpr; simp only [← ey] at hp c1
  rw [← er] at hrr ⊢; simp only [← er] at c1 p1
  rw [← ek] at hS hkr; simp only [← ek] at p1
  rw [← es] at hS ⊢
  have hm0 : 0 ≤ c * x := Int.mul_nonneg hcr.1 (by omega)
  have hm1 : c * x ≤ 4611686009837453316 := by
    have := Int.mul_le_mul (show c ≤ 2147483646 by omega) (show x ≤ 2147483646 by omega) (by omega) (by omega)
    omega
  obtain ⟨hk1, hk2⟩ := hkr
  have hk3 : 1 + (k - 1) = k := by omega
  have I1 := Lib.hid i1
  have N1 := Lib.hid n1
  have C1 := Lib.hid c1
  have P1 := Lib.hid p1
  have HP := Lib.hid hp
  have HS := Lib.hid hS
  clear i1 n1 c1 p1 hp hS hK enn enn2 ea ey er ek es ec hpe hx hnr hsz
  have HT0 := Lib.hid (hT.alloc (.cells #[.int .i64 0, .int .i64 0] 35))
  have HB0 := Lib.hid ((Below.refl w.heap.size w).alloc (Nat.le_refl _) (.cells #[.int .i64 0, .int .i64 0] 35))
  have B0 := Blk.new w [.int .i64 0, .int .i64 0] 35
  clear hT
  go_enter Tryd.func50, Tryd.ntmps50
  go_wp2_with fail
  refine (HP.out _).mono ?_
  rintro e w' ⟨rfl, rfl⟩
  go_wp2_with fail
  refine (I1.out _).mono ?_
  rintro e w1 ⟨rfl, hb1⟩
  have HT1 := Lib.hid (HT0.out.below hb1 (Nat.le_refl _))
  have HB1 := Lib.hid (HB0.out.trans (hb1.mono HB0.out.size))
  have B1 := B0.below hb1 B0.lt
  clear B0 hb1
  go_wp2_with fail
  refine (N1.out _).mono ?_
  rintro e w2 ⟨rfl, hb2⟩
  have HT2 := Lib.hid (HT1.out.below hb2 (Nat.le_refl _))
  have HB2 := Lib.hid (HB1.out.trans (hb2.mono HB1.out.size))
  have B2 := B1.below hb2 B1.lt
  clear B1 hb2
  go_wp2_with fail
  refine (P1.out _).mono ?_
  rintro e w' ⟨rfl, rfl⟩
  go_wp2_with fail
  refine (C1.out _).mono ?_
  rintro e w3 ⟨rfl, hb3⟩
  have HT3 := Lib.hid (HT2.out.below hb3 (Nat.le_refl _))
  have HB3 := Lib.hid (HB2.out.trans (hb3.mono HB2.out.size))
  have B3 := B2.below hb3 B2.lt
  have h0 := B3.cell 0 (by simp)
  have h1 := B3.cell 1 (by simp)
  have f0 := B3.frozen 0
  have f1 := B3.frozen 1
  simp only [List.getElem_cons_zero, List.getElem_cons_succ] at h0 h1
  have B4 := (B3.set 0 (.int .i64 r)).set 1 (.int .i64 ((k + c * x) % 2147483646))
  have h40 := B4.cell 0 (by simp)
  have h41 := B4.cell 1 (by simp)
  simp at h40 h41
  clear B2 B3 B4 hb3
  go_wp2_with fail
  refine bodyPost_ret (v := .tuple #[.agg #[.int .i64 r, .int .i64 s], .int .i64 0]) ?_ rfl ⟨rfl, (HB3.out.setCell (Nat.le_refl _) _).setCell (Nat.le_refl _) _⟩
  rw [HS.out]
  simp [results, Tryd.results50, go_sem, h40, h41]

theorem rver_no (y : Int) (t : ByteArray) (r s : Int) (w : World) (h : ¬ verOk y r s) :
    Calls Tryd.prog 71 #[.int .i64 y, .string t, .agg #[.int .i64 r, .int .i64 s]] w fun e w' => e = .returned (.bool false) ∧ Below w.heap.size w w' := by
  have B0 := Blk.new w [.int .i64 r, .int .i64 s] 35
  have h0 := B0.cell 0 (by simp)
  have h1 := B0.cell 1 (by simp)
  simp only [List.getElem_cons_zero, List.getElem_cons_succ] at h0 h1
  have HV := Lib.hid h
  clear B0 h
  by_cases r1 : r < 1
  · go_enter Tryd.func71, Tryd.ntmps71
    go_wp2_with fail
    go_ret
    exact ⟨rfl, (Below.refl _ _).alloc (Nat.le_refl _) _⟩
  · by_cases r2 : 2147483646 < r
    · go_enter Tryd.func71, Tryd.ntmps71
      go_wp2_with fail
      go_ret
      exact ⟨rfl, (Below.refl _ _).alloc (Nat.le_refl _) _⟩
    · by_cases s1 : s < 0
      · go_enter Tryd.func71, Tryd.ntmps71
        go_wp2_with fail
        go_ret
        exact ⟨rfl, (Below.refl _ _).alloc (Nat.le_refl _) _⟩
      · by_cases s2 : 2147483645 < s
        · go_enter Tryd.func71, Tryd.ntmps71
          go_wp2_with fail
          go_ret
          exact ⟨rfl, (Below.refl _ _).alloc (Nat.le_refl _) _⟩
        · by_cases y1 : y < 1
          · go_enter Tryd.func71, Tryd.ntmps71
            go_wp2_with fail
            go_ret
            exact ⟨rfl, (Below.refl _ _).alloc (Nat.le_refl _) _⟩
          · have y2 : 2147483646 < y := Classical.byContradiction fun y2 => HV.out ⟨by omega, by omega, by omega, by omega, by omega, by omega⟩
            go_enter Tryd.func71, Tryd.ntmps71
            go_wp2_with fail
            go_ret
            exact ⟨rfl, (Below.refl _ _).alloc (Nat.le_refl _) _⟩
set_option maxRecDepth 100000 in
set_option maxHeartbeats 1000000 in
theorem rver_yes (y : Int) (t : ByteArray) (r s : Int) (w : World) (h : verOk y r s) (ht : t.size ≤ 500000000) :
    Calls Tryd.prog 71 #[.int .i64 y, .string t, .agg #[.int .i64 r, .int .i64 s]] w fun e w' => e = .returned (.bool (power 7 s == r * power y (chal r y t) % 2147483647)) ∧ Below w.heap.size w w' := by
  obtain ⟨hr1, hr2, hs1, hs2, hy1, hy2⟩ := h
  have B0 := Blk.new w [.int .i64 r, .int .i64 s] 35
  have h0 := B0.cell 0 (by simp)
  have h1 := B0.cell 1 (by simp)
  simp only [List.getElem_cons_zero, List.getElem_cons_succ] at h0 h1
  have hcr := chal_range r y t
  have c1 := fun w => rch_any r y t w (by omega) (by omega) (by omega) (by omega) ht
  have p1 := fun w => rpower_any y (chal r y t) w (by omega)
  have p2 := fun w => rpower_any 7 s w (by omega)
  have hpr := power_range y (chal r y t)
  obtain ⟨c, ec⟩ : ∃ c, c = chal r y t := ⟨_, rfl⟩
  rw [← ec] at hcr hpr ⊢
  simp only [← ec] at c1 p1
  obtain ⟨q, eq⟩ : ∃ q, q = power y c := ⟨_, rfl⟩
  rw [← eq] at hpr ⊢
  simp only [← eq] at p1
  obtain ⟨v, ev⟩ : ∃ v, v = power 7 s := ⟨_, rfl⟩
  rw [← ev]
  simp only [← ev] at p2
  have hm0 : 0 ≤ r * q := Int.mul_nonneg (by omega) hpr.1
  have hm1 : r * q ≤ 4611686009837453316 := by
    have := Int.mul_le_mul hr2 hpr.2 (by omega) (by omega)
    omega
  have C1 := Lib.hid c1
  have P1 := Lib.hid p1
  have P2 := Lib.hid p2
  have HB0 := Lib.hid ((Below.refl w.heap.size w).alloc (Nat.le_refl _) (.cells #[.int .i64 r, .int .i64 s] 35))
  have W1 := Lib.hid (IntWalk.i64_in (r * q) (by omega))
  have W2 := Lib.hid (Int.tmod_eq_emod_of_nonneg (b := 2147483647) hm0)
  clear ec eq ev c1 p1 p2 B0
  go_enter Tryd.func71, Tryd.ntmps71
  go_wp2_with fail
  refine Free.wp_region_free 15 [(2, .det (.int .i64 v)), (10, .det (.int .i64 c)), (11, .det (.int .i64 q))] (fun w' => w'.cell? ⟨w.heap.size, 0, none⟩ = some (.int .i64 r) ∧ w'.cell? ⟨w.heap.size, 1, none⟩ = some (.int .i64 s)) (by kernel_rfl) (by kernel_rfl) ?_ ⟨h0, h1⟩ (fun _ _ h g => ⟨cell_grow h.1 g, cell_grow h.2 g⟩) ?_
  · intro j mk r hf
    simp only [Free.find] at hf
    repeat' split at hf
    all_goals (first | cases hf | skip)
  · simp only [List.take_succ_cons, List.take_zero]
    clear h0 h1
    have w1 := W1.out
    have w2 := W2.out
    iterate 2 (apply Free.chain_still (by first | exact Free.wanted_of rfl rfl rfl | rfl) rfl; (intro w' hB hA; obtain ⟨q1, q2⟩ := hB; clear hA ; go_light; go_simp <;> rfl); (try simp only [Act.put, List.setIfInBounds_toArray, List.set_cons_succ, List.set_cons_zero]))
    apply Free.chain_det rfl rfl
    · intro w' ⟨q1, q2⟩ hA
      refine Free.opRun_call (f := 67) (args := #[.int .i64 7, .int .i64 s]) (by clear q1 q2 hA; go_simp) ?_
      refine (P2.out _).mono ?_
      rintro e w3 ⟨rfl, hb3⟩
      exact ⟨_, rfl, grow_same hb3, rfl⟩
    simp only [Act.put, List.setIfInBounds_toArray, List.set_cons_succ, List.set_cons_zero]
    iterate 7 (apply Free.chain_still (by first | exact Free.wanted_of rfl rfl rfl | rfl) rfl; (intro w' hB hA; obtain ⟨q1, q2⟩ := hB; clear hA ; go_light; go_simp <;> rfl); (try simp only [Act.put, List.setIfInBounds_toArray, List.set_cons_succ, List.set_cons_zero]))
    apply Free.chain_det rfl rfl
    · intro w' ⟨q1, q2⟩ hA
      refine Free.opRun_call (f := 70) (args := #[.int .i64 r, .int .i64 y, .string t]) (by clear q1 q2 hA; go_simp) ?_
      refine (C1.out _).mono ?_
      rintro e w3 ⟨rfl, hb3⟩
      exact ⟨_, rfl, hb3, rfl⟩
    simp only [Act.put, List.setIfInBounds_toArray, List.set_cons_succ, List.set_cons_zero]
    apply Free.chain_det rfl rfl
    · intro w' ⟨q1, q2⟩ hA
      refine Free.opRun_call (f := 67) (args := #[.int .i64 y, .int .i64 c]) (by clear q1 q2 hA; go_simp) ?_
      refine (P1.out _).mono ?_
      rintro e w3 ⟨rfl, hb3⟩
      exact ⟨_, rfl, grow_same hb3, rfl⟩
    simp only [Act.put, List.setIfInBounds_toArray, List.set_cons_succ, List.set_cons_zero]
    iterate 3 (apply Free.chain_still (by first | exact Free.wanted_of rfl rfl rfl | rfl) rfl; (intro w' hB hA; obtain ⟨q1, q2⟩ := hB; clear hA ; go_light; go_simp <;> rfl); (try simp only [Act.put, List.setIfInBounds_toArray, List.set_cons_succ, List.set_cons_zero]))
    apply Free.chain_nil
    intro w3 _ hg _
    have hg' := grow_drew hg
    have HB3 := Lib.hid (HB0.out.trans (hg'.mono HB0.out.size))
    clear hg hg' w1 w2
    simp only [List.drop_succ_cons, List.drop_zero]
    go_wp2_with fail
    go_ret
    exact ⟨rfl, HB3.out⟩
theorem rver_any (y : Int) (t : ByteArray) (r s : Int) (w : World) (ht : t.size ≤ 500000000) :
    Calls Tryd.prog 71 #[.int .i64 y, .string t, .agg #[.int .i64 r, .int .i64 s]] w fun e w' => e = .returned (.bool (verB y t r s)) ∧ Below w.heap.size w w' := by
  unfold verB
  by_cases h : verOk y r s
  · rw [decide_eq_true h, Bool.true_and]; exact rver_yes y t r s w h ht
  · rw [decide_eq_false h, Bool.false_and]; exact rver_no y t r s w h
end Go.Proofs.YtaaenobckipfkaaDoor
