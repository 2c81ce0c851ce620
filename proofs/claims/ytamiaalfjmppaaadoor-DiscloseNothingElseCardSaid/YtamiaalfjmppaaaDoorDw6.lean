/- The law DiscloseNothingElse, walked. Condition: the variables of digest and of strconv hold their numbers. -/
import Derived.Test.YtamiaalfjmppaaaDoorDw4
import Derived.Test.YtamiaalfjmppaaaDoorDw5
namespace Go.Proofs.YtamiaalfjmppaaaDoor
open Go.RowKit Go.Blk Go.Sg Go.Opn Go.Di Go.Apl Go.Rf

theorem claim_fac {w : World} {b : Nat} {x : Clm} {v : Value} (h : Blk w b (encC x v) 50) : ∀ p u, (encF x.x)[p]? = some u → w.cell? ⟨b, 2 + p, none⟩ = some u := fun p u hu => by
  rw [Nat.add_comm]
  refine h.cellD (p + 2) u ?_
  have hp6 : p < (encF x.x).length := (List.getElem?_eq_some_iff.1 hu).1
  show (encF x.x ++ _)[p]? = _
  rw [List.getElem?_append_left hp6]; exact hu
theorem clash_found {l : List Fac} {salts : List ByteArray} {I : Nat} {x y : Fac} {s : ByteArray} {p : List ByteArray} (hx : x.Ok) (hy : y.Ok) (hl : l.length ≤ 40) (hI : l[I]? = some y) (hne : ¬ (x = y ∧ s = saltA salts I))
    (h : checkD (rootOf (leavesA l salts)) (l.length : Int) (I : Int) x s p = true) :
    ∃ (j : Nat) (a b : ByteArray), (txtD (leafT x s) (sidesL I l.length) p.reverse)[j]? = some a ∧ (txtD (leafT y (saltA salts I)) (sidesL I l.length) (pathL (leavesA l salts) I).reverse)[j]? = some b ∧ clashB a b = true := by
  have h2 := check_leaf (salts := salts) (by omega) hI
  unfold checkD at h h2
  rw [Int.toNat_natCast, Int.toNat_natCast, Bool.and_eq_true, Bool.and_eq_true, decide_eq_true_eq, decide_eq_true_eq, decide_eq_true_eq] at h h2
  have e1 : leafD x s = sumB KC (leafT x s) := rfl
  have e2 : leafD y (saltA salts I) = sumB KC (leafT y (saltA salts I)) := rfl
  rw [e1] at h
  rw [e2] at h2
  rcases no_clash (sidesL I l.length) p.reverse (pathL (leavesA l salts) I).reverse (by rw [sides_len, List.length_reverse]; exact h.2.1.symm) (by rw [sides_len, List.length_reverse]; exact h2.2.1.symm) (h.2.2.trans h2.2.2.symm) with h3 | ⟨j, a, b, ha, hb, hab, hs⟩
  · exact absurd (leafT_inj hx hy h3) hne
  · refine ⟨j, a, b, ha, hb, ?_⟩
    unfold clashB
    rw [decide_eq_true hab, decide_eq_true hs]; rfl
theorem rootL_med (l : List ByteArray) (h : Med l) (h2 : l.length < 9223372036854775808) : (rootL l).size ≤ 900000000 := by
  by_cases hl : 2 ≤ l.length
  · rw [rootL_more hl h2]
    have : (nodeD (rootL (l.take (half l.length))) (rootL (l.drop (half l.length)))).size = 64 := tagD_size _ _ _
    omega
  · match l, hl with
    | [], _ => rw [rootL, if_pos (by decide)]; decide
    | [b], _ => rw [rootL_one]; exact h b (by simp)
    | _ :: _ :: _, hl => simp at hl
theorem outP_med : ∀ (p : List (Nat × Bool)) (l : List ByteArray), Med l → l.length < 9223372036854775808 → Med (outP l p)
  | [], _, _, _ => fun b hb => by cases hb
  | x :: p, l, h, h2 => by
    have t1 : Med (l.take x.1) := fun b hb => h b (List.mem_of_mem_take hb)
    have t2 : Med (l.drop x.1) := fun b hb => h b (List.mem_of_mem_drop hb)
    have n1 : (l.take x.1).length < 9223372036854775808 := by rw [List.length_take]; omega
    have n2 : (l.drop x.1).length < 9223372036854775808 := by rw [List.length_drop]; omega
    intro b hb
    have hb : b ∈ rootL (if x.2 then l.drop x.1 else l.take x.1) :: outP (if x.2 then l.take x.1 else l.drop x.1) p := hb
    rcases List.mem_cons.1 hb with rfl | hb
    · split
      · exact rootL_med _ t2 n2
      · exact rootL_med _ t1 n1
    · refine outP_med p _ ?_ ?_ b hb
      · split <;> assumption
      · split <;> assumption
theorem path_med (l : List ByteArray) (i : Nat) (h : Med l) (h2 : l.length < 9223372036854775808) : Med (pathL l i) := fun b hb => outP_med _ l h h2 b (List.mem_reverse.1 hb)
theorem leavesA_med (l : List Fac) (salts : List ByteArray) : Med (leavesA l salts) := fun b hb => by
  obtain ⟨i, hi⟩ := List.mem_iff_getElem?.1 hb
  unfold leavesA at hi
  rw [List.getElem?_mapIdx] at hi
  cases hl : l[i]? with
  | none => rw [hl] at hi; cases hi
  | some x =>
    rw [hl] at hi
    have : b = leafD x (saltA salts i) := (Option.some.inj hi).symm
    rw [this]
    have : (leafD x (saltA salts i)).size = 64 := tagD_size _ _ _
    omega
attribute [local irreducible] sumB
theorem txtD_short (t : ByteArray) (ht : t.size ≤ 1000000000) : ∀ (bs : List Bool) (qs : List ByteArray), Med qs → Short (txtD t bs qs)
  | [], [], _ => fun b hb => by have : b = t := by simpa [txtD] using hb
                                subst this; exact ht
  | [], _ :: _, _ => fun b hb => by have : b = t := by simpa [txtD] using hb
                                    subst this; exact ht
  | _ :: _, [], _ => fun b hb => by have : b = t := by simpa [txtD] using hb
                                    subst this; exact ht
  | b :: bs, q :: qs, h => by
    have h1 := txtD_short t ht bs qs (fun x hx => h x (by simp [hx]))
    have h2 := txtD_small t ht (b :: bs) (q :: qs) h
    rw [txtD_cons, last_snoc] at h2
    rw [txtD_cons]
    intro x hx
    rcases List.mem_append.1 hx with hx | hx
    · exact h1 x hx
    · rw [List.mem_singleton] at hx
      rw [hx]; exact h2
theorem own_at_texts {w : World} {B n : Nat} {v : Value} {l : List ByteArray} (h : w.ownsRow B 9 1 v (n + 1) (l.map Value.string)) (hl : l.length = n + 1) :
    ∃ g cap cur, v = .slice (some ⟨g, 0, none⟩) (n + 1) cap ∧ B ≤ g ∧ w.heap[g]? = some (.cells cur 9 (0, 0)) ∧ n + 1 ≤ cap ∧ cap ≤ 9223372036854775807 ∧ cur.toList.take ((n + 1) * 1) = l.flatMap encS ∧ n = n ∧ SL w 1 encS (some ⟨g, 0, none⟩) l := by
  rw [← hl, ← encS_map] at h
  obtain ⟨g, cap, cur, h1, h2, h3, h4, h5, h6, h7⟩ := own_at encS_len h (fun e => by rw [e] at hl; simp at hl)
  rw [hl] at h1 h4 h6
  exact ⟨g, cap, cur, h1, h2, h3, h4, h5, h6, rfl, h7⟩
def RCl (w : World) (a b : List ByteArray) (n : Nat) (i : Value) (wr : World) : Prop := ∃ k : Nat, k ≤ n ∧ i = .int .i64 (k : Int) ∧ (∀ j x y, j < k → a[j]? = some x → b[j]? = some y → clashB x y = false) ∧ Below w.heap.size w wr
set_option maxRecDepth 100000 in
set_option maxHeartbeats 4000000 in
theorem nothing34_law (A B D : Option Addr) (c d f : Nat) (l : List Fac) (salts p : List ByteArray) (x : Clm) (w : World) (hl0 : l.length ≤ 9223372036854775807) (hs0 : SL w 6 encF A l) (ho : ∀ a ∈ l, a.Ok)
    (hl1 : salts.length ≤ 9223372036854775807) (hs1 : SL w 1 encS B salts) (hx : x.Ok) (hl2 : p.length ≤ 9223372036854775807) (hc2 : p.length ≤ f) (hs2 : SL w 1 encS D p) (hT : HasT w) :
    Calls Tryd.prog 6 #[.slice A l.length c, .slice B salts.length d, .agg (encC x (.slice D p.length f)).toArray] w fun r w' => r = .returned (.bool true) ∧ Below w.heap.size w w' := by
  obtain ⟨R, eR⟩ : ∃ R : Ending → World → Prop, R = fun r w' => r = .returned (.bool true) ∧ Below w.heap.size w w' := ⟨_, rfl⟩
  rw [← eR]
  have FIN0 : Hid (∀ w', Below w.heap.size w w' → R (.returned (.bool true)) w') := fun w' hb => by rw [eR]; exact ⟨rfl, hb⟩
  obtain ⟨n, i, ⟨xr, xa, xl, xh, xf, xs⟩, s, r⟩ := x
  obtain ⟨V, eV⟩ : ∃ V, V = w.alloc (.cells (encC ⟨n, i, ⟨xr, xa, xl, xh, xf, xs⟩, s, r⟩ (.slice D p.length f)).toArray 50) := ⟨_, rfl⟩
  have HBV : Hid (Below w.heap.size w V) := by rw [eV]; exact (Below.refl _ w).alloc (Nat.le_refl _) _
  have FIN : Hid (∀ w', Below V.heap.size V w' → R (.returned (.bool true)) w') := fun w' hb => FIN0.out w' (HBV.out.trans (hb.mono HBV.out.size))
  have BC : Hid (∀ w', Below V.heap.size V w' → Blk w' w.heap.size (encC ⟨n, i, ⟨xr, xa, xl, xh, xf, xs⟩, s, r⟩ (.slice D p.length f)) 50) := fun w' hb => by
    have h0 : Blk V w.heap.size (encC ⟨n, i, ⟨xr, xa, xl, xh, xf, xs⟩, s, r⟩ (.slice D p.length f)) 50 := by rw [eV]; exact Blk.new w _ _
    exact h0.below hb h0.lt
  have HXO : Hid ((⟨xr, xa, xl, xh, xf, xs⟩ : Fac).Ok) := hx.x
  have S0 := Lib.hid (hs0.below HBV.out (Nat.le_refl _))
  have S1 := Lib.hid (hs1.below HBV.out (Nat.le_refl _))
  have S2 := Lib.hid (hs2.below HBV.out (Nat.le_refl _))
  have OK := Lib.hid ho
  have HT := Lib.hid (hT.below HBV.out (Nat.le_refl _))
  have HH := Lib.hid (head34_any V HT.out)
  have EV : Hid (w.alloc (.cells #[.int .i64 n, .int .i64 i, .int .i64 xr, .int .i64 xa, .int .i64 xl, .int .i64 xh, .int .i64 xf, .bool xs, .string s, .string r, .slice D p.length f] 50) = V) := eV.symm
  clear eR hs0 hs1 hs2 hT eV hx ho FIN0
  show Calls Tryd.prog 6 #[.slice A l.length c, .slice B salts.length d, .agg #[.int .i64 n, .int .i64 i, .int .i64 xr, .int .i64 xa, .int .i64 xl, .int .i64 xh, .int .i64 xf, .bool xs, .string s, .string r, .slice D p.length f]] w R
  go_enter Tryd.func6, Tryd.ntmps6
  go_wp2_with fail
  rw [EV.out]
  refine HH.out.mono ?_
  rintro e w1 ⟨rfl, hb1⟩
  have HB1 := Lib.hid hb1
  clear hb1 HH EV
  by_cases hl40 : 40 < l.length
  · have q1 : (40 : Int) < (l.length : Int) := by omega
    clear hl40
    go_wp2_with fail
    exact FIN.out _ HB1.out
  have ql : ¬ (40 : Int) < (l.length : Int) := by omega
  have CSa := Lib.hid (small_any B d 40 salts w1 (S1.out.below HB1.out (Nat.le_refl _)) hl1)
  obtain ⟨F, eF⟩ : ∃ F, F = smallB salts 40 := ⟨_, rfl⟩
  rw [← eF] at CSa
  have EF := Lib.hid eF
  clear eF
  go_wp2_with fail
  refine CSa.out.mono ?_
  rintro e w' ⟨rfl, rfl⟩
  clear CSa
  cases F with
  | false =>
    go_wp2_with fail
    exact FIN.out _ HB1.out
  | true =>
  have CSb := Lib.hid (small_any D f 40 p w1 (S2.out.below HB1.out (Nat.le_refl _)) hl2)
  obtain ⟨G, eG⟩ : ∃ G, G = smallB p 40 := ⟨_, rfl⟩
  rw [← eG] at CSb
  have EG := Lib.hid eG
  clear eG
  have qb := BC.out _ HB1.out
  have ce0 := qb.cellD 0 _ rfl
  have ce1 := qb.cellD 1 _ rfl
  have ce2 := qb.cellD 2 _ rfl
  have ce3 := qb.cellD 3 _ rfl
  have ce4 := qb.cellD 4 _ rfl
  have ce5 := qb.cellD 5 _ rfl
  have ce6 := qb.cellD 6 _ rfl
  have ce7 := qb.cellD 7 _ rfl
  have ce8 := qb.cellD 8 _ rfl
  have ce9 := qb.cellD 9 _ rfl
  have ce10 := qb.cellD 10 _ rfl
  clear qb
  go_wp2_with fail
  refine CSb.out.mono ?_
  rintro e w' ⟨rfl, rfl⟩
  clear CSb
  cases G with
  | false =>
    go_wp2_with fail
    exact FIN.out _ HB1.out
  | true =>
  have SA := Lib.hid (smallB_short EF.out.symm)
  have SB := Lib.hid (smallB_short EG.out.symm)
  clear EF EG
  by_cases hs200 : 200 < s.size
  · have q1 : (200 : Int) < (s.size : Int) := by omega
    go_wp2_with fail
    exact FIN.out _ HB1.out
  have qs : ¬ (200 : Int) < (s.size : Int) := by omega
  have ha40 := SA.out.1
  have hp40 := SB.out.1
  have CL := Lib.hid (leaves_any A B c d l salts w1 (S0.out.below HB1.out (Nat.le_refl _)) (S1.out.below HB1.out (Nat.le_refl _)) (by omega) OK.out (short_200 SA.out.2) (HT.out.below HB1.out (Nat.le_refl _)))
  go_wp2_with fail
  refine CL.out.mono ?_
  rintro e w2 ⟨⟨A', c', hc', rfl, hsl⟩, hb2⟩
  have HB2 := Lib.hid (HB1.out.trans (hb2.mono HB1.out.size))
  have HSL := Lib.hid hsl
  have LV := Lib.hid (leavesA_len l salts)
  have LVS := Lib.hid (leavesA_short l salts)
  have CR : Hid (∀ w', Below w2.heap.size w2 w' → Calls Tryd.prog 16 #[.slice A' l.length c'] w' fun e w3 => e = .returned (.string (rootOf (leavesA l salts))) ∧ Below w'.heap.size w' w3) := fun w' hb => by
    have := root_any (leavesA l salts) A' c' w' (by rw [LV.out]; exact hc') (by rw [LV.out]; omega) (hsl.below hb (Nat.le_refl _)) LVS.out (HT.out.below (HB2.out.trans (hb.mono HB2.out.size)) (Nat.le_refl _))
    rw [LV.out] at this
    exact this
  have CC : Hid (∀ w', Below V.heap.size V w' → Calls Tryd.prog 19 #[.string (rootOf (leavesA l salts)), .int .i64 (l.length : Int), .int .i64 i, .agg (encF ⟨xr, xa, xl, xh, xf, xs⟩).toArray, .string s, .slice D p.length f] w' fun e w2 => e = .returned (.bool (checkD (rootOf (leavesA l salts)) (l.length : Int) i ⟨xr, xa, xl, xh, xf, xs⟩ s p)) ∧ Below w'.heap.size w' w2) := fun w' hb =>
    check_dis _ (l.length : Int) i _ s p D f w' HXO.out (by omega) (by omega) (S2.out.below hb (Nat.le_refl _)) (short_200 SB.out.2) (HT.out.below hb (Nat.le_refl _))
  obtain ⟨C, eC⟩ : ∃ C, C = checkD (rootOf (leavesA l salts)) (l.length : Int) i ⟨xr, xa, xl, xh, xf, xs⟩ s p := ⟨_, rfl⟩
  rw [← eC] at CC
  obtain ⟨rt, ert⟩ : ∃ rt, rt = rootOf (leavesA l salts) := ⟨_, rfl⟩
  rw [← ert] at CR CC
  have EC := Lib.hid eC
  have ERT := Lib.hid ert
  clear ce0 ce1 ce2 ce3 ce4 ce5 ce6 ce7 ce8 ce9 ce10
  obtain ⟨k1, k8, k10⟩ : w2.cell? ⟨w.heap.size, 1, none⟩ = some (.int .i64 i) ∧ w2.cell? ⟨w.heap.size, 8, none⟩ = some (.string s) ∧ w2.cell? ⟨w.heap.size, 10, none⟩ = some (.slice D p.length f) :=
    ⟨(BC.out _ HB2.out).cellD 1 _ rfl, (BC.out _ HB2.out).cellD 8 _ rfl, (BC.out _ HB2.out).cellD 10 _ rfl⟩
  clear hb2 hsl CL eC ert
  go_wp2_with fail
  refine Free.wp_region_free 14 [(1, .det (.string rt)), (12, .det (.bool C))] (fun y => Below w2.heap.size w2 y ∧ y.cell? ⟨w.heap.size, 1, none⟩ = some (.int .i64 i) ∧ y.cell? ⟨w.heap.size, 8, none⟩ = some (.string s) ∧ y.cell? ⟨w.heap.size, 10, none⟩ = some (.slice D p.length f)) (by kernel_rfl) (by kernel_rfl) (Free.mono_det (fun j mk r hf => by simp only [Free.find] at hf; repeat' (first | cases hf | split at hf))) ⟨(Below.refl _ _).drew, k1, k8, k10⟩ (fun _ _ h g => ⟨h.1.trans (Below.mono g h.1.size), cell_grow h.2.1 g, cell_grow h.2.2.1 g, cell_grow h.2.2.2 g⟩) ?_
  simp only [List.take_succ_cons, List.take_zero]
  clear k1 k8 k10
  iterate 1 (apply Free.chain_still (by first | exact Free.wanted_of rfl rfl rfl | rfl) rfl; (intro w' hB hA; obtain ⟨qB, r1, r8, r10⟩ := hB; clear hA  qB; go_light; go_simp <;> rfl); (try simp only [Act.put, List.setIfInBounds_toArray, List.set_cons_succ, List.set_cons_zero]))
  apply Free.chain_det (by first | exact Free.wanted_of rfl rfl rfl | rfl) rfl
  · intro w' hB hA
    refine Free.opRun_call (f := 16) (args := #[.slice A' l.length c']) (by clear hB hA; go_simp <;> rfl) ?_
    refine (CR.out w' hB.1).mono ?_
    rintro e w3 ⟨rfl, hb3⟩
    exact ⟨_, rfl, hb3, rfl⟩
  simp only [Act.put, List.setIfInBounds_toArray, List.set_cons_succ, List.set_cons_zero]
  iterate 5 (apply Free.chain_still (by first | exact Free.wanted_of rfl rfl rfl | rfl) rfl; (intro w' hB hA; obtain ⟨qB, r1, r8, r10⟩ := hB; clear hA  qB; go_light; go_simp <;> rfl); (try simp only [Act.put, List.setIfInBounds_toArray, List.set_cons_succ, List.set_cons_zero]))
  apply Free.chain_still (by first | exact Free.wanted_of rfl rfl rfl | rfl) rfl
  · intro w' hB hA
    exact exec_fac (x := ⟨xr, xa, xl, xh, xf, xs⟩) (b := w.heap.size) (off := 2) rfl rfl (claim_fac (BC.out w' (HB2.out.trans (hB.1.mono HB2.out.size))))
  simp only [Act.put, List.setIfInBounds_toArray, List.set_cons_succ, List.set_cons_zero]
  iterate 4 (apply Free.chain_still (by first | exact Free.wanted_of rfl rfl rfl | rfl) rfl; (intro w' hB hA; obtain ⟨qB, r1, r8, r10⟩ := hB; clear hA  qB; go_light; go_simp <;> rfl); (try simp only [Act.put, List.setIfInBounds_toArray, List.set_cons_succ, List.set_cons_zero]))
  apply Free.chain_det (by first | exact Free.wanted_of rfl rfl rfl | rfl) rfl
  · intro w' hB hA
    refine Free.opRun_call (f := 19) (args := #[.string rt, .int .i64 (l.length : Int), .int .i64 i, .agg (encF ⟨xr, xa, xl, xh, xf, xs⟩).toArray, .string s, .slice D p.length f]) (by clear hB hA; go_simp <;> rfl) ?_
    refine (CC.out w' (HB2.out.trans (hB.1.mono HB2.out.size))).mono ?_
    rintro e w3 ⟨rfl, hb3⟩
    exact ⟨_, rfl, hb3, rfl⟩
  simp only [Act.put, List.setIfInBounds_toArray, List.set_cons_succ, List.set_cons_zero]
  iterate 1 (apply Free.chain_still (by first | exact Free.wanted_of rfl rfl rfl | rfl) rfl; (intro w' hB hA; obtain ⟨qB, r1, r8, r10⟩ := hB; clear hA  qB; go_light; go_simp <;> rfl); (try simp only [Act.put, List.setIfInBounds_toArray, List.set_cons_succ, List.set_cons_zero]))
  apply Free.chain_nil
  intro w3 hBz _ _
  simp only [List.drop_succ_cons, List.drop_zero]
  have HB3 := Lib.hid (HB2.out.trans (hBz.1.mono HB2.out.size))
  have HSL3 := Lib.hid (HSL.out.below hBz.1 (Nat.le_refl _))
  clear hBz CR CC HSL
  cases C with
  | false =>
    clear EC
    go_wp2_with fail
    exact FIN.out _ HB3.out
  | true =>
  have hck := EC.out.symm
  have hrange : 0 ≤ i ∧ i < (l.length : Int) := by
    have h1 := hck
    unfold checkD at h1
    rw [Bool.and_eq_true, decide_eq_true_eq] at h1
    exact ⟨h1.1.2.2.1, h1.1.2.2.2⟩
  obtain ⟨I, rfl⟩ : ∃ I : Nat, i = (I : Int) := ⟨i.toNat, by omega⟩
  have hIl : I < l.length := by omega
  have hpl : p.length = (lev I l.length).length := by
    have h1 := hck
    unfold checkD at h1
    rw [Int.toNat_natCast, Int.toNat_natCast, Bool.and_eq_true, Bool.and_eq_true, decide_eq_true_eq, decide_eq_true_eq] at h1
    exact h1.2.1
  obtain ⟨y, hy⟩ : ∃ y, l[I]? = some y := ⟨_, List.getElem?_eq_getElem hIl⟩
  have hyo := OK.out y (List.mem_of_getElem? hy)
  have hpal : (pathL (leavesA l salts) I).length = p.length := by rw [path_len, LV.out, hpl]
  have hpas : Med (pathL (leavesA l salts) I) := path_med _ _ (leavesA_med l salts) (by rw [LV.out]; omega)
  have CP : Hid (∀ R : Ending → World → Prop, (∀ w' A2 c2, Below w3.heap.size w3 w' → p.length ≤ c2 → SL w' 1 encS A2 (pathL (leavesA l salts) I) → R (.returned (.tuple #[.slice A2 p.length c2, .int .i64 0])) w') → Calls Tryd.prog 18 #[.slice A' l.length c', .int .i64 (I : Int)] w3 R) := fun R hR => by
    have := prove_in (leavesA l salts) A' c' I w3 R (by rw [LV.out]; exact hIl) (by rw [LV.out]; exact hc') (by rw [LV.out]; omega) HSL3.out LVS.out (HT.out.below HB3.out (Nat.le_refl _)) (fun w' A2 c2 a1 a2 a3 => by rw [hpal] at a2 ⊢; exact hR w' A2 c2 a1 a2 a3)
    rw [LV.out] at this
    exact this
  have HFOUND : Hid (¬ ((⟨xr, xa, xl, xh, xf, xs⟩ : Fac) = y ∧ s = saltA salts I) → ∃ (j : Nat) (a b : ByteArray), (txtD (leafT ⟨xr, xa, xl, xh, xf, xs⟩ s) (sidesL I l.length) p.reverse)[j]? = some a ∧ (txtD (leafT y (saltA salts I)) (sidesL I l.length) (pathL (leavesA l salts) I).reverse)[j]? = some b ∧ clashB a b = true) :=
    fun hne => clash_found HXO.out hyo (by omega) hy hne hck
  obtain ⟨pa, epa⟩ : ∃ pa, pa = pathL (leavesA l salts) I := ⟨_, rfl⟩
  rw [← epa] at hpal hpas CP HFOUND
  have hyl : ∃ b off, A = some ⟨b, off, none⟩ := by
    obtain ⟨b, off, rfl, _⟩ := S0.out.at_ hy
    exact ⟨b, off, rfl⟩
  obtain ⟨ba, oa, rfl⟩ := hyl
  have CE : Hid (∀ w', Below V.heap.size V w' → ∀ p u, (encF y)[p]? = some u → w'.cell? ⟨ba, oa + I * 6 + p, none⟩ = some u) := fun w' hb => by
    obtain ⟨b', off', e1, hc⟩ := (S0.out.below hb (Nat.le_refl _)).at_ hy
    cases e1
    intro p u hu
    have := hc p u hu
    rw [← Nat.add_assoc] at this; exact this
  have hstz := saltA_200 SA.out.2 I
  have CS : Hid (∀ w', Below V.heap.size V w' → Calls Tryd.prog 30 #[.slice B salts.length d, .int .i64 (I : Int)] w' fun e w2 => e = .returned (.string (saltA salts I)) ∧ Below w'.heap.size w' w2) := fun w' hb => by
    refine (salt_any B d I salts w' (S1.out.below hb (Nat.le_refl _))).mono ?_
    rintro e w2 ⟨rfl, rfl⟩
    exact ⟨rfl, Below.refl _ _⟩
  have CT : Hid (∀ w', Below V.heap.size V w' → Calls Tryd.prog 31 #[.agg (encF ⟨xr, xa, xl, xh, xf, xs⟩).toArray, .string s, .int .i64 (I : Int), .int .i64 (l.length : Int), .slice D p.length f] w' (TxPost ⟨xr, xa, xl, xh, xf, xs⟩ s I l.length p w')) := fun w' hb =>
    texts34_any _ s HXO.out (by omega) l.length I p D f w' (by omega) (by omega) hIl hpl hc2 (by omega) (S2.out.below hb (Nat.le_refl _)) (fun t ht => by have := SB.out.2 t ht; omega)
  have CU : Hid (∀ w' A2 c2, p.length ≤ c2 → SL w' 1 encS A2 pa → Calls Tryd.prog 31 #[.agg (encF y).toArray, .string (saltA salts I), .int .i64 (I : Int), .int .i64 (l.length : Int), .slice A2 p.length c2] w' (TxPost y (saltA salts I) I l.length pa w')) := fun w' A2 c2 hc hs => by
    have := texts34_any y (saltA salts I) hyo (by omega) l.length I pa A2 c2 w' (by omega) (by omega) hIl (hpal.trans hpl) (by omega) (by omega) hs hpas
    rw [hpal] at this
    exact this
  have htl : (txtD (leafT ⟨xr, xa, xl, xh, xf, xs⟩ s) (sidesL I l.length) p.reverse).length = p.length + 1 := by rw [txtD_len _ _ _ (by rw [sides_len, List.length_reverse]; exact hpl.symm), sides_len, hpl]
  have htl2 : (txtD (leafT y (saltA salts I)) (sidesL I l.length) pa.reverse).length = p.length + 1 := by rw [txtD_len _ _ _ (by rw [sides_len, List.length_reverse, hpal]; exact hpl.symm), sides_len, hpl]
  have ht1 : Short (txtD (leafT ⟨xr, xa, xl, xh, xf, xs⟩ s) (sidesL I l.length) p.reverse) := txtD_short _ (leafT_size _ s HXO.out (by omega)) _ _ (fun t ht => by have := SB.out.2 t (List.mem_reverse.1 ht); omega)
  have ht2 : Short (txtD (leafT y (saltA salts I)) (sidesL I l.length) pa.reverse) := txtD_short _ (leafT_size _ _ hyo (by omega)) _ _ (fun t ht => hpas t (List.mem_reverse.1 ht))
  unfold TxPost at CT CU
  rw [hpal] at CU
  obtain ⟨ta, eta⟩ : ∃ ta, ta = txtD (leafT ⟨xr, xa, xl, xh, xf, xs⟩ s) (sidesL I l.length) p.reverse := ⟨_, rfl⟩
  obtain ⟨tb, etb⟩ : ∃ tb, tb = txtD (leafT y (saltA salts I)) (sidesL I l.length) pa.reverse := ⟨_, rfl⟩
  rw [← eta] at CT HFOUND htl ht1
  rw [← etb] at CU HFOUND htl2 ht2
  obtain ⟨st, est⟩ : ∃ st, st = saltA salts I := ⟨_, rfl⟩
  rw [← est] at CS CU HFOUND hstz
  have SHA := Lib.hid ht1
  have SHB := Lib.hid ht2
  have TLA := Lib.hid htl
  have TLB := Lib.hid htl2
  have ki1 : (I : Int) < (l.length : Int) := by omega
  have k00 : (0 : Int) ≤ (I : Int) := by omega
  have qpp : ((p.length : Int) != (p.length : Int)) = false := by simp
  have qb := BC.out _ HB3.out
  have ce0 := qb.cellD 0 _ rfl
  have ce1 := qb.cellD 1 _ rfl
  have ce2 := qb.cellD 2 _ rfl
  have ce3 := qb.cellD 3 _ rfl
  have ce4 := qb.cellD 4 _ rfl
  have ce5 := qb.cellD 5 _ rfl
  have ce6 := qb.cellD 6 _ rfl
  have ce7 := qb.cellD 7 _ rfl
  have ce8 := qb.cellD 8 _ rfl
  have ce9 := qb.cellD 9 _ rfl
  have ce10 := qb.cellD 10 _ rfl
  clear qb
  clear EC ERT hck hrange hpl hpas epa eta etb est htl htl2 ht1 ht2 hy hyo hpal hstz
  go_wp2_with fail
  refine CP.out _ ?_
  intro w4 A2 c2 hb4 hc2' hs4
  have HB4 := Lib.hid (HB3.out.trans (hb4.mono HB3.out.size))
  have HS4 := Lib.hid hs4
  clear ce0 ce1 ce2 ce3 ce4 ce5 ce6 ce7 ce8 ce9 ce10
  have qb := BC.out _ HB4.out
  have ce0 := qb.cellD 0 _ rfl
  have ce1 := qb.cellD 1 _ rfl
  have ce2 := qb.cellD 2 _ rfl
  have ce3 := qb.cellD 3 _ rfl
  have ce4 := qb.cellD 4 _ rfl
  have ce5 := qb.cellD 5 _ rfl
  have ce6 := qb.cellD 6 _ rfl
  have ce7 := qb.cellD 7 _ rfl
  have ce8 := qb.cellD 8 _ rfl
  have ce9 := qb.cellD 9 _ rfl
  have ce10 := qb.cellD 10 _ rfl
  clear qb
  clear hb4 hs4 CP
  go_wp2_with fail
  clear ce0 ce1 ce2 ce3 ce4 ce5 ce6 ce7 ce8 ce9 ce10
  have EQ : Hid (eqF ⟨xr, xa, xl, xh, xf, xs⟩ y = true ↔ (⟨xr, xa, xl, xh, xf, xs⟩ : Fac) = y) := eqF_iff _ _
  obtain ⟨E, eE⟩ : ∃ E, E = eqF ⟨xr, xa, xl, xh, xf, xs⟩ y := ⟨_, rfl⟩
  have HEQ : Hid (eqF ⟨xr, xa, xl, xh, xf, xs⟩ y = E) := eE.symm
  clear eE
  obtain ⟨k1, k8⟩ : w4.cell? ⟨w.heap.size, 1, none⟩ = some (.int .i64 (I : Int)) ∧ w4.cell? ⟨w.heap.size, 8, none⟩ = some (.string s) := ⟨(BC.out _ HB4.out).cellD 1 _ rfl, (BC.out _ HB4.out).cellD 8 _ rfl⟩
  refine Free.wp_region_free 17 [(14, .det (.string st))] (fun y => Below w4.heap.size w4 y ∧ y.cell? ⟨w.heap.size, 1, none⟩ = some (.int .i64 (I : Int)) ∧ y.cell? ⟨w.heap.size, 8, none⟩ = some (.string s)) (by kernel_rfl) (by kernel_rfl) (Free.mono_det (fun j mk r hf => by simp only [Free.find] at hf; repeat' (first | cases hf | split at hf))) ⟨(Below.refl _ _).drew, k1, k8⟩ (fun _ _ h g => ⟨h.1.trans (Below.mono g h.1.size), cell_grow h.2.1 g, cell_grow h.2.2 g⟩) ?_
  simp only [List.take_succ_cons, List.take_zero]
  clear k1 k8
  iterate 1 (apply Free.chain_still (by first | exact Free.wanted_of rfl rfl rfl | rfl) rfl; (intro w' hB hA; obtain ⟨qB, r1, r8⟩ := hB; clear hA  qB; go_light; go_simp <;> rfl); (try simp only [Act.put, List.setIfInBounds_toArray, List.set_cons_succ, List.set_cons_zero]))
  apply Free.chain_still (by first | exact Free.wanted_of rfl rfl rfl | rfl) rfl
  · intro w' hB hA
    exact exec_fac (x := ⟨xr, xa, xl, xh, xf, xs⟩) (b := w.heap.size) (off := 2) rfl rfl (claim_fac (BC.out w' (HB4.out.trans (hB.1.mono HB4.out.size))))
  simp only [Act.put, List.setIfInBounds_toArray, List.set_cons_succ, List.set_cons_zero]
  iterate 4 (apply Free.chain_still (by first | exact Free.wanted_of rfl rfl rfl | rfl) rfl; (intro w' hB hA; obtain ⟨qB, r1, r8⟩ := hB; clear hA  qB; go_light; go_simp <;> rfl); (try simp only [Act.put, List.setIfInBounds_toArray, List.set_cons_succ, List.set_cons_zero]))
  apply Free.chain_still (by first | exact Free.wanted_of rfl rfl rfl | rfl) rfl
  · intro w' hB hA
    exact exec_fac (x := y) rfl rfl (CE.out w' (HB4.out.trans (hB.1.mono HB4.out.size)))
  simp only [Act.put, List.setIfInBounds_toArray, List.set_cons_succ, List.set_cons_zero]
  apply Free.chain_still (by first | exact Free.wanted_of rfl rfl rfl | rfl) rfl
  · intro w' hB hA
    exact exec_eqlF (x := ⟨xr, xa, xl, xh, xf, xs⟩) (y := y) rfl rfl rfl HEQ.out
  simp only [Act.put, List.setIfInBounds_toArray, List.set_cons_succ, List.set_cons_zero]
  iterate 1 (apply Free.chain_still (by first | exact Free.wanted_of rfl rfl rfl | rfl) rfl; (intro w' hB hA; obtain ⟨qB, r1, r8⟩ := hB; clear hA  qB; go_light; go_simp <;> rfl); (try simp only [Act.put, List.setIfInBounds_toArray, List.set_cons_succ, List.set_cons_zero]))
  cases E with
  | false =>
    iterate 7 (apply Free.chain_skip (by exact unwanted2 rfl rfl rfl rfl); simp only [Act.put, List.setIfInBounds_toArray, List.set_cons_succ, List.set_cons_zero])
    iterate 1 (apply Free.chain_still (by first | exact Free.wanted_of rfl rfl rfl | rfl) rfl; (intro w' hB hA; obtain ⟨qB, r1, r8⟩ := hB; clear hA  qB; go_light; go_simp <;> rfl); (try simp only [Act.put, List.setIfInBounds_toArray, List.set_cons_succ, List.set_cons_zero]))
    apply Free.chain_nil
    intro w5 hBz _ _
    simp only [List.drop_succ_cons, List.drop_zero]
    have HB5 := Lib.hid (HB4.out.trans (hBz.1.mono HB4.out.size))
    have HS5 := Lib.hid (HS4.out.below hBz.1 (Nat.le_refl _))
    have HNE : Hid (¬ ((⟨xr, xa, xl, xh, xf, xs⟩ : Fac) = y ∧ s = st)) := fun h => by have := EQ.out.2 h.1; rw [HEQ.out] at this; cases this
    clear hBz EQ HEQ
    have qb := BC.out _ HB5.out
    have ce0 := qb.cellD 0 _ rfl
    have ce1 := qb.cellD 1 _ rfl
    have ce2 := qb.cellD 2 _ rfl
    have ce3 := qb.cellD 3 _ rfl
    have ce4 := qb.cellD 4 _ rfl
    have ce5 := qb.cellD 5 _ rfl
    have ce6 := qb.cellD 6 _ rfl
    have ce7 := qb.cellD 7 _ rfl
    have ce8 := qb.cellD 8 _ rfl
    have ce9 := qb.cellD 9 _ rfl
    have ce10 := qb.cellD 10 _ rfl
    clear qb
    go_wp2_with fail
    refine (CT.out _ HB5.out).mono ?_
    rintro e w6 ⟨⟨v6, rfl, hown6⟩, hb6⟩
    obtain ⟨A6, c6, rfl, hc6, hs6⟩ := row_slS hown6
    have HB6 := Lib.hid (HB5.out.trans (hb6.mono HB5.out.size))
    have HS6 := Lib.hid hs6
    have HS46 := Lib.hid (HS5.out.below hb6 (Nat.le_refl _))
    clear hb6 hs6 hown6 hc6
    clear ce0 ce1 ce2 ce3 ce4 ce5 ce6 ce7 ce8 ce9 ce10
    have k1 : w6.cell? ⟨w.heap.size, 1, none⟩ = some (.int .i64 (I : Int)) := (BC.out _ HB6.out).cellD 1 _ rfl
    go_wp2_with fail
    refine Free.wp_region_free 15 [(8, .det (.string st)), (14, .ind (fun y => .slice (some ⟨fstN y, 0, none⟩) (p.length + 1) (sndN y)) (fun z w2 => SL w2 1 encS (some ⟨fstN z, 0, none⟩) tb))] (fun y => Below w6.heap.size w6 y ∧ y.cell? ⟨w.heap.size, 1, none⟩ = some (.int .i64 (I : Int))) (by kernel_rfl) (by kernel_rfl) ?_ ⟨(Below.refl _ _).drew, k1⟩ (fun _ _ h g => ⟨h.1.trans (Below.mono g h.1.size), cell_grow h.2 g⟩) ?_
    · intro j mk rr hf z w1 w2 hr gr
      simp only [Free.find] at hf
      split at hf
      · cases hf
      · split at hf
        · cases hf; exact hr.below gr (Nat.le_refl _)
        · cases hf
    simp only [List.take_succ_cons, List.take_zero]
    clear k1
    iterate 4 (apply Free.chain_still (by first | exact Free.wanted_of rfl rfl rfl | rfl) rfl; (intro w' hB hA; obtain ⟨qB, r1⟩ := hB; clear hA  qB; go_light; go_simp <;> rfl); (try simp only [Act.put, List.setIfInBounds_toArray, List.set_cons_succ, List.set_cons_zero]))
    apply Free.chain_still (by first | exact Free.wanted_of rfl rfl rfl | rfl) rfl
    · intro w' hB hA
      exact exec_fac (x := y) rfl rfl (CE.out w' (HB6.out.trans (hB.1.mono HB6.out.size)))
    simp only [Act.put, List.setIfInBounds_toArray, List.set_cons_succ, List.set_cons_zero]
    iterate 3 (apply Free.chain_still (by first | exact Free.wanted_of rfl rfl rfl | rfl) rfl; (intro w' hB hA; obtain ⟨qB, r1⟩ := hB; clear hA  qB; go_light; go_simp <;> rfl); (try simp only [Act.put, List.setIfInBounds_toArray, List.set_cons_succ, List.set_cons_zero]))
    apply Free.chain_det (by first | exact Free.wanted_of rfl rfl rfl | rfl) rfl
    · intro w' hB hA
      refine Free.opRun_call (f := 30) (args := #[.slice B salts.length d, .int .i64 (I : Int)]) (by clear hB hA; go_simp <;> rfl) ?_
      refine (CS.out w' (HB6.out.trans (hB.1.mono HB6.out.size))).mono ?_
      rintro e w3 ⟨rfl, hb3⟩
      exact ⟨_, rfl, hb3, rfl⟩
    simp only [Act.put, List.setIfInBounds_toArray, List.set_cons_succ, List.set_cons_zero]
    iterate 5 (apply Free.chain_still (by first | exact Free.wanted_of rfl rfl rfl | rfl) rfl; (intro w' hB hA; obtain ⟨qB, r1⟩ := hB; clear hA  qB; go_light; go_simp <;> rfl); (try simp only [Act.put, List.setIfInBounds_toArray, List.set_cons_succ, List.set_cons_zero]))
    apply Free.chain_ind (by first | exact Free.wanted_of rfl rfl rfl | rfl) rfl
    · intro w' hB hA
      refine Free.opRun_call (f := 31) (args := #[.agg (encF y).toArray, .string st, .int .i64 (I : Int), .int .i64 (l.length : Int), .slice A2 p.length c2]) (by clear hB hA; go_simp <;> rfl) ?_
      refine (CU.out w' A2 c2 hc2' (HS46.out.below hB.1 (Nat.le_refl _))).mono ?_
      rintro e w3 ⟨⟨v, rfl, hown⟩, hb3⟩
      obtain ⟨g, cp, cur, rfl, _, _, _, hcp, _, _, hsl⟩ := own_at_texts hown TLB.out
      obtain ⟨z, rfl, rfl⟩ := pairN g cp hcp
      exact ⟨_, rfl, hb3, z, rfl, hsl⟩
    intro z
    simp only [Act.put, List.setIfInBounds_toArray, List.set_cons_succ, List.set_cons_zero]
    apply Free.chain_nil
    intro w7 hBz _ hh
    have hs7 : SL w7 1 encS (some ⟨fstN z, 0, none⟩) tb := hh _ List.mem_cons_self
    simp only [List.drop_succ_cons, List.drop_zero]
    have HB7 := Lib.hid (HB6.out.trans (hBz.1.mono HB6.out.size))
    have SAX := Lib.hid (HS6.out.below hBz.1 (Nat.le_refl _))
    have SBX := Lib.hid hs7
    have HST : Hid (RCl w7 ta tb (p.length + 1) (.int .i64 0) w7) := ⟨0, Nat.zero_le _, rfl, fun j _ _ h => absurd h (Nat.not_lt_zero _), Below.refl _ _⟩
    obtain ⟨M, eM⟩ : ∃ M, M = p.length + 1 := ⟨_, rfl⟩
    have TLA' := TLA.out
    have TLB' := TLB.out
    have hM41 : M ≤ 41 := by omega
    rw [← eM] at TLA' TLB' HST ⊢
    have TLAH := Lib.hid TLA'
    have TLBH := Lib.hid TLB'
    have HF := Lib.hid (HFOUND.out HNE.out)
    clear hh hBz hs7 CS CU CT CE HS6 HS46 eM TLA' TLB' HFOUND TLA TLB
    go_wp2_with fail
    go_loopw [13] (fun i wr => RCl w7 ta tb M i wr) (fun i _ => M - (intOf i).toNat)
    case atStart => exact HST.out
    case round =>
      clear HST
      obtain ⟨k, hk, rfl, hno, hbr⟩ := hrel
      by_cases hlt : k < M
      · obtain ⟨u, hu⟩ : ∃ u, ta[k]? = some u := ⟨_, List.getElem?_eq_getElem (by have := TLAH.out; omega)⟩
        obtain ⟨v, hv⟩ : ∃ v, tb[k]? = some v := ⟨_, List.getElem?_eq_getElem (by have := TLBH.out; omega)⟩
        obtain ⟨b1, o1, rfl, hcl1⟩ := (SAX.out.below hbr (Nat.le_refl _)).at_ hu
        obtain ⟨b2, o2, eb2, hcl2⟩ := (SBX.out.below hbr (Nat.le_refl _)).at_ hv
        cases eb2
        have d1 := hcl1 0 _ rfl
        have d2 := hcl2 0 _ rfl
        simp only [Nat.mul_one, Nat.add_zero, Nat.zero_add] at d1 d2
        have CX := Lib.hid (fun w => clash_any u v w (SHA.out u (List.mem_of_getElem? hu)) (SHB.out v (List.mem_of_getElem? hv)))
        obtain ⟨X, eX⟩ : ∃ X, X = clashB u v := ⟨_, rfl⟩
        rw [← eX] at CX
        have ki1 : (k : Int) < (M : Int) := by omega
        have k00 : (0 : Int) ≤ (k : Int) := by omega
        have HU := Lib.hid hu
        have HV := Lib.hid hv
        have EX := Lib.hid eX
        have HNO := Lib.hid hno
        have HBR := Lib.hid hbr
        clear hu hv hcl1 hcl2 eX hno hbr
        go_wp2_with fail
        refine Free.wp_region_free 9 [(8, .det (.bool X))] (fun y => Below wr.heap.size wr y ∧ y.cell? ⟨b1, o1 + k, none⟩ = some (.string u) ∧ y.cell? ⟨fstN z, k, none⟩ = some (.string v)) (by kernel_rfl) (by kernel_rfl) (Free.mono_det (fun j mk r hf => by simp only [Free.find] at hf; repeat' (first | cases hf | split at hf))) ⟨(Below.refl _ _).drew, d1, d2⟩ (fun _ _ h g => ⟨h.1.trans (Below.mono g h.1.size), cell_grow h.2.1 g, cell_grow h.2.2 g⟩) ?_
        simp only [List.take_succ_cons, List.take_zero]
        clear d1 d2
        iterate 8 (apply Free.chain_still (by first | exact Free.wanted_of rfl rfl rfl | rfl) rfl; (intro w' hB hA; obtain ⟨qB, r1, r2⟩ := hB; clear hA  qB; go_light; go_simp <;> rfl); (try simp only [Act.put, List.setIfInBounds_toArray, List.set_cons_succ, List.set_cons_zero]))
        apply Free.chain_det (by first | exact Free.wanted_of rfl rfl rfl | rfl) rfl
        · intro w' hB hA
          refine Free.opRun_call (f := 32) (args := #[.string u, .string v]) (by clear hB hA; go_simp <;> rfl) ?_
          refine (CX.out w').mono ?_
          rintro e w3 ⟨rfl, hb3⟩
          exact ⟨_, rfl, hb3, rfl⟩
        simp only [Act.put, List.setIfInBounds_toArray, List.set_cons_succ, List.set_cons_zero]
        apply Free.chain_nil
        intro wz hBz _ _
        simp only [List.drop_succ_cons, List.drop_zero]
        have LZ := Lib.hid (HBR.out.trans (hBz.1.mono HBR.out.size))
        clear hBz CX
        cases X with
        | true =>
          have L := Lib.hid (HB7.out.trans (LZ.out.mono HB7.out.size))
          clear EX
          go_wp2_with fail
          exact FIN.out _ L.out
        | false =>
          have KEY : Hid (RCl w7 ta tb M (.int .i64 ((k : Int) + 1)) wz) := ⟨k + 1, by omega, by go_num, fun j x y hj hx hy => by
            by_cases e : j = k
            · subst e
              rw [HU.out] at hx
              rw [HV.out] at hy
              cases hx; cases hy; exact EX.out.symm
            · exact HNO.out j x y (by omega) hx hy, LZ.out⟩
          clear EX
          go_wp2_with fail
          refine ⟨KEY.out, ?_⟩
          simp [intOf]; omega
      · exfalso
        obtain ⟨j, a, b, ha, hb, hc⟩ := HF.out
        have hj := (List.getElem?_eq_some_iff.1 ha).1
        have := hno j a b (by have := TLAH.out; omega) ha hb
        rw [this] at hc; cases hc
  | true =>
    iterate 5 (apply Free.chain_still (by first | exact Free.wanted_of rfl rfl rfl | rfl) rfl; (intro w' hB hA; obtain ⟨qB, r1, r8⟩ := hB; clear hA  qB; go_light; go_simp <;> rfl); (try simp only [Act.put, List.setIfInBounds_toArray, List.set_cons_succ, List.set_cons_zero]))
    apply Free.chain_det (by first | exact Free.wanted_of rfl rfl rfl | rfl) rfl
    · intro w' hB hA
      refine Free.opRun_call (f := 30) (args := #[.slice B salts.length d, .int .i64 (I : Int)]) (by clear hB hA; go_simp <;> rfl) ?_
      refine (CS.out w' (HB4.out.trans (hB.1.mono HB4.out.size))).mono ?_
      rintro e w3 ⟨rfl, hb3⟩
      exact ⟨_, rfl, hb3, rfl⟩
    simp only [Act.put, List.setIfInBounds_toArray, List.set_cons_succ, List.set_cons_zero]
    iterate 2 (apply Free.chain_still (by first | exact Free.wanted_of rfl rfl rfl | rfl) rfl; (intro w' hB hA; obtain ⟨qB, r1, r8⟩ := hB; clear hA  qB; go_light; go_simp <;> rfl); (try simp only [Act.put, List.setIfInBounds_toArray, List.set_cons_succ, List.set_cons_zero]))
    apply Free.chain_nil
    intro w5 hBz _ _
    simp only [List.drop_succ_cons, List.drop_zero]
    have HB5 := Lib.hid (HB4.out.trans (hBz.1.mono HB4.out.size))
    have HS5 := Lib.hid (HS4.out.below hBz.1 (Nat.le_refl _))
    clear hBz EQ HEQ
    by_cases hst : s = st
    · rw [show (s.toList == st.toList) = true by rw [hst]; simp]
      clear hst
      go_wp2_with fail
      exact FIN.out _ HB5.out
    · have hq : (s.toList == st.toList) = false := by
        cases hq : (s.toList == st.toList) with
        | false => rfl
        | true => exact absurd (tl_eq (by simpa using hq)) hst
      have HNE : Hid (¬ ((⟨xr, xa, xl, xh, xf, xs⟩ : Fac) = y ∧ s = st)) := fun h => hst h.2
      rw [hq]
      clear hst hq
      have qb := BC.out _ HB5.out
      have ce0 := qb.cellD 0 _ rfl
      have ce1 := qb.cellD 1 _ rfl
      have ce2 := qb.cellD 2 _ rfl
      have ce3 := qb.cellD 3 _ rfl
      have ce4 := qb.cellD 4 _ rfl
      have ce5 := qb.cellD 5 _ rfl
      have ce6 := qb.cellD 6 _ rfl
      have ce7 := qb.cellD 7 _ rfl
      have ce8 := qb.cellD 8 _ rfl
      have ce9 := qb.cellD 9 _ rfl
      have ce10 := qb.cellD 10 _ rfl
      clear qb
      go_wp2_with fail
      refine (CT.out _ HB5.out).mono ?_
      rintro e w6 ⟨⟨v6, rfl, hown6⟩, hb6⟩
      obtain ⟨A6, c6, rfl, hc6, hs6⟩ := row_slS hown6
      have HB6 := Lib.hid (HB5.out.trans (hb6.mono HB5.out.size))
      have HS6 := Lib.hid hs6
      have HS46 := Lib.hid (HS5.out.below hb6 (Nat.le_refl _))
      clear hb6 hs6 hown6 hc6
      clear ce0 ce1 ce2 ce3 ce4 ce5 ce6 ce7 ce8 ce9 ce10
      have k1 : w6.cell? ⟨w.heap.size, 1, none⟩ = some (.int .i64 (I : Int)) := (BC.out _ HB6.out).cellD 1 _ rfl
      go_wp2_with fail
      refine Free.wp_region_free 15 [(8, .det (.string st)), (14, .ind (fun y => .slice (some ⟨fstN y, 0, none⟩) (p.length + 1) (sndN y)) (fun z w2 => SL w2 1 encS (some ⟨fstN z, 0, none⟩) tb))] (fun y => Below w6.heap.size w6 y ∧ y.cell? ⟨w.heap.size, 1, none⟩ = some (.int .i64 (I : Int))) (by kernel_rfl) (by kernel_rfl) ?_ ⟨(Below.refl _ _).drew, k1⟩ (fun _ _ h g => ⟨h.1.trans (Below.mono g h.1.size), cell_grow h.2 g⟩) ?_
      · intro j mk rr hf z w1 w2 hr gr
        simp only [Free.find] at hf
        split at hf
        · cases hf
        · split at hf
          · cases hf; exact hr.below gr (Nat.le_refl _)
          · cases hf
      simp only [List.take_succ_cons, List.take_zero]
      clear k1
      iterate 4 (apply Free.chain_still (by first | exact Free.wanted_of rfl rfl rfl | rfl) rfl; (intro w' hB hA; obtain ⟨qB, r1⟩ := hB; clear hA  qB; go_light; go_simp <;> rfl); (try simp only [Act.put, List.setIfInBounds_toArray, List.set_cons_succ, List.set_cons_zero]))
      apply Free.chain_still (by first | exact Free.wanted_of rfl rfl rfl | rfl) rfl
      · intro w' hB hA
        exact exec_fac (x := y) rfl rfl (CE.out w' (HB6.out.trans (hB.1.mono HB6.out.size)))
      simp only [Act.put, List.setIfInBounds_toArray, List.set_cons_succ, List.set_cons_zero]
      iterate 3 (apply Free.chain_still (by first | exact Free.wanted_of rfl rfl rfl | rfl) rfl; (intro w' hB hA; obtain ⟨qB, r1⟩ := hB; clear hA  qB; go_light; go_simp <;> rfl); (try simp only [Act.put, List.setIfInBounds_toArray, List.set_cons_succ, List.set_cons_zero]))
      apply Free.chain_det (by first | exact Free.wanted_of rfl rfl rfl | rfl) rfl
      · intro w' hB hA
        refine Free.opRun_call (f := 30) (args := #[.slice B salts.length d, .int .i64 (I : Int)]) (by clear hB hA; go_simp <;> rfl) ?_
        refine (CS.out w' (HB6.out.trans (hB.1.mono HB6.out.size))).mono ?_
        rintro e w3 ⟨rfl, hb3⟩
        exact ⟨_, rfl, hb3, rfl⟩
      simp only [Act.put, List.setIfInBounds_toArray, List.set_cons_succ, List.set_cons_zero]
      iterate 5 (apply Free.chain_still (by first | exact Free.wanted_of rfl rfl rfl | rfl) rfl; (intro w' hB hA; obtain ⟨qB, r1⟩ := hB; clear hA  qB; go_light; go_simp <;> rfl); (try simp only [Act.put, List.setIfInBounds_toArray, List.set_cons_succ, List.set_cons_zero]))
      apply Free.chain_ind (by first | exact Free.wanted_of rfl rfl rfl | rfl) rfl
      · intro w' hB hA
        refine Free.opRun_call (f := 31) (args := #[.agg (encF y).toArray, .string st, .int .i64 (I : Int), .int .i64 (l.length : Int), .slice A2 p.length c2]) (by clear hB hA; go_simp <;> rfl) ?_
        refine (CU.out w' A2 c2 hc2' (HS46.out.below hB.1 (Nat.le_refl _))).mono ?_
        rintro e w3 ⟨⟨v, rfl, hown⟩, hb3⟩
        obtain ⟨g, cp, cur, rfl, _, _, _, hcp, _, _, hsl⟩ := own_at_texts hown TLB.out
        obtain ⟨z, rfl, rfl⟩ := pairN g cp hcp
        exact ⟨_, rfl, hb3, z, rfl, hsl⟩
      intro z
      simp only [Act.put, List.setIfInBounds_toArray, List.set_cons_succ, List.set_cons_zero]
      apply Free.chain_nil
      intro w7 hBz _ hh
      have hs7 : SL w7 1 encS (some ⟨fstN z, 0, none⟩) tb := hh _ List.mem_cons_self
      simp only [List.drop_succ_cons, List.drop_zero]
      have HB7 := Lib.hid (HB6.out.trans (hBz.1.mono HB6.out.size))
      have SAX := Lib.hid (HS6.out.below hBz.1 (Nat.le_refl _))
      have SBX := Lib.hid hs7
      have HST : Hid (RCl w7 ta tb (p.length + 1) (.int .i64 0) w7) := ⟨0, Nat.zero_le _, rfl, fun j _ _ h => absurd h (Nat.not_lt_zero _), Below.refl _ _⟩
      obtain ⟨M, eM⟩ : ∃ M, M = p.length + 1 := ⟨_, rfl⟩
      have TLA' := TLA.out
      have TLB' := TLB.out
      have hM41 : M ≤ 41 := by omega
      rw [← eM] at TLA' TLB' HST ⊢
      have TLAH := Lib.hid TLA'
      have TLBH := Lib.hid TLB'
      have HF := Lib.hid (HFOUND.out HNE.out)
      clear hh hBz hs7 CS CU CT CE HS6 HS46 eM TLA' TLB' HFOUND TLA TLB
      go_wp2_with fail
      go_loopw [13] (fun i wr => RCl w7 ta tb M i wr) (fun i _ => M - (intOf i).toNat)
      case atStart => exact HST.out
      case round =>
        clear HST
        obtain ⟨k, hk, rfl, hno, hbr⟩ := hrel
        by_cases hlt : k < M
        · obtain ⟨u, hu⟩ : ∃ u, ta[k]? = some u := ⟨_, List.getElem?_eq_getElem (by have := TLAH.out; omega)⟩
          obtain ⟨v, hv⟩ : ∃ v, tb[k]? = some v := ⟨_, List.getElem?_eq_getElem (by have := TLBH.out; omega)⟩
          obtain ⟨b1, o1, rfl, hcl1⟩ := (SAX.out.below hbr (Nat.le_refl _)).at_ hu
          obtain ⟨b2, o2, eb2, hcl2⟩ := (SBX.out.below hbr (Nat.le_refl _)).at_ hv
          cases eb2
          have d1 := hcl1 0 _ rfl
          have d2 := hcl2 0 _ rfl
          simp only [Nat.mul_one, Nat.add_zero, Nat.zero_add] at d1 d2
          have CX := Lib.hid (fun w => clash_any u v w (SHA.out u (List.mem_of_getElem? hu)) (SHB.out v (List.mem_of_getElem? hv)))
          obtain ⟨X, eX⟩ : ∃ X, X = clashB u v := ⟨_, rfl⟩
          rw [← eX] at CX
          have ki1 : (k : Int) < (M : Int) := by omega
          have k00 : (0 : Int) ≤ (k : Int) := by omega
          have HU := Lib.hid hu
          have HV := Lib.hid hv
          have EX := Lib.hid eX
          have HNO := Lib.hid hno
          have HBR := Lib.hid hbr
          clear hu hv hcl1 hcl2 eX hno hbr
          go_wp2_with fail
          refine Free.wp_region_free 9 [(8, .det (.bool X))] (fun y => Below wr.heap.size wr y ∧ y.cell? ⟨b1, o1 + k, none⟩ = some (.string u) ∧ y.cell? ⟨fstN z, k, none⟩ = some (.string v)) (by kernel_rfl) (by kernel_rfl) (Free.mono_det (fun j mk r hf => by simp only [Free.find] at hf; repeat' (first | cases hf | split at hf))) ⟨(Below.refl _ _).drew, d1, d2⟩ (fun _ _ h g => ⟨h.1.trans (Below.mono g h.1.size), cell_grow h.2.1 g, cell_grow h.2.2 g⟩) ?_
          simp only [List.take_succ_cons, List.take_zero]
          clear d1 d2
          iterate 8 (apply Free.chain_still (by first | exact Free.wanted_of rfl rfl rfl | rfl) rfl; (intro w' hB hA; obtain ⟨qB, r1, r2⟩ := hB; clear hA  qB; go_light; go_simp <;> rfl); (try simp only [Act.put, List.setIfInBounds_toArray, List.set_cons_succ, List.set_cons_zero]))
          apply Free.chain_det (by first | exact Free.wanted_of rfl rfl rfl | rfl) rfl
          · intro w' hB hA
            refine Free.opRun_call (f := 32) (args := #[.string u, .string v]) (by clear hB hA; go_simp <;> rfl) ?_
            refine (CX.out w').mono ?_
            rintro e w3 ⟨rfl, hb3⟩
            exact ⟨_, rfl, hb3, rfl⟩
          simp only [Act.put, List.setIfInBounds_toArray, List.set_cons_succ, List.set_cons_zero]
          apply Free.chain_nil
          intro wz hBz _ _
          simp only [List.drop_succ_cons, List.drop_zero]
          have LZ := Lib.hid (HBR.out.trans (hBz.1.mono HBR.out.size))
          clear hBz CX
          cases X with
          | true =>
            have L := Lib.hid (HB7.out.trans (LZ.out.mono HB7.out.size))
            clear EX
            go_wp2_with fail
            exact FIN.out _ L.out
          | false =>
            have KEY : Hid (RCl w7 ta tb M (.int .i64 ((k : Int) + 1)) wz) := ⟨k + 1, by omega, by go_num, fun j x y hj hx hy => by
              by_cases e : j = k
              · subst e
                rw [HU.out] at hx
                rw [HV.out] at hy
                cases hx; cases hy; exact EX.out.symm
              · exact HNO.out j x y (by omega) hx hy, LZ.out⟩
            clear EX
            go_wp2_with fail
            refine ⟨KEY.out, ?_⟩
            simp [intOf]; omega
        · exfalso
          obtain ⟨j, a, b, ha, hb, hc⟩ := HF.out
          have hj := (List.getElem?_eq_some_iff.1 ha).1
          have := hno j a b (by have := TLAH.out; omega) ha hb
          rw [this] at hc; cases hc
end Go.Proofs.YtamiaalfjmppaaaDoor
