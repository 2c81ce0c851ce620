/- The law ChainKeys, walked. Condition: the variables of digest and of strconv hold their numbers. -/
import Derived.Test.YtaaenobckipfkaaDoorChO
namespace Go.Proofs.YtaaenobckipfkaaDoor
open Go.RowKit Go.Blk Go.Opn Go.OpenShut

theorem chk1_other {l : List E31} {k : Nat} {e : E31} {house pub : Int} (other : Int) (h : chk1 l k e house pub = 0) : chk1 l k e house other = if sgnB e other then 0 else 17 := by
  unfold chk1 at h ⊢
  by_cases hm : misp (l.take k) e house = 0
  · rw [if_pos hm] at h ⊢
    by_cases hp : (e.prev.toList == (prevE (l.take k)).toList) = true
    · rw [if_pos hp]; rfl
    · rw [if_neg hp] at h; cases h
  · rw [if_neg hm] at h; exact absurd h hm
theorem chkGo_17 {l : List E31} {house pub other : Int} (ha : ∀ i e, l[i]? = some e → chk1 l i e house pub = 0) : ∀ n k, (chkGo l house other n k).1 = 0 ∨ (chkGo l house other n k).1 = 17
  | 0, _ => .inl rfl
  | n + 1, k => by
    cases hk : l[k]? with
    | none => rw [chkGo, hk]; exact .inl rfl
    | some e =>
      by_cases h0 : chk1 l k e house other = 0
      · rw [chkGo_ok hk h0]; exact chkGo_17 ha n (k + 1)
      · rw [chkGo_bad hk h0]
        rw [chk1_other other (ha k e hk)] at h0 ⊢
        split at h0
        · exact absurd rfl h0
        · rename_i hs; rw [if_neg hs]; exact .inr rfl
theorem keys_law {l : List E31} {house pub other : Int} (h : (chk l house pub).1 = 0) (ho : 1 ≤ other ∧ other ≤ 2147483646) :
    (decide ((chk l house other).1 = 0) = l.all (sgnB · other)) ∧ ((chk l house other).1 = 0 ∨ (chk l house other).1 = 17) := by
  obtain ⟨hk, ha⟩ := (chk_ok_iff l house pub).1 h
  have hk2 : keysOk house other := ⟨hk.1, hk.2.1, ho.1, by omega⟩
  constructor
  · cases hall : l.all (sgnB · other) with
    | true =>
      refine decide_eq_true ((chk_ok_iff _ _ _).2 ⟨hk2, fun i e he => ?_⟩)
      rw [chk1_other other (ha i e he), if_pos (List.all_eq_true.1 hall e (List.mem_of_getElem? he))]
    | false =>
      refine decide_eq_false (fun h0 => ?_)
      obtain ⟨_, hb⟩ := (chk_ok_iff _ _ _).1 h0
      have : l.all (sgnB · other) = true := List.all_eq_true.2 fun e he => by
        obtain ⟨i, hi⟩ := List.mem_iff_getElem?.1 he
        have h1 := hb i e hi
        rw [chk1_other other (ha i e hi)] at h1
        split at h1
        · assumption
        · cases h1
      rw [this] at hall; cases hall
  · unfold chk
    rw [if_pos hk2]
    exact chkGo_17 ha _ _
def RKY (w : World) (l : List E31) (other : Int) (a i : Value) (wr : World) : Prop := ∃ k : Nat, k ≤ l.length ∧ i = .int .i64 k ∧ a = .bool ((l.take k).all (sgnB · other)) ∧ Below w.heap.size w wr
set_option maxRecDepth 100000 in
set_option maxHeartbeats 4000000 in
theorem keys31_any (A : Option Addr) (c : Nat) (l : List E31) (house pub other : Int) (w : World) (hl : l.length ≤ 9223372036854775807) (hlc : l.length ≤ c) (h : SL w 7 encE A l) (ho : ∀ a ∈ l, a.Ok)
    (_h1 : (Lit.int .i64 house).wf = true) (_h2 : (Lit.int .i64 pub).wf = true) (_h3 : (Lit.int .i64 other).wf = true) (hT : HasT w) :
    Calls Tryd.prog 11 #[.slice A l.length c, .int .i64 house, .int .i64 pub, .int .i64 other] w fun r w' => r = .returned (.bool true) ∧ Below w.heap.size w w' := by
  clear _h1 _h2 _h3
  have C1 : Hid (∀ w', Below w.heap.size w w' → Calls Tryd.prog 24 #[.slice A l.length c, .int .i64 14] w' fun e w2 => e = .returned (.bool (fewB l 14)) ∧ w' = w2) := fun w' hb => few_any A c 14 l w' (h.below hb (Nat.le_refl _)) hl
  have HT := Lib.hid hT
  by_cases hfew : fewB l 14 = true
  · obtain ⟨hf, hl14⟩ := few_of ho hfew
    rw [hfew] at C1
    have C2 : Hid (∀ w' p, Below w.heap.size w w' → Calls Tryd.prog 17 #[.slice A l.length c, .int .i64 house, .int .i64 p] w' (ChkPost w' (chk l house p))) := fun w' p hb => check_any A c l house p w' (h.below hb (Nat.le_refl _)) hl hlc hf (hT.below hb (Nat.le_refl _))
    by_cases hc : (chk l house pub).1 = 0
    · by_cases ho2 : 1 ≤ other ∧ other ≤ 2147483646
      · have hlaw := keys_law hc ho2
        have hck := chk_ok hc
        have C3 : Hid (∀ w', Below w.heap.size w w' → Calls Tryd.prog 17 #[.slice A l.length c, .int .i64 house, .int .i64 pub] w' (ChkPost w' (0, -1))) := fun w' hb => by
          have := C2.out w' pub hb
          rw [hck] at this; exact this
        have C4 : Hid (∀ w', Below w.heap.size w w' → Calls Tryd.prog 17 #[.slice A l.length c, .int .i64 house, .int .i64 other] w' (ChkPost w' (chk l house other))) := fun w' hb => C2.out w' other hb
        obtain ⟨fe, efe⟩ : ∃ fe, fe = chk l house other := ⟨_, rfl⟩
        rw [← efe] at C4 hlaw
        obtain ⟨fe1, fe2⟩ := fe
        have HLAW := Lib.hid hlaw
        have HS := Lib.hid h
        have HF := Lib.hid hf
        obtain ⟨ho3, ho4⟩ := ho2
        have HST : Hid (∀ w1, Below w.heap.size w w1 → RKY w l other (.bool true) (.int .i64 0) w1) := fun w1 hb => ⟨0, Nat.zero_le _, rfl, by simp, hb⟩
        clear h ho hT hfew hf hc hck C2 hlaw efe
        go_enter Tryd.func11, Tryd.ntmps11
        go_wp2_with fail
        refine (head31_any _ HT.out).mono ?_
        rintro e w1 ⟨rfl, hb1⟩
        have HB1 := Lib.hid hb1
        clear hb1
        go_wp2_with fail
        refine (C1.out _ HB1.out).mono ?_
        rintro e w' ⟨rfl, rfl⟩
        clear C1
        go_wp2_with fail
        refine (C3.out _ HB1.out).mono ?_
        rintro e w2 ⟨rfl, hb2⟩
        have HB2 := Lib.hid (HB1.out.trans (hb2.mono HB1.out.size))
        have HST2 := Lib.hid (HST.out w2 HB2.out)
        clear hb2 HB1 HST C3
        simp only
        go_wp2_with fail
        go_loopw [12, 13] (fun a i wr => RKY w l other a i wr) (fun _ i _ => l.length - (intOf i).toNat)
        case atStart => exact HST2.out
        case round =>
          clear HST2
          obtain ⟨k, hk, rfl, rfl, hb⟩ := hrel
          by_cases hlt : k < l.length
          · obtain ⟨x, hx⟩ : ∃ x, l[k]? = some x := ⟨_, List.getElem?_eq_getElem hlt⟩
            obtain ⟨bb, off, rfl, hcl⟩ := (HS.out.below hb (Nat.le_refl _)).at_ hx
            obtain ⟨f1, f2, f3⟩ := HF.out x (List.mem_of_getElem? hx)
            obtain ⟨tx, etx⟩ : ∃ tx, tx = txE x := ⟨_, rfl⟩
            obtain ⟨vb, evb⟩ : ∃ vb, vb = sgnB x other := ⟨_, rfl⟩
            have htx : tx.size ≤ 1000000000000 := by have := txE_size f1; rw [etx]; omega
            have C5 : Hid (∀ w' : World, Below w.heap.size w w' → Calls Tryd.prog 19 #[.agg (encE x).toArray] w' fun en w2 => en = .returned (.string tx) ∧ Below w'.heap.size w' w2) := fun w' h => by
              have := text31_any x w' f1 f2 f3 (HT.out.below h (Nat.le_refl _))
              rw [← etx] at this; exact this
            have C6 : Hid (∀ w' : World, Below w.heap.size w w' → Calls Tryd.prog 18 #[.int .i64 other, .string tx, .agg #[.int .i64 x.r, .int .i64 x.s]] w' fun en w2 => en = .returned (.bool vb) ∧ Below w'.heap.size w' w2) := fun w' h => by
              have := ver_any other tx x.r x.s w' htx (HT.out.below h (Nat.le_refl _))
              rw [show verB other tx x.r x.s = vb from by rw [evb, etx]; rfl] at this; exact this
            have hstep : (l.take (k + 1)).all (sgnB · other) = ((l.take k).all (sgnB · other) && vb) := by
              obtain ⟨hk1, rfl⟩ := List.getElem?_eq_some_iff.1 hx
              rw [List.take_succ_eq_append_getElem hk1, List.all_append, evb]; simp
            have HSTEP := Lib.hid hstep
            obtain ⟨xh, xq, xd, xp, xb, xr, xs⟩ := x
            have p0 := hcl 0 _ rfl
            have p1 := hcl 1 _ rfl
            have p2 := hcl 2 _ rfl
            have p3 := hcl 3 _ rfl
            have p4 := hcl 4 _ rfl
            have p5 := hcl 5 _ rfl
            have p6 := hcl 6 _ rfl
            simp only [← Nat.add_assoc, Nat.add_zero] at p0 p1 p2 p3 p4 p5 p6
            have hki : (k : Int) < (l.length : Int) := by omega
            have k00 : (0 : Int) ≤ (k : Int) := by omega
            have HB := Lib.hid hb
            clear hcl f1 f2 f3 etx evb htx hb hx hstep
            cases hall : (l.take k).all (sgnB · other) with
            | true =>
              rw [hall, Bool.true_and] at HSTEP
              clear hall
              go_wp2_with fail
              refine Free.wp_region_free 15 [(7, .det (.string tx)), (13, .det (.bool vb))] (fun w2 => Below w.heap.size w w2 ∧ w2.cell? ⟨bb, off + k * 7, none⟩ = some (.int .i64 xh) ∧ w2.cell? ⟨bb, off + k * 7 + 1, none⟩ = some (.int .i64 xq) ∧ w2.cell? ⟨bb, off + k * 7 + 2, none⟩ = some (.int .i64 xd) ∧ w2.cell? ⟨bb, off + k * 7 + 3, none⟩ = some (.string xp) ∧ w2.cell? ⟨bb, off + k * 7 + 4, none⟩ = some (.string xb) ∧ w2.cell? ⟨bb, off + k * 7 + 5, none⟩ = some (.int .i64 xr) ∧ w2.cell? ⟨bb, off + k * 7 + 6, none⟩ = some (.int .i64 xs)) (by kernel_rfl) (by kernel_rfl) ?_ ⟨HB.out.drew, p0, p1, p2, p3, p4, p5, p6⟩ (fun _ _ h g => ⟨h.1.trans (Below.mono g h.1.size), grow_cell h.2.1 g, grow_cell h.2.2.1 g, grow_cell h.2.2.2.1 g, grow_cell h.2.2.2.2.1 g, grow_cell h.2.2.2.2.2.1 g, grow_cell h.2.2.2.2.2.2.1 g, grow_cell h.2.2.2.2.2.2.2 g⟩) ?_
              · intro j mk r hf
                simp only [Free.find] at hf
                repeat' split at hf
                all_goals (first | cases hf | skip)
              simp only [List.take_succ_cons, List.take_zero]
              clear p0 p1 p2 p3 p4 p5 p6
              iterate 7 (apply Free.chain_still (by first | exact Free.wanted_of rfl rfl rfl | rfl) rfl; (intro w' hB hA; obtain ⟨qT, q0, q1, q2, q3, q4, q5, q6⟩ := hB; clear hA  qT; go_light; go_simp <;> rfl); (try simp only [Act.put, List.setIfInBounds_toArray, List.set_cons_succ, List.set_cons_zero]))
              apply Free.chain_det (by first | exact Free.wanted_of rfl rfl rfl | rfl) rfl
              · intro w' hB hA
                refine Free.opRun_call (f := 19) (args := #[.agg (encE ⟨xh, xq, xd, xp, xb, xr, xs⟩).toArray]) (by clear hB hA; go_simp <;> rfl) ?_
                refine (C5.out _ hB.1).mono ?_
                rintro e w3 ⟨rfl, hb3⟩
                exact ⟨_, rfl, hb3, rfl⟩
              simp only [Act.put, List.setIfInBounds_toArray, List.set_cons_succ, List.set_cons_zero]
              iterate 5 (apply Free.chain_still (by first | exact Free.wanted_of rfl rfl rfl | rfl) rfl; (intro w' hB hA; obtain ⟨qT, q0, q1, q2, q3, q4, q5, q6⟩ := hB; clear hA  qT; go_light; go_simp <;> rfl); (try simp only [Act.put, List.setIfInBounds_toArray, List.set_cons_succ, List.set_cons_zero]))
              apply Free.chain_det (by first | exact Free.wanted_of rfl rfl rfl | rfl) rfl
              · intro w' hB hA
                refine Free.opRun_call (f := 18) (args := #[.int .i64 other, .string tx, .agg #[.int .i64 xr, .int .i64 xs]]) (by clear hB hA; go_simp <;> rfl) ?_
                refine (C6.out _ hB.1).mono ?_
                rintro e w3 ⟨rfl, hb3⟩
                exact ⟨_, rfl, hb3, rfl⟩
              simp only [Act.put, List.setIfInBounds_toArray, List.set_cons_succ, List.set_cons_zero]
              iterate 1 (apply Free.chain_still (by first | exact Free.wanted_of rfl rfl rfl | rfl) rfl; (intro w' hB hA; obtain ⟨qT, q0, q1, q2, q3, q4, q5, q6⟩ := hB; clear hA  qT; go_light; go_simp <;> rfl); (try simp only [Act.put, List.setIfInBounds_toArray, List.set_cons_succ, List.set_cons_zero]))
              apply Free.chain_nil
              intro wy hBz hg _
              simp only [List.drop_succ_cons, List.drop_zero]
              have key : RKY w l other (.bool vb) (.int .i64 ((k : Int) + 1)) wy := ⟨k + 1, hlt, by go_num, by rw [HSTEP.out], hBz.1⟩
              have KEY := Lib.hid key
              clear hBz hg C5 C6 key
              go_wp2_with fail
              go_roundw
              case rel =>
                go_light
                have key := KEY.out
                first | exact key | ((repeat apply Exists.intro); exact ⟨key, rfl⟩)
              case measure => simp [intOf]; omega
            | false =>
              rw [hall, Bool.false_and] at HSTEP
              clear hall
              go_wp2_with fail
              refine Free.wp_region_free 15 [] (fun w2 => Below w.heap.size w w2 ∧ True) (by kernel_rfl) (by kernel_rfl) ?_ ⟨HB.out.drew, trivial⟩ (fun _ _ h g => ⟨h.1.trans (Below.mono g h.1.size), trivial⟩) ?_
              · intro j mk r hf
                simp only [Free.find] at hf
                cases hf
              simp only [List.take_succ_cons, List.take_zero]
              clear p0 p1 p2 p3 p4 p5 p6
              iterate 2 (apply Free.chain_still (by first | exact Free.wanted_of rfl rfl rfl | rfl) rfl; (intro w' hB hA; obtain ⟨qT, qU⟩ := hB; clear hA  qT qU; go_light; go_simp <;> rfl); (try simp only [Act.put, List.setIfInBounds_toArray, List.set_cons_succ, List.set_cons_zero]))
              iterate 12 (apply Free.chain_skip (by exact unwanted2 rfl rfl rfl rfl); simp only [Act.put, List.setIfInBounds_toArray, List.set_cons_succ, List.set_cons_zero])
              iterate 1 (apply Free.chain_still (by first | exact Free.wanted_of rfl rfl rfl | rfl) rfl; (intro w' hB hA; obtain ⟨qT, qU⟩ := hB; clear hA  qT qU; go_light; go_simp <;> rfl); (try simp only [Act.put, List.setIfInBounds_toArray, List.set_cons_succ, List.set_cons_zero]))
              apply Free.chain_nil
              intro wy hBz hg _
              simp only [List.drop_succ_cons, List.drop_zero]
              have key : RKY w l other (.bool false) (.int .i64 ((k : Int) + 1)) wy := ⟨k + 1, hlt, by go_num, by rw [HSTEP.out], hBz.1⟩
              have KEY := Lib.hid key
              clear hBz hg C5 C6 key
              go_wp2_with fail
              go_roundw
              case rel =>
                go_light
                have key := KEY.out
                first | exact key | ((repeat apply Exists.intro); exact ⟨key, rfl⟩)
              case measure => simp [intOf]; omega
          · obtain rfl : k = l.length := by omega
            rw [List.take_length, ← HLAW.out.1]
            have HB := Lib.hid hb
            clear hb
            go_wp2_with fail
            refine (C4.out _ HB.out).mono ?_
            rintro e w3 ⟨rfl, hb3⟩
            have HB3 := Lib.hid (HB.out.trans (hb3.mono HB.out.size))
            clear hb3 HB C4
            simp only
            rcases HLAW.out.2 with rfl | rfl
            · clear HLAW
              go_wp2_with fail
              go_ret
              exact ⟨rfl, HB3.out⟩
            · clear HLAW
              go_wp2_with fail
              go_ret
              exact ⟨rfl, HB3.out⟩
      · have hck := chk_ok hc
        have C3 : Hid (∀ w', Below w.heap.size w w' → Calls Tryd.prog 17 #[.slice A l.length c, .int .i64 house, .int .i64 pub] w' (ChkPost w' (0, -1))) := fun w' hb => by
          have := C2.out w' pub hb
          rw [hck] at this; exact this
        clear h ho hT hfew hf hc hck C2
        by_cases ho3 : other < 1
        · go_enter Tryd.func11, Tryd.ntmps11
          go_wp2_with fail
          refine (head31_any _ HT.out).mono ?_
          rintro e w1 ⟨rfl, hb1⟩
          have HB1 := Lib.hid hb1
          clear hb1
          go_wp2_with fail
          refine (C1.out _ HB1.out).mono ?_
          rintro e w' ⟨rfl, rfl⟩
          clear C1
          go_wp2_with fail
          refine (C3.out _ HB1.out).mono ?_
          rintro e w2 ⟨rfl, hb2⟩
          have HB2 := Lib.hid (HB1.out.trans (hb2.mono HB1.out.size))
          clear hb2 HB1 C3
          simp only
          go_wp2_with fail
          go_ret
          exact ⟨rfl, HB2.out⟩
        · have ho4 : 2147483646 < other := by omega
          go_enter Tryd.func11, Tryd.ntmps11
          go_wp2_with fail
          refine (head31_any _ HT.out).mono ?_
          rintro e w1 ⟨rfl, hb1⟩
          have HB1 := Lib.hid hb1
          clear hb1
          go_wp2_with fail
          refine (C1.out _ HB1.out).mono ?_
          rintro e w' ⟨rfl, rfl⟩
          clear C1
          go_wp2_with fail
          refine (C3.out _ HB1.out).mono ?_
          rintro e w2 ⟨rfl, hb2⟩
          have HB2 := Lib.hid (HB1.out.trans (hb2.mono HB1.out.size))
          clear hb2 HB1 C3
          simp only
          go_wp2_with fail
          go_ret
          exact ⟨rfl, HB2.out⟩
    · have C3 : Hid (∀ w', Below w.heap.size w w' → Calls Tryd.prog 17 #[.slice A l.length c, .int .i64 house, .int .i64 pub] w' (ChkPost w' (chk l house pub))) := fun w' hb => C2.out w' pub hb
      obtain ⟨fe, efe⟩ : ∃ fe, fe = chk l house pub := ⟨_, rfl⟩
      rw [← efe] at C3 hc
      obtain ⟨fe1, fe2⟩ := fe
      have hcb : (fe1 != 0) = true := by simpa using hc
      clear h ho hT hfew hf C2 efe hc
      go_enter Tryd.func11, Tryd.ntmps11
      go_wp2_with fail
      refine (head31_any _ HT.out).mono ?_
      rintro e w1 ⟨rfl, hb1⟩
      have HB1 := Lib.hid hb1
      clear hb1
      go_wp2_with fail
      refine (C1.out _ HB1.out).mono ?_
      rintro e w' ⟨rfl, rfl⟩
      clear C1
      go_wp2_with fail
      refine (C3.out _ HB1.out).mono ?_
      rintro e w2 ⟨rfl, hb2⟩
      have HB2 := Lib.hid (HB1.out.trans (hb2.mono HB1.out.size))
      clear hb2 HB1 C3
      simp only
      go_wp2_with fail
      go_ret
      exact ⟨rfl, HB2.out⟩
  · have hff : fewB l 14 = false := by cases hb : fewB l 14 with | true => exact absurd hb hfew | false => rfl
    rw [hff] at C1
    clear h ho hT hfew hff
    go_enter Tryd.func11, Tryd.ntmps11
    go_wp2_with fail
    refine (head31_any _ HT.out).mono ?_
    rintro e w1 ⟨rfl, hb1⟩
    have HB1 := Lib.hid hb1
    clear hb1
    go_wp2_with fail
    refine (C1.out _ HB1.out).mono ?_
    rintro e w' ⟨rfl, rfl⟩
    clear C1
    go_wp2_with fail
    go_ret
    exact ⟨rfl, HB1.out⟩
end Go.Proofs.YtaaenobckipfkaaDoor
