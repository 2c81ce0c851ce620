/- The statement TopSealed, walked. Condition: the variables of digest, strconv and the library hold what they hold at the start. The statement TopSealed for its arguments. Condition: the variables of digest, strconv and the library hold what they hold at the start. -/
import Derived.Test.YtaaenobckipfkaaDoorTsJ
namespace Go.Proofs.YtaaenobckipfkaaDoor
open Go.RowKit Go.Blk Go.Opn Go.Apl Go.Sg

theorem parse_yes (x : Fac) (w : World) (hx : x.Ok) (hT : HasT w) (hE : HasE w) :
    Calls Tryd.prog 15 #[.string (bdF x)] w fun e w' => e = .returned (.tuple #[.agg (encF x).toArray, .int .i64 0]) ∧ Below w.heap.size w w' := by
  obtain ⟨t, et⟩ : ∃ t : List UInt8, bdF x = ⟨t.toArray⟩ := ⟨(bdF x).data.toList, by simp⟩
  rw [et]
  have hs := bdF_size hx
  rw [et] at hs
  refine (parse_any t w (by have : t.toArray.size ≤ 136 := hs; simp at this; omega) hT hE).mono ?_
  rintro e w' ⟨hb, ⟨y, hy, e1, rfl⟩ | ⟨hn, _⟩⟩
  · rw [← et] at e1
    rw [bdF_inj hy hx e1]
    exact ⟨rfl, hb⟩
  · exact absurd et (hn x hx)
theorem det2 {i j : Nat} {u v : Value} : ∀ k mk r, Free.find [(i, .det u), (j, .det v)] k ≠ some (.ind mk r) := by
  intro k mk r hf
  simp only [Free.find] at hf
  split at hf
  · cases hf
  · split at hf <;> cases hf
set_option maxRecDepth 100000 in
theorem exec_sig {o : Oper} {ρ : Operand → Value} {w : World} {a : Operand} {b off : Nat} {r s : Int} (ho : o.op = .load 35 a) (ha : ρ a = .pointer (some ⟨b, off, none⟩)) (h0 : w.cell? ⟨b, off, none⟩ = some (.int .i64 r)) (h1 : w.cell? ⟨b, off + 1, none⟩ = some (.int .i64 s)) :
    (execOp ρ o).run Tryd.prog w = .ok (.value (.agg #[.int .i64 r, .int .i64 s])) w := by
  unfold execOp
  simp only [ho, ha]
  go_simp <;> rfl
def RSL (w : World) (n : Nat) (i : Value) (wr : World) : Prop := ∃ k : Nat, k ≤ n ∧ i = .int .i64 k ∧ Below w.heap.size w wr
set_option maxRecDepth 100000 in
set_option maxHeartbeats 8000000 in
theorem sealed_any (A : Option Addr) (c : Nat) (l : List Fac) (secret : Int) (rn : Nat) (x : Fac) (w : World) (h : SL w 6 encF A l) (hln : l.length ≤ 9223372036854775807) (ho : ∀ x ∈ l, x.Ok) (hx : x.Ok) (r1 : rn ≤ 255) (hT : HasT w) (hE : HasE w) :
    Calls Tryd.prog 3 #[.slice A l.length c, .int .i64 secret, .int .u8 (rn : Int), .agg (encF x).toArray] w fun e w' => e = .returned (.bool true) ∧ Below w.heap.size w w' := by
  obtain ⟨R, eR⟩ : ∃ R : Ending → World → Prop, R = fun e w' => e = .returned (.bool true) ∧ Below w.heap.size w w' := ⟨_, rfl⟩
  rw [← eR]
  have FIN : Hid (∀ w', Below w.heap.size w w' → R (.returned (.bool true)) w') := by intro w' hb; rw [eR]; exact ⟨rfl, hb⟩
  have HS := Lib.hid h
  have HO := Lib.hid ho
  have HX := Lib.hid hx
  have HT := Lib.hid hT
  have HE := Lib.hid hE
  obtain ⟨V, eV⟩ : ∃ V, V = w.alloc (.cells (encF x).toArray 24) := ⟨_, rfl⟩
  have LV : Hid (Below w.heap.size w V) := by rw [eV]; exact (Below.refl _ _).alloc (Nat.le_refl _) _
  have BV : Hid (V.heap[w.heap.size]? = some (.cells (encF x).toArray 24 (0, 0))) := by rw [eV]; exact Rf.new_at rfl
  clear h ho hx hT hE eR
  go_enter Tryd.func3, Tryd.ntmps3
  go_wp2_with fail
  rw [← eV]
  refine (kept_any _ (HT.out.below LV.out (Nat.le_refl _))).mono ?_
  rintro e w1 ⟨rfl, bl1⟩
  have L1 := Lib.hid (LV.out.trans (bl1.mono LV.out.size))
  have B1 : Hid (w1.heap[w.heap.size]? = some (.cells (encF x).toArray 24 (0, 0))) := (bl1.block _ (Array.getElem?_eq_some_iff.1 BV.out).1).trans BV.out
  clear bl1 LV BV eV
  by_cases h0 : l.length = 0
  · have q0 : ((l.length : Int) == 0) = true := by rw [h0]; rfl
    have q1 : (l.length == 0) = true := by rw [h0]; rfl
    have H0 := Lib.hid h0
    clear h0
    go_wp2_with fail
    exact FIN.out _ L1.out
  have q0 : ((l.length : Int) == 0) = false := beq_eq_false_iff_ne.2 (by omega)
  have q1 : (l.length == 0) = false := beq_eq_false_iff_ne.2 h0
  by_cases h8 : 8 < l.length
  · have q2 : decide ((8 : Int) < (l.length : Int)) = true := decide_eq_true (by omega)
    go_wp2_with fail
    exact FIN.out _ L1.out
  have q2 : decide ((8 : Int) < (l.length : Int)) = false := decide_eq_false (by omega)
  have hl8 : l.length ≤ 8 := by omega
  clear h8
  go_wp2_with fail
  refine (seal_any A c l secret _ (HS.out.below L1.out (Nat.le_refl _)) (by omega) HO.out (HT.out.below L1.out (Nat.le_refl _))).mono ?_
  rintro e w2 ⟨bl2, ⟨hn, rfl⟩ | ⟨out, A2, c2, hsome, hc2, rfl, sl2⟩⟩
  · have L2 := Lib.hid (L1.out.trans (bl2.mono L1.out.size))
    clear bl2 hn L1
    go_wp2_with (go_at_call 14; refine (pub_any _ _).mono ?_; rintro e w' ⟨rfl, rfl⟩)
    exact FIN.out _ L2.out
  have L2 := Lib.hid (L1.out.trans (bl2.mono L1.out.size))
  have B2 : Hid (w2.heap[w.heap.size]? = some (.cells (encF x).toArray 24 (0, 0))) := (bl2.block _ (Array.getElem?_eq_some_iff.1 B1.out).1).trans B1.out
  clear bl2 L1 B1
  obtain ⟨tl, e1, e2, e3, e4⟩ := seal_spec secret l [] out hsome
  rw [List.nil_append] at e1
  subst e1
  obtain ⟨hsec, hchk⟩ := e3 (fun e => h0 (by rw [e]; rfl))
  have HBD : Hid (∀ (i : Nat) (y : Fac), l[i]? = some y → ∃ en : E31, out[i]? = some en ∧ en.body = bdF y ∧ en.house = 0 ∧ en.day = y.filed) := fun i y hy => by
    have := e4 i y hy
    rw [List.length_nil, Nat.zero_add] at this
    exact ⟨_, this, rfl, rfl, rfl⟩
  have hol : out.length = l.length := e2
  have HFEW := Lib.hid (seal_few secret l [] out hsome few_nil HO.out (by simp; omega))
  have HOL := Lib.hid hol
  rw [hol]
  have HSEC := Lib.hid hsec
  have HCHK := Lib.hid hchk
  have HSL := Lib.hid sl2
  rw [hol] at hc2
  have pv : pubV secret = pubV secret := rfl
  have pe : pubE secret = 0 := by unfold pubE; rw [if_pos hsec]
  obtain ⟨pub, epub⟩ : ∃ pub, pub = pubV secret := ⟨_, rfl⟩
  have CP : Hid (∀ w, Calls Tryd.prog 14 #[.int .i64 secret] w fun e w' => e = .returned (.tuple #[.int .i64 pub, .int .i64 0]) ∧ w = w') := fun w => by
    have := pub_any secret w
    rw [pe, ← epub] at this; exact this
  have EP := Lib.hid epub
  have ql : ((l.length : Int) != (l.length : Int)) = false := by simp
  clear e2 e3 e4 hol hsec hchk sl2 pv pe epub hsome
  go_wp2_with (go_at_call 14; refine (CP.out _).mono ?_; rintro e w' ⟨rfl, rfl⟩)
  obtain ⟨ba, oa, rfl, _⟩ := HS.out.cells (fun e => h0 (by rw [e]; rfl))
  obtain ⟨bo, oo, rfl, _⟩ := HSL.out.cells (fun e => h0 (by rw [← HOL.out, e]; rfl))
  have HST : Hid (RSL w2 l.length (.int .i64 0) w2) := ⟨0, Nat.zero_le _, rfl, Below.refl _ _⟩
  go_loopw [14] (fun i wr => RSL w2 l.length i wr) (fun i _ => l.length - (intOf i).toNat)
  case atStart => exact HST.out
  case round =>
    clear HST
    obtain ⟨k, hk, rfl, hbr⟩ := hrel
    by_cases hlt : k < l.length
    · obtain ⟨y, hy⟩ : ∃ y, l[k]? = some y := ⟨_, List.getElem?_eq_getElem hlt⟩
      obtain ⟨en, hen, hbody, _, _⟩ := HBD.out k y hy
      have hyo := HO.out y (List.mem_of_getElem? hy)
      have LR := Lib.hid (L2.out.trans (hbr.mono L2.out.size))
      have HBR := Lib.hid hbr
      have CL : Hid (∀ w', Below w.heap.size w w' → ∀ p u, (encF y)[p]? = some u → w'.cell? ⟨ba, oa + k * 6 + p, none⟩ = some u) := fun w' hb p u hu => by
        obtain ⟨_, _, e1, h1⟩ := (HS.out.below hb (Nat.le_refl _)).at_ hy
        cases e1
        rw [Nat.add_assoc]; exact h1 p u hu
      obtain ⟨bd, ebd⟩ : ∃ bd, bd = bdF y := ⟨_, rfl⟩
      have p4 : wr.cell? ⟨bo, oo + k * 7 + 4, none⟩ = some (.string bd) := by
        obtain ⟨_, _, e1, h1⟩ := (HSL.out.below hbr (Nat.le_refl _)).at_ hen
        cases e1
        rw [Nat.add_assoc]
        have := h1 4 _ rfl
        rw [hbody, ← ebd] at this; exact this
      have CPA : Hid (∀ w', HasT w' → HasE w' → Calls Tryd.prog 15 #[.string bd] w' fun e w2 => e = .returned (.tuple #[.agg (encF y).toArray, .int .i64 0]) ∧ Below w'.heap.size w' w2) := fun w' h1 h2 => by rw [ebd]; exact parse_yes y w' hyo h1 h2
      have INF : Hid ((Tryd.prog.info? 24).map (·.size) = some (encF y).toArray.size) := infoF
      have ONE : Hid ((encF y).toArray.all (·.oneCell') = true) := by show _ = _; simp [encF, Value.oneCell']
      have SZE : Hid (zeroF.size = (encF y).toArray.size) := rfl
      have hki : (k : Int) < (l.length : Int) := by omega
      have k00 : (0 : Int) ≤ (k : Int) := by omega
      clear ebd hbody hen hbr
      go_wp2_with fail
      refine (CPA.out _ (HT.out.below LR.out (Nat.le_refl _)) (HE.out.below LR.out (Nat.le_refl _))).mono ?_
      rintro e w3 ⟨rfl, hb3⟩
      have B3 := Lib.hid (HBR.out.trans (hb3.mono HBR.out.size))
      clear hb3 CPA p4
      have HZ3 : Hid ((w3.alloc (.cells zeroF 24)).heap[w3.heap.size]? = some (.cells zeroF 24 (0, 0))) := Rf.new_at rfl
      go_wp2_with (with_reducible refine wpList_store_row rfl 24 (.tmp 15) (.tmp 74) rfl w3.heap.size (encF y).toArray rfl rfl 24 zeroF HZ3.out INF.out SZE.out ONE.out ?_)
      obtain ⟨W5, eW5⟩ : ∃ W5, W5 = (w3.alloc (.cells zeroF 24)).setRow w3.heap.size (encF y).toArray := ⟨_, rfl⟩
      have Z5 : Hid (W5.heap[w3.heap.size]? = some (.cells (encF y).toArray 24 (0, 0))) := by rw [eW5]; exact setRow_heap _ _ _ _ _ _ HZ3.out
      have B5 : Hid (Below w2.heap.size w2 W5) := by
        rw [eW5]
        exact (B3.out.alloc B3.out.size _).trans (row_below B3.out.size)
      rw [← eW5]
      have NE : Hid ((!eqF y y) = false) := by show _ = _; rw [eqF_self]; rfl
      clear HZ3 B3 eW5 INF ONE SZE
      refine Free.wp_region_free 10 [] (fun w2 => Below W5.heap.size W5 w2 ∧ True) (by kernel_rfl) (by kernel_rfl) (Free.mono_det (fun j mk r hf => by cases hf)) ⟨(Below.refl _ _).drew, trivial⟩ (fun _ _ h g => ⟨h.1.trans (Below.mono g h.1.size), trivial⟩) ?_
      simp only [List.take_succ_cons, List.take_zero]
      iterate 3 (apply Free.chain_still (by first | exact Free.wanted_of rfl rfl rfl | rfl) rfl; (intro w' hB hA; obtain ⟨qB, _⟩ := hB; clear hA  qB; go_light; go_simp <;> rfl); (try simp only [Act.put, List.setIfInBounds_toArray, List.set_cons_succ, List.set_cons_zero]))
      apply Free.chain_still (by first | exact Free.wanted_of rfl rfl rfl | rfl) rfl
      · intro w' hB hA
        refine exec_fact (x := y) (b := w3.heap.size) (off := 0) rfl rfl (fun p u hu => ?_)
        have hz : w'.heap[w3.heap.size]? = _ := (hB.1.block _ (Array.getElem?_eq_some_iff.1 Z5.out).1).trans Z5.out
        simp only [World.cell?, hz, Nat.zero_add]
        simpa using hu
      simp only [Act.put, List.setIfInBounds_toArray, List.set_cons_succ, List.set_cons_zero]
      iterate 3 (apply Free.chain_still (by first | exact Free.wanted_of rfl rfl rfl | rfl) rfl; (intro w' hB hA; obtain ⟨qB, _⟩ := hB; clear hA  qB; go_light; go_simp <;> rfl); (try simp only [Act.put, List.setIfInBounds_toArray, List.set_cons_succ, List.set_cons_zero]))
      apply Free.chain_still (by first | exact Free.wanted_of rfl rfl rfl | rfl) rfl
      · intro w' hB hA
        exact exec_fact (x := y) rfl rfl (CL.out w' (L2.out.trans ((B5.out.trans (hB.1.mono B5.out.size)).mono L2.out.size)))
      simp only [Act.put, List.setIfInBounds_toArray, List.set_cons_succ, List.set_cons_zero]
      apply Free.chain_still (by first | exact Free.wanted_of rfl rfl rfl | rfl) rfl
      · intro w' hB hA
        exact exec_neqF (x := y) (y := y) rfl rfl rfl NE.out
      simp only [Act.put, List.setIfInBounds_toArray, List.set_cons_succ, List.set_cons_zero]
      iterate 1 (apply Free.chain_still (by first | exact Free.wanted_of rfl rfl rfl | rfl) rfl; (intro w' hB hA; obtain ⟨qB, _⟩ := hB; clear hA  qB; go_light; go_simp <;> rfl); (try simp only [Act.put, List.setIfInBounds_toArray, List.set_cons_succ, List.set_cons_zero]))
      apply Free.chain_nil
      intro wy hBz _ _
      simp only [List.drop_succ_cons, List.drop_zero]
      have KEY : Hid (RSL w2 l.length (.int .i64 ((k : Int) + 1)) wy) := ⟨k + 1, hlt, by go_num, B5.out.trans (hBz.1.mono B5.out.size)⟩
      clear hBz B5 Z5 CL LR HBR hyo hy
      go_wp2_with fail
      go_roundw
      case rel =>
        go_light
        have key := KEY.out
        first | exact key | ((repeat apply Exists.intro); exact ⟨key, rfl⟩)
      case measure => simp [intOf]; omega
    · obtain rfl : k = l.length := by omega
      have hki : ¬ ((l.length : Int) < (l.length : Int)) := by omega
      have L3 := Lib.hid (L2.out.trans (hbr.mono L2.out.size))
      have SL3 := Lib.hid (HSL.out.below hbr (Nat.le_refl _))
      have B3 : Hid (wr.heap[w.heap.size]? = some (.cells (encF x).toArray 24 (0, 0))) := (hbr.block _ (Array.getElem?_eq_some_iff.1 B2.out).1).trans B2.out
      clear hbr L2 HSL B2 hlt hk
      obtain ⟨i, ei⟩ : ∃ i : Nat, i = rn % l.length := ⟨_, rfl⟩
      have hil : i < l.length := by rw [ei]; exact Nat.mod_lt _ (by omega)
      have him : (rn : Int) % (l.length : Int) = (i : Int) := by rw [ei]; rfl
      clear ei
      go_wp2_with fail
      obtain ⟨y, hy⟩ : ∃ y, l[i]? = some y := ⟨_, List.getElem?_eq_getElem hil⟩
      obtain ⟨en, hen, hbody, hho, hdy⟩ := HBD.out i y hy
      have hyo := HO.out y (List.mem_of_getElem? hy)
      have CL : Hid (∀ w', Below w.heap.size w w' → ∀ p u, (encF y)[p]? = some u → w'.cell? ⟨ba, oa + i * 6 + p, none⟩ = some u) := fun w' hb p u hu => by
        obtain ⟨_, _, e1, h1⟩ := (HS.out.below hb (Nat.le_refl _)).at_ hy
        cases e1
        rw [Nat.add_assoc]; exact h1 p u hu
      have CX : Hid (∀ w', Below wr.heap.size wr w' → ∀ p u, (encF x)[p]? = some u → w'.cell? ⟨w.heap.size, 0 + p, none⟩ = some u) := fun w' hb p u hu => by
        have hz : w'.heap[w.heap.size]? = _ := (hb.block _ (Array.getElem?_eq_some_iff.1 B3.out).1).trans B3.out
        simp only [World.cell?, hz, Nat.zero_add]
        simpa using hu
      have HEN := Lib.hid hen
      have HBO := Lib.hid hbody
      have hii : (i : Int) < (l.length : Int) := by omega
      have i00 : (0 : Int) ≤ (i : Int) := by omega
      obtain ⟨Q, hQ⟩ : ∃ Q, eqF x y = Q := ⟨_, rfl⟩
      have HQ := Lib.hid hQ
      clear hQ hen hbody hho hdy him
      refine Free.wp_region_free 6 [] (fun w2 => Below wr.heap.size wr w2 ∧ True) (by kernel_rfl) (by kernel_rfl) (Free.mono_det (fun j mk r hf => by cases hf)) ⟨(Below.refl _ _).drew, trivial⟩ (fun _ _ h g => ⟨h.1.trans (Below.mono g h.1.size), trivial⟩) ?_
      simp only [List.take_succ_cons, List.take_zero]
      apply Free.chain_still (by first | exact Free.wanted_of rfl rfl rfl | rfl) rfl
      · intro w' hB hA
        exact exec_fact (x := x) rfl rfl (CX.out w' hB.1)
      simp only [Act.put, List.setIfInBounds_toArray, List.set_cons_succ, List.set_cons_zero]
      iterate 3 (apply Free.chain_still (by first | exact Free.wanted_of rfl rfl rfl | rfl) rfl; (intro w' hB hA; obtain ⟨qB, _⟩ := hB; clear hA  qB; go_light; go_simp <;> rfl); (try simp only [Act.put, List.setIfInBounds_toArray, List.set_cons_succ, List.set_cons_zero]))
      apply Free.chain_still (by first | exact Free.wanted_of rfl rfl rfl | rfl) rfl
      · intro w' hB hA
        exact exec_fact (x := y) rfl rfl (CL.out w' (L3.out.trans (hB.1.mono L3.out.size)))
      simp only [Act.put, List.setIfInBounds_toArray, List.set_cons_succ, List.set_cons_zero]
      apply Free.chain_still (by first | exact Free.wanted_of rfl rfl rfl | rfl) rfl
      · intro w' hB hA
        exact exec_eqlF (x := x) (y := y) rfl rfl rfl HQ.out
      simp only [Act.put, List.setIfInBounds_toArray, List.set_cons_succ, List.set_cons_zero]
      apply Free.chain_nil
      intro w4 hB4 _ _
      simp only [List.drop_succ_cons, List.drop_zero]
      have L4 := Lib.hid (L3.out.trans (hB4.1.mono L3.out.size))
      have SL4 := Lib.hid (SL3.out.below hB4.1 (Nat.le_refl _))
      have C4 : Hid (∀ p u, (encF x)[p]? = some u → w4.cell? ⟨w.heap.size, 0 + p, none⟩ = some u) := CX.out w4 hB4.1
      clear hB4 CX CL SL3 B3
      cases Q with
      | true =>
        go_wp2_with fail
        exact FIN.out _ L4.out
      | false =>
      have hne : en.body ≠ bdF x := fun e => by
        rw [HBO.out] at e
        have := bdF_inj hyo HX.out e
        rw [this, eqF_self] at HQ
        exact absurd HQ.out (by decide)
      obtain ⟨i0, hi, hz0, hz1, hz2⟩ := info_parts infoE
      go_wp2_with (at_builtin; refine wpList_append_list rfl (.tmp 98) (.tmp 99) 26 rfl w4.heap.size 37 i0 _ 72 Tryd.underlying26 hi hz0 hz1 hz2 rfl (by decide) encE_len encE_one _ 0 [] rfl (World.ownsRow_made w4 #[] 0 (Nat.le_refl _) (by decide) rfl) (some ⟨bo, oo, none⟩) c2 out (by rw [HOL.out]; rfl) (SL4.out.alloc _) (by rw [HOL.out]; have : maxLen = 9223372036854775807 := rfl; omega) (by rw [HOL.out]; omega) (by simp) ?_)
      intro v' w6 hown hgr _
      obtain ⟨g, cap, cur, rfl, hg1, hg2, hg3, hg4, hg5, hsl⟩ := own_at (l := out) encE_len (by simpa using hown) (fun e => h0 (by rw [← HOL.out, e]; rfl))
      have bl6 : Below w4.heap.size w4 w6 := ⟨hgr.os, hgr.tape, hgr.output, by have := hgr.size; simp at this; omega, fun k hk => (hgr.block k (by simp; omega) (by simp [Value.ownBlock]; omega)).trans (Below.heap_alloc w4 _ k hk)⟩
      rw [HOL.out] at hg3
      simp only [HOL.out]
      have HG1 := Lib.hid hg1
      have HG2 := Lib.hid hg2
      have HSL6 := Lib.hid hsl
      have B6 := Lib.hid bl6
      have T6 := Lib.hid (HT.out.below (L4.out.trans (bl6.mono L4.out.size)) (Nat.le_refl _))
      have hcap : l.length ≤ cap := hg3
      have BX : Hid (∀ w', HasT w' → Calls Tryd.prog 16 #[.agg #[.int .i64 x.ref, .int .i64 x.act, .int .i64 x.low, .int .i64 x.high, .int .i64 x.filed, .bool x.secret]] w' fun e w2 => e = .returned (.string (bdF x)) ∧ Below w'.heap.size w' w2) := fun w' h => body_any x w' HX.out h
      have C6 : Hid (∀ p u, (encF x)[p]? = some u → w6.cell? ⟨w.heap.size, 0 + p, none⟩ = some u) := fun p u hu => cellB (C4.out p u hu) bl6 (cell_lt (C4.out p u hu))
      clear hown hgr hsl hg1 hg2 hg3 hg4 hg5 bl6 hi hz0 hz1 hz2 C4
      have p0 := C6.out 0 _ rfl
      have p1 := C6.out 1 _ rfl
      have p2 := C6.out 2 _ rfl
      have p3 := C6.out 3 _ rfl
      have p4 := C6.out 4 _ rfl
      have p5 := C6.out 5 _ rfl
      simp only [Nat.zero_add] at p0 p1 p2 p3 p4 p5
      obtain ⟨bx, ebx⟩ : ∃ bx, bx = bdF x := ⟨_, rfl⟩
      rw [← ebx] at BX hne
      have hbs : bx.size ≤ 136 := by rw [ebx]; exact bdF_size HX.out
      clear C6 ebx
      go_wp2_with fail
      refine (BX.out _ T6.out).mono ?_
      rintro e w7 ⟨rfl, bl7⟩
      have hg7 : w7.heap[g]? = some (.cells cur 37 (0, 0)) := (bl7.block g (Array.getElem?_eq_some_iff.1 HG2.out).1).trans HG2.out
      have hsl7 := HSL6.out.below bl7 (Nat.le_refl _)
      have hil2 : i < out.length := by rw [HOL.out]; exact hil
      obtain ⟨o1, eo1⟩ : ∃ o1 : E31, o1 = { en with body := bx } := ⟨_, rfl⟩
      have HD : Hid (encE o1 = (encE en).set 4 (.string bx)) := by rw [eo1]; rfl
      have hsd := sl_set (i := i) (p := 4) (e := en) (e' := o1) (v := .string bx) encE_len hg7 hsl7 HEN.out (by decide) HD.out
      have bl8 := (B6.out.trans (bl7.mono B6.out.size)).setCell (p := ⟨g, i * 7 + 4, none⟩) HG1.out (.string bx)
      have hg8 := set_heap (k := i * 7 + 4) (v := .string bx) hg7
      have f4 := row_frozen (k := i * 7 + 4) hg7
      have g4 : w7.cell? ⟨g, i * 7 + 4, none⟩ = some (.string en.body) := by
        obtain ⟨_, _, e1, h1⟩ := hsl7.at_ HEN.out
        cases e1
        have := h1 4 _ rfl
        rw [Nat.zero_add] at this; exact this
      obtain ⟨W8, eW8⟩ : ∃ W8, W8 = w7.setCell ⟨g, i * 7 + 4, none⟩ (.string bx) := ⟨_, rfl⟩
      rw [← eW8] at hsd bl8 hg8
      have EW8 := Lib.hid eW8
      have HGG : Hid (w4.heap.size ≤ g) := HG1.out
      have S8 := Lib.hid hsd
      have B8 := Lib.hid bl8
      have G8 := Lib.hid hg8
      have L8 := Lib.hid (L4.out.trans (bl8.mono L4.out.size))
      have T8 := Lib.hid (HT.out.below L8.out (Nat.le_refl _))
      have SE8 := Lib.hid (SL4.out.below bl8 (Nat.le_refl _))
      obtain ⟨oe1, oe2, oe3⟩ := HFEW.out en (List.mem_of_getElem? HEN.out)
      have oo1 : o1.Ok ∧ o1.prev.size ≤ 1000000000 ∧ o1.body.size ≤ 1000000000 := by
        rw [eo1]
        exact ⟨⟨oe1.h0, oe1.h1, oe1.q0, oe1.q1, oe1.d0, oe1.d1, oe1.r0, oe1.r1, oe1.s0, oe1.s1, oe1.p1, by show bx.size ≤ _; omega⟩, oe2, by show bx.size ≤ _; omega⟩
      have OO1 := Lib.hid oo1
      have OEN := Lib.hid (show en.Ok ∧ en.prev.size ≤ 1000000000 ∧ en.body.size ≤ 1000000000 from ⟨oe1, oe2, oe3⟩)
      have F8 := Lib.hid (few_set (i := i) HFEW.out oo1)
      have EO1 := Lib.hid eo1
      have LAW := Lib.hid (law_first (o := o1) hil2 HCHK.out)
      rw [← EP.out] at LAW
      obtain ⟨ch, ech⟩ : ∃ ch, ch = chk (out.set i o1) 0 pub := ⟨_, rfl⟩
      have CC : Hid (∀ w', SL w' 7 encE (some ⟨g, 0, none⟩) (out.set i o1) → HasT w' → Calls Tryd.prog 17 #[.slice (some ⟨g, 0, none⟩) l.length cap, .int .i64 0, .int .i64 pub] w' (ChkPost w' ch)) := fun w' h1 h2 => by
        have := check_any (some ⟨g, 0, none⟩) cap (out.set i o1) 0 pub w' h1 (by rw [List.length_set, HOL.out]; omega) (by rw [List.length_set, HOL.out]; exact hcap) F8.out h2
        rw [List.length_set, HOL.out, ← ech] at this; exact this
      rw [← ech] at LAW
      clear hsd bl8 hg8 bl7 hg7 hsl7 eo1 oe1 oe2 oe3 oo1 HG2 HSL6 B6 T6 BX p0 p1 p2 p3 p4 p5 ech eW8
      go_wp2_with fail
      rw [← EW8.out]
      refine (CC.out _ S8.out T8.out).mono ?_
      rintro e w9 ⟨rfl, bl9⟩
      have B9 := Lib.hid (B8.out.trans (bl9.mono B8.out.size))
      have L9 := Lib.hid (L8.out.trans (bl9.mono L8.out.size))
      have T9 := Lib.hid (HT.out.below L9.out (Nat.le_refl _))
      have S9 := Lib.hid (S8.out.below bl9 (Nat.le_refl _))
      have SE9 := Lib.hid (SE8.out.below bl9 (Nat.le_refl _))
      have G9 : Hid (w9.heap[g]? = some (.cells (cur.toList.set (i * 7 + 4) (.string bx)).toArray 37 (0, 0))) := (bl9.block g (Array.getElem?_eq_some_iff.1 G8.out).1).trans G8.out
      have CE : Hid (∀ w', Below w9.heap.size w9 w' → ∀ p u, (encE o1)[p]? = some u → w'.cell? ⟨g, i * 7 + p, none⟩ = some u) := fun w' hb p u hu => by
        obtain ⟨_, _, e1, h1⟩ := (S9.out.below hb (Nat.le_refl _)).at_ (show (out.set i o1)[i]? = some o1 from List.getElem?_set_self (by rw [HOL.out]; exact hil))
        cases e1
        have := h1 p u hu
        rw [Nat.zero_add] at this; exact this
      have CT : Hid (∀ w', HasT w' → Calls Tryd.prog 19 #[.agg (encE o1).toArray] w' fun e w2 => e = .returned (.string (txE o1)) ∧ Below w'.heap.size w' w2) := fun w' h => text31_any o1 w' OO1.out.1 OO1.out.2.1 OO1.out.2.2 h
      have HTX : Hid ((txE o1).size ≤ 1000000000000) := by have h1 := txE_size OO1.out.1; have h2 := OO1.out.2.1; have h3 := OO1.out.2.2; show _ ≤ _; omega
      clear bl9 S8 T8 SE8 L8 B8 G8 CC EW8 f4 g4
      obtain ⟨E1, a1⟩ := ch
      rcases LAW.out with ⟨c0, hsg⟩ | ⟨c0, ha | ha⟩
      · dsimp only at c0
        subst c0
        have CV : Hid (∀ w', HasT w' → Calls Tryd.prog 18 #[.int .i64 pub, .string (txE o1), .agg #[.int .i64 o1.r, .int .i64 o1.s]] w' fun e w2 => e = .returned (.bool true) ∧ Below w'.heap.size w' w2) := fun w' h => by
          have := ver_any pub (txE o1) o1.r o1.s w' HTX.out h
          rw [show verB pub (txE o1) o1.r o1.s = true from hsg] at this; exact this
        clear hsg LAW
        go_wp2_with fail
        refine Free.wp_region_free 32 [(8, .det (.string (txE o1))), (14, .det (.bool true))] (fun w2 => Below w9.heap.size w9 w2 ∧ True) (by kernel_rfl) (by kernel_rfl) (Free.mono_det det2) ⟨(Below.refl _ _).drew, trivial⟩ (fun _ _ h g => ⟨h.1.trans (Below.mono g h.1.size), trivial⟩) ?_
        simp only [List.take_succ_cons, List.take_zero]
        iterate 7 (apply Free.chain_still (by first | exact Free.wanted_of rfl rfl rfl | rfl) rfl; (intro w' hB hA; obtain ⟨qB, _⟩ := hB; clear hA  qB; go_light; go_simp <;> rfl); (try simp only [Act.put, List.setIfInBounds_toArray, List.set_cons_succ, List.set_cons_zero]))
        apply Free.chain_still (by first | exact Free.wanted_of rfl rfl rfl | rfl) rfl
        · intro w' hB hA
          exact exec_entry (x := o1) rfl rfl (CE.out w' hB.1)
        simp only [Act.put, List.setIfInBounds_toArray, List.set_cons_succ, List.set_cons_zero]
        apply Free.chain_det (by first | exact Free.wanted_of rfl rfl rfl | rfl) rfl
        · intro w' hB hA
          refine Free.opRun_call (f := 19) (args := #[.agg (encE o1).toArray]) (by clear hB hA; go_simp <;> rfl) ?_
          refine (CT.out w' (HT.out.below (L9.out.trans (hB.1.mono L9.out.size)) (Nat.le_refl _))).mono ?_
          rintro e w3 ⟨rfl, hb3⟩
          exact ⟨_, rfl, hb3, rfl⟩
        simp only [Act.put, List.setIfInBounds_toArray, List.set_cons_succ, List.set_cons_zero]
        iterate 4 (apply Free.chain_still (by first | exact Free.wanted_of rfl rfl rfl | rfl) rfl; (intro w' hB hA; obtain ⟨qB, _⟩ := hB; clear hA  qB; go_light; go_simp <;> rfl); (try simp only [Act.put, List.setIfInBounds_toArray, List.set_cons_succ, List.set_cons_zero]))
        apply Free.chain_still (by first | exact Free.wanted_of rfl rfl rfl | rfl) rfl
        · intro w' hB hA
          exact exec_sig (r := o1.r) (s := o1.s) rfl rfl (CE.out w' hB.1 5 _ rfl) (CE.out w' hB.1 6 _ rfl)
        simp only [Act.put, List.setIfInBounds_toArray, List.set_cons_succ, List.set_cons_zero]
        apply Free.chain_det (by first | exact Free.wanted_of rfl rfl rfl | rfl) rfl
        · intro w' hB hA
          refine Free.opRun_call (f := 18) (args := #[.int .i64 pub, .string (txE o1), .agg #[.int .i64 o1.r, .int .i64 o1.s]]) (by clear hB hA; go_simp <;> rfl) ?_
          refine (CV.out w' (HT.out.below (L9.out.trans (hB.1.mono L9.out.size)) (Nat.le_refl _))).mono ?_
          rintro e w3 ⟨rfl, hb3⟩
          exact ⟨_, rfl, hb3, rfl⟩
        simp only [Act.put, List.setIfInBounds_toArray, List.set_cons_succ, List.set_cons_zero]
        iterate 6 (apply Free.chain_still (by first | exact Free.wanted_of rfl rfl rfl | rfl) rfl; (intro w' hB hA; obtain ⟨qB, _⟩ := hB; clear hA  qB; go_light; go_simp <;> rfl); (try simp only [Act.put, List.setIfInBounds_toArray, List.set_cons_succ, List.set_cons_zero]))
        iterate 3 (apply Free.chain_skip (by exact unwanted2 rfl rfl rfl rfl); simp only [Act.put, List.setIfInBounds_toArray, List.set_cons_succ, List.set_cons_zero])
        iterate 2 (apply Free.chain_still (by first | exact Free.wanted_of rfl rfl rfl | rfl) rfl; (intro w' hB hA; obtain ⟨qB, _⟩ := hB; clear hA  qB; go_light; go_simp <;> rfl); (try simp only [Act.put, List.setIfInBounds_toArray, List.set_cons_succ, List.set_cons_zero]))
        iterate 4 (apply Free.chain_skip (by exact unwanted2 rfl rfl rfl rfl); simp only [Act.put, List.setIfInBounds_toArray, List.set_cons_succ, List.set_cons_zero])
        iterate 2 (apply Free.chain_still (by first | exact Free.wanted_of rfl rfl rfl | rfl) rfl; (intro w' hB hA; obtain ⟨qB, _⟩ := hB; clear hA  qB; go_light; go_simp <;> rfl); (try simp only [Act.put, List.setIfInBounds_toArray, List.set_cons_succ, List.set_cons_zero]))
        apply Free.chain_nil
        intro wa hBa _ _
        simp only [List.drop_succ_cons, List.drop_zero]
        clear CV
        have BA := Lib.hid (B9.out.trans (hBa.1.mono B9.out.size))
        have LA := Lib.hid (L9.out.trans (hBa.1.mono L9.out.size))
        have TA := Lib.hid (HT.out.below LA.out (Nat.le_refl _))
        have SA := Lib.hid (S9.out.below hBa.1 (Nat.le_refl _))
        have SEA := Lib.hid (SE9.out.below hBa.1 (Nat.le_refl _))
        have GA : Hid (wa.heap[g]? = some (.cells (cur.toList.set (i * 7 + 4) (.string bx)).toArray 37 (0, 0))) := (hBa.1.block g (Array.getElem?_eq_some_iff.1 G9.out).1).trans G9.out
        have k0 := CE.out wa hBa.1 0 _ rfl
        have k1 := CE.out wa hBa.1 1 _ rfl
        have k2 := CE.out wa hBa.1 2 _ rfl
        have k3 := CE.out wa hBa.1 3 _ rfl
        have k4 := CE.out wa hBa.1 4 _ rfl
        have k5 := CE.out wa hBa.1 5 _ rfl
        have k6 := CE.out wa hBa.1 6 _ rfl
        simp only [Nat.add_zero] at k0
        clear hBa S9 SE9 T9 L9 B9 G9 CE
        go_wp2_with fail
        refine (CT.out _ TA.out).mono ?_
        rintro e w10 ⟨rfl, bl10⟩
        have L10 := Lib.hid (LA.out.trans (bl10.mono LA.out.size))
        have T10 := Lib.hid (HT.out.below L10.out (Nat.le_refl _))
        have B10 := Lib.hid bl10
        clear bl10 k0 k1 k2 k3 k4 k5 k6
        go_wp2_with fail
        refine (sign_yes secret _ _ HSEC.out HTX.out T10.out).mono ?_
        rintro e w11 ⟨rfl, bl11⟩
        have C11 := Lib.hid (B10.out.trans (bl11.mono B10.out.size))
        have S11 := SA.out.below C11.out (Nat.le_refl _)
        have hg11 : w11.heap[g]? = some (.cells (cur.toList.set (i * 7 + 4) (.string bx)).toArray 37 (0, 0)) := (C11.out.block g (Array.getElem?_eq_some_iff.1 GA.out).1).trans GA.out
        have hset : (out.set i o1)[i]? = some o1 := List.getElem?_set_self (by rw [HOL.out]; exact hil)
        have c5 : w11.cell? ⟨g, i * 7 + 5, none⟩ = some (.int .i64 o1.r) := by
          obtain ⟨_, _, e1, h1⟩ := S11.at_ hset
          cases e1
          have := h1 5 _ rfl
          rw [Nat.zero_add] at this; exact this
        have c6 : w11.cell? ⟨g, i * 7 + 6, none⟩ = some (.int .i64 o1.s) := by
          obtain ⟨_, _, e1, h1⟩ := S11.at_ hset
          cases e1
          have := h1 6 _ rfl
          rw [Nat.zero_add] at this; exact this
        have f5 := row_frozen (k := i * 7 + 5) hg11
        have f6 := row_frozen (k := i * 7 + 6) hg11
        obtain ⟨rr, err⟩ : ∃ rr, rr = sgR secret (txE o1) := ⟨_, rfl⟩
        obtain ⟨ss, ess⟩ : ∃ ss, ss = sgS secret (txE o1) := ⟨_, rfl⟩
        rw [← err, ← ess]
        obtain ⟨o2, eo2⟩ : ∃ o2 : E31, o2 = anew en secret bx := ⟨_, rfl⟩
        have EO2 := Lib.hid eo2
        have h25 : encE { o1 with r := rr } = (encE o1).set 5 (.int .i64 rr) := rfl
        have h26 : encE o2 = (encE { o1 with r := rr }).set 6 (.int .i64 ss) := by rw [eo2, err, ess, EO1.out]; rfl
        have s5 := sl_set (i := i) (p := 5) (e := o1) (e' := { o1 with r := rr }) (v := .int .i64 rr) encE_len hg11 S11 hset (by decide) h25
        have g5 := set_heap (k := i * 7 + 5) (v := .int .i64 rr) hg11
        have s6 := sl_set (i := i) (p := 6) (e := { o1 with r := rr }) (e' := o2) (v := .int .i64 ss) encE_len g5 s5 (List.getElem?_set_self (by rw [List.length_set, HOL.out]; exact hil)) (by decide) h26
        rw [List.set_set, List.set_set] at s6
        have c6' : (w11.setCell ⟨g, i * 7 + 5, none⟩ (.int .i64 rr)).cell? ⟨g, i * 7 + 6, none⟩ = some (.int .i64 o1.s) := by
          obtain ⟨_, _, e1, h1⟩ := s5.at_ (show ((out.set i o1).set i { o1 with r := rr })[i]? = some { o1 with r := rr } from List.getElem?_set_self (by rw [List.length_set, HOL.out]; exact hil))
          cases e1
          have := h1 6 _ rfl
          rw [Nat.zero_add] at this; exact this
        have f6' := row_frozen (k := i * 7 + 6) g5
        have blg : w4.heap.size ≤ g := HGG.out
        have B12 := Lib.hid (((BA.out.trans (C11.out.mono BA.out.size)).setCell (p := ⟨g, i * 7 + 5, none⟩) blg (.int .i64 rr)).setCell (p := ⟨g, i * 7 + 6, none⟩) blg (.int .i64 ss))
        have b12 := B12.out
        have e56 : i * 7 + 6 = i * 7 + 5 + 1 := rfl
        rw [e56] at s6 b12 c6' f6' c6 f6
        obtain ⟨W12, eW12⟩ : ∃ W12, W12 = (w11.setCell ⟨g, i * 7 + 5, none⟩ (.int .i64 rr)).setCell ⟨g, i * 7 + 5 + 1, none⟩ (.int .i64 ss) := ⟨_, rfl⟩
        rw [← eW12] at s6 b12
        have EW12 := Lib.hid eW12
        have S12 := Lib.hid s6
        have L12 := Lib.hid (L4.out.trans (b12.mono L4.out.size))
        have T12 := Lib.hid (HT.out.below L12.out (Nat.le_refl _))
        have SE12 := Lib.hid (SL4.out.below b12 (Nat.le_refl _))
        have hb2000 : bx.size ≤ 2000 := by omega
        have oo2 : o2.Ok ∧ o2.prev.size ≤ 1000000000 ∧ o2.body.size ≤ 1000000000 := by
          obtain ⟨oe1, oe2, _⟩ := OEN.out
          have sr := sgR_le secret (txE { en with body := bx })
          have sr0 := sgR_pos secret (txE { en with body := bx })
          have ssr := sgS_range secret (txE { en with body := bx })
          rw [eo2]
          refine ⟨⟨oe1.h0, oe1.h1, oe1.q0, oe1.q1, oe1.d0, oe1.d1, ?_, ?_, ?_, ?_, oe1.p1, by show bx.size ≤ _; omega⟩, oe2, by show bx.size ≤ _; omega⟩
          · show _ ≤ sgR secret _; omega
          · show sgR secret _ ≤ _; omega
          · show _ ≤ sgS secret _; omega
          · show sgS secret _ ≤ _; omega
        have OO2 := Lib.hid oo2
        have F12 := Lib.hid (few_set (i := i) HFEW.out oo2)
        have FK : Hid (forkB en o2 pub = true) := by
          rw [eo2, EP.out]; exact law_fork HSEC.out HCHK.out HEN.out hne
        obtain ⟨ch2, ech2⟩ : ∃ ch2, ch2 = chk (out.set i o2) 0 pub := ⟨_, rfl⟩
        have CC2 : Hid (∀ w', SL w' 7 encE (some ⟨g, 0, none⟩) (out.set i o2) → HasT w' → Calls Tryd.prog 17 #[.slice (some ⟨g, 0, none⟩) l.length cap, .int .i64 0, .int .i64 pub] w' (ChkPost w' ch2)) := fun w' h1 h2 => by
          have := check_any (some ⟨g, 0, none⟩) cap (out.set i o2) 0 pub w' h1 (by rw [List.length_set, HOL.out]; omega) (by rw [List.length_set, HOL.out]; exact hcap) F12.out h2
          rw [List.length_set, HOL.out, ← ech2] at this; exact this
        have LL : Hid (i + 1 = l.length → ch2 = (0, -1)) := fun hl => by
          rw [ech2, eo2, EP.out]
          exact law_last HSEC.out HCHK.out HEN.out hb2000 (by rw [HOL.out]; exact hl)
        have LN : Hid (i + 1 < l.length → ch2 = (17, ((i + 1 : Nat) : Int)) ∨ (dig en = dig o2 ∧ ch2 = (0, -1))) := fun hl => by
          rw [ech2, eo2, EP.out]
          exact law_next HSEC.out HCHK.out HEN.out hb2000 (by rw [HOL.out]; exact hl)
        have CFK : Hid (∀ w', HasT w' → Calls Tryd.prog 21 #[.agg (encE en).toArray, .agg (encE o2).toArray, .int .i64 pub] w' fun e w2 => e = .returned (.bool true) ∧ Below w'.heap.size w' w2) := fun w' h => by
          have := fork_any en o2 pub w' OEN.out.1 OO2.out.1 OEN.out.2.1 OO2.out.2.1 OEN.out.2.2 OO2.out.2.2 h
          rw [FK.out] at this; exact this
        have hp64 : en.prev.size ≤ 64 := by
          rw [(chk_head HCHK.out i en HEN.out).2.2.2]; exact prevE_size _
        have CD1 : Hid (∀ w', Calls Tryd.prog 22 #[.agg (encE en).toArray] w' fun e w2 => e = .returned (.string (dig en)) ∧ Below w'.heap.size w' w2) := fun w' => rdig_any en w' OEN.out.1 (by omega) (by rw [HBO.out]; have := bdF_size hyo; omega)
        have CD2 : Hid (∀ w', Calls Tryd.prog 22 #[.agg (encE o2).toArray] w' fun e w2 => e = .returned (.string (dig o2)) ∧ Below w'.heap.size w' w2) := fun w' => rdig_any o2 w' OO2.out.1 (by rw [EO2.out]; show en.prev.size ≤ _; omega) (by rw [EO2.out]; show bx.size ≤ _; omega)
        have HRR := Lib.hid err
        have HSS := Lib.hid ess
        clear s5 s6 g5 h25 h26 hg11 hset S11 bl11 SA SEA GA TA LA L10 T10 B10 C11 BA CT b12 e56 eW12 oo2 err ess eo2 ech2 B12 hb2000 hp64 OO1 F8 HTX
        go_wp2_with fail
        rw [← EW12.out]
        refine (CC2.out _ S12.out T12.out).mono ?_
        rintro e w13 ⟨rfl, bl13⟩
        have L13 := Lib.hid (L12.out.trans (bl13.mono L12.out.size))
        have T13 := Lib.hid (HT.out.below L13.out (Nat.le_refl _))
        have S13 := Lib.hid (S12.out.below bl13 (Nat.le_refl _))
        have SE13 := Lib.hid (SE12.out.below bl13 (Nat.le_refl _))
        have CN : Hid (∀ w', Below w13.heap.size w13 w' → ∀ p u, (encE en)[p]? = some u → w'.cell? ⟨bo, oo + i * 7 + p, none⟩ = some u) := fun w' hb p u hu => by
          obtain ⟨_, _, e1, h1⟩ := (SE13.out.below hb (Nat.le_refl _)).at_ HEN.out
          cases e1
          rw [Nat.add_assoc]; exact h1 p u hu
        have CO : Hid (∀ w', Below w13.heap.size w13 w' → ∀ p u, (encE o2)[p]? = some u → w'.cell? ⟨g, i * 7 + p, none⟩ = some u) := fun w' hb p u hu => by
          obtain ⟨_, _, e1, h1⟩ := (S13.out.below hb (Nat.le_refl _)).at_ (show (out.set i o2)[i]? = some o2 from List.getElem?_set_self (by rw [HOL.out]; exact hil))
          cases e1
          have := h1 p u hu
          rw [Nat.zero_add] at this; exact this
        clear bl13 S12 T12 SE12 L12 CC2 EW12 c5 c6 f5 f6 c6' f6'
        obtain ⟨E2, a2⟩ := ch2
        dsimp only
        go_wp2_with fail
        refine Free.wp_region_free 11 [(9, .det (.bool true))] (fun w2 => Below w13.heap.size w13 w2 ∧ True) (by kernel_rfl) (by kernel_rfl) (Free.mono_det (fun j mk r hf => by simp only [Free.find] at hf; split at hf <;> cases hf)) ⟨(Below.refl _ _).drew, trivial⟩ (fun _ _ h g => ⟨h.1.trans (Below.mono g h.1.size), trivial⟩) ?_
        simp only [List.take_succ_cons, List.take_zero]
        iterate 3 (apply Free.chain_still (by first | exact Free.wanted_of rfl rfl rfl | rfl) rfl; (intro w' hB hA; obtain ⟨qB, _⟩ := hB; clear hA  qB; go_light; go_simp <;> rfl); (try simp only [Act.put, List.setIfInBounds_toArray, List.set_cons_succ, List.set_cons_zero]))
        apply Free.chain_still (by first | exact Free.wanted_of rfl rfl rfl | rfl) rfl
        · intro w' hB hA
          exact exec_entry (x := en) rfl rfl (CN.out w' hB.1)
        simp only [Act.put, List.setIfInBounds_toArray, List.set_cons_succ, List.set_cons_zero]
        iterate 3 (apply Free.chain_still (by first | exact Free.wanted_of rfl rfl rfl | rfl) rfl; (intro w' hB hA; obtain ⟨qB, _⟩ := hB; clear hA  qB; go_light; go_simp <;> rfl); (try simp only [Act.put, List.setIfInBounds_toArray, List.set_cons_succ, List.set_cons_zero]))
        apply Free.chain_still (by first | exact Free.wanted_of rfl rfl rfl | rfl) rfl
        · intro w' hB hA
          exact exec_entry (x := o2) rfl rfl (CO.out w' hB.1)
        simp only [Act.put, List.setIfInBounds_toArray, List.set_cons_succ, List.set_cons_zero]
        iterate 1 (apply Free.chain_still (by first | exact Free.wanted_of rfl rfl rfl | rfl) rfl; (intro w' hB hA; obtain ⟨qB, _⟩ := hB; clear hA  qB; go_light; go_simp <;> rfl); (try simp only [Act.put, List.setIfInBounds_toArray, List.set_cons_succ, List.set_cons_zero]))
        apply Free.chain_det (by first | exact Free.wanted_of rfl rfl rfl | rfl) rfl
        · intro w' hB hA
          refine Free.opRun_call (f := 21) (args := #[.agg (encE en).toArray, .agg (encE o2).toArray, .int .i64 pub]) (by clear hB hA; go_simp <;> rfl) ?_
          refine (CFK.out w' (HT.out.below (L13.out.trans (hB.1.mono L13.out.size)) (Nat.le_refl _))).mono ?_
          rintro e w3 ⟨rfl, hb3⟩
          exact ⟨_, rfl, hb3, rfl⟩
        simp only [Act.put, List.setIfInBounds_toArray, List.set_cons_succ, List.set_cons_zero]
        iterate 1 (apply Free.chain_still (by first | exact Free.wanted_of rfl rfl rfl | rfl) rfl; (intro w' hB hA; obtain ⟨qB, _⟩ := hB; clear hA  qB; go_light; go_simp <;> rfl); (try simp only [Act.put, List.setIfInBounds_toArray, List.set_cons_succ, List.set_cons_zero]))
        apply Free.chain_nil
        intro wb hBb _ _
        simp only [List.drop_succ_cons, List.drop_zero]
        have LB := Lib.hid (L13.out.trans (hBb.1.mono L13.out.size))
        have BB := Lib.hid hBb.1
        clear hBb T13
        by_cases hlast : i + 1 = l.length
        · have e2 := LL.out hlast
          cases e2
          have z1 : ((i : Int) == (l.length : Int) - 1) = true := by simp; omega
          clear hlast
          go_wp2_with fail
          exact FIN.out _ LB.out
        have z1 : ((i : Int) == (l.length : Int) - 1) = false := beq_eq_false_iff_ne.2 (by omega)
        have z2 : IntKind.i64.wrap ((i : Int) + 1) = (i : Int) + 1 := IntWalk.i64_in _ (by omega)
        rcases LN.out (by omega) with e2 | ⟨hd, e2⟩
        · cases e2
          have z3 : (((i + 1 : Nat) : Int) == (i : Int) + 1) = true := by simp
          clear hlast
          go_wp2_with fail
          refine Free.wp_region_free 25 [] (fun w2 => Below w13.heap.size w13 w2 ∧ True) (by kernel_rfl) (by kernel_rfl) (Free.mono_det (fun j mk r hf => by cases hf)) ⟨BB.out.drew, trivial⟩ (fun _ _ h g => ⟨h.1.trans (Below.mono g h.1.size), trivial⟩) ?_
          simp only [List.take_succ_cons, List.take_zero]
          iterate 11 (apply Free.chain_still (by first | exact Free.wanted_of rfl rfl rfl | rfl) rfl; (intro w' hB hA; obtain ⟨qB, _⟩ := hB; clear hA  qB; go_light; go_simp <;> rfl); (try simp only [Act.put, List.setIfInBounds_toArray, List.set_cons_succ, List.set_cons_zero]))
          iterate 11 (apply Free.chain_skip (by exact unwanted2 rfl rfl rfl rfl); simp only [Act.put, List.setIfInBounds_toArray, List.set_cons_succ, List.set_cons_zero])
          iterate 3 (apply Free.chain_still (by first | exact Free.wanted_of rfl rfl rfl | rfl) rfl; (intro w' hB hA; obtain ⟨qB, _⟩ := hB; clear hA  qB; go_light; go_simp <;> rfl); (try simp only [Act.put, List.setIfInBounds_toArray, List.set_cons_succ, List.set_cons_zero]))
          apply Free.chain_nil
          intro wc hBc _ _
          simp only [List.drop_succ_cons, List.drop_zero]
          have LC := Lib.hid (L13.out.trans (hBc.1.mono L13.out.size))
          clear hBc
          go_wp2_with fail
          exact FIN.out _ LC.out
        · cases e2
          rw [← hd] at CD2
          obtain ⟨dd, edd⟩ : ∃ dd, dd = dig en := ⟨_, rfl⟩
          rw [← edd] at CD1 CD2
          clear hlast hd edd
          obtain ⟨dq, rfl⟩ : ∃ dq : List UInt8, dd = ⟨dq.toArray⟩ := ⟨dd.data.toList, by simp⟩
          go_wp2_with fail
          refine Free.wp_region_free 25 [(15, .det (.string ⟨dq.toArray⟩)), (20, .det (.string ⟨dq.toArray⟩))] (fun w2 => Below w13.heap.size w13 w2 ∧ True) (by kernel_rfl) (by kernel_rfl) (Free.mono_det det2) ⟨BB.out.drew, trivial⟩ (fun _ _ h g => ⟨h.1.trans (Below.mono g h.1.size), trivial⟩) ?_
          simp only [List.take_succ_cons, List.take_zero]
          iterate 5 (apply Free.chain_still (by first | exact Free.wanted_of rfl rfl rfl | rfl) rfl; (intro w' hB hA; obtain ⟨qB, _⟩ := hB; clear hA  qB; go_light; go_simp <;> rfl); (try simp only [Act.put, List.setIfInBounds_toArray, List.set_cons_succ, List.set_cons_zero]))
          iterate 4 (apply Free.chain_skip (by exact unwanted2 rfl rfl rfl rfl); simp only [Act.put, List.setIfInBounds_toArray, List.set_cons_succ, List.set_cons_zero])
          iterate 5 (apply Free.chain_still (by first | exact Free.wanted_of rfl rfl rfl | rfl) rfl; (intro w' hB hA; obtain ⟨qB, _⟩ := hB; clear hA  qB; go_light; go_simp <;> rfl); (try simp only [Act.put, List.setIfInBounds_toArray, List.set_cons_succ, List.set_cons_zero]))
          apply Free.chain_still (by first | exact Free.wanted_of rfl rfl rfl | rfl) rfl
          · intro w' hB hA
            exact exec_entry (x := en) rfl rfl (CN.out w' hB.1)
          simp only [Act.put, List.setIfInBounds_toArray, List.set_cons_succ, List.set_cons_zero]
          apply Free.chain_det (by first | exact Free.wanted_of rfl rfl rfl | rfl) rfl
          · intro w' hB hA
            refine Free.opRun_call (f := 22) (args := #[.agg (encE en).toArray]) (by clear hB hA; go_simp <;> rfl) ?_
            refine (CD1.out w').mono ?_
            rintro e w3 ⟨rfl, hb3⟩
            exact ⟨_, rfl, hb3, rfl⟩
          simp only [Act.put, List.setIfInBounds_toArray, List.set_cons_succ, List.set_cons_zero]
          iterate 3 (apply Free.chain_still (by first | exact Free.wanted_of rfl rfl rfl | rfl) rfl; (intro w' hB hA; obtain ⟨qB, _⟩ := hB; clear hA  qB; go_light; go_simp <;> rfl); (try simp only [Act.put, List.setIfInBounds_toArray, List.set_cons_succ, List.set_cons_zero]))
          apply Free.chain_still (by first | exact Free.wanted_of rfl rfl rfl | rfl) rfl
          · intro w' hB hA
            exact exec_entry (x := o2) rfl rfl (CO.out w' hB.1)
          simp only [Act.put, List.setIfInBounds_toArray, List.set_cons_succ, List.set_cons_zero]
          apply Free.chain_det (by first | exact Free.wanted_of rfl rfl rfl | rfl) rfl
          · intro w' hB hA
            refine Free.opRun_call (f := 22) (args := #[.agg (encE o2).toArray]) (by clear hB hA; go_simp <;> rfl) ?_
            refine (CD2.out w').mono ?_
            rintro e w3 ⟨rfl, hb3⟩
            exact ⟨_, rfl, hb3, rfl⟩
          simp only [Act.put, List.setIfInBounds_toArray, List.set_cons_succ, List.set_cons_zero]
          iterate 4 (apply Free.chain_still (by first | exact Free.wanted_of rfl rfl rfl | rfl) rfl; (intro w' hB hA; obtain ⟨qB, _⟩ := hB; clear hA  qB; go_light; go_simp <;> rfl); (try simp only [Act.put, List.setIfInBounds_toArray, List.set_cons_succ, List.set_cons_zero]))
          apply Free.chain_nil
          intro wc hBc _ _
          simp only [List.drop_succ_cons, List.drop_zero]
          have LC := Lib.hid (L13.out.trans (hBc.1.mono L13.out.size))
          clear hBc
          go_wp2_with fail
          exact FIN.out _ LC.out
      · dsimp only at c0 ha
        subst ha
        have n0 : (E1 == 0) = false := beq_eq_false_iff_ne.2 c0
        have n1 : (E1 != 0) = true := bne_iff_ne.2 c0
        clear c0 LAW
        go_wp2_with fail
        refine Free.wp_region_free 32 [] (fun w2 => Below w9.heap.size w9 w2 ∧ True) (by kernel_rfl) (by kernel_rfl) (Free.mono_det (fun j mk r hf => by cases hf)) ⟨(Below.refl _ _).drew, trivial⟩ (fun _ _ h g => ⟨h.1.trans (Below.mono g h.1.size), trivial⟩) ?_
        simp only [List.take_succ_cons, List.take_zero]
        iterate 3 (apply Free.chain_still (by first | exact Free.wanted_of rfl rfl rfl | rfl) rfl; (intro w' hB hA; obtain ⟨qB, _⟩ := hB; clear hA  qB; go_light; go_simp <;> rfl); (try simp only [Act.put, List.setIfInBounds_toArray, List.set_cons_succ, List.set_cons_zero]))
        iterate 13 (apply Free.chain_skip (by exact unwanted2 rfl rfl rfl rfl); simp only [Act.put, List.setIfInBounds_toArray, List.set_cons_succ, List.set_cons_zero])
        iterate 10 (apply Free.chain_still (by first | exact Free.wanted_of rfl rfl rfl | rfl) rfl; (intro w' hB hA; obtain ⟨qB, _⟩ := hB; clear hA  qB; go_light; go_simp <;> rfl); (try simp only [Act.put, List.setIfInBounds_toArray, List.set_cons_succ, List.set_cons_zero]))
        iterate 4 (apply Free.chain_skip (by exact unwanted2 rfl rfl rfl rfl); simp only [Act.put, List.setIfInBounds_toArray, List.set_cons_succ, List.set_cons_zero])
        iterate 2 (apply Free.chain_still (by first | exact Free.wanted_of rfl rfl rfl | rfl) rfl; (intro w' hB hA; obtain ⟨qB, _⟩ := hB; clear hA  qB; go_light; go_simp <;> rfl); (try simp only [Act.put, List.setIfInBounds_toArray, List.set_cons_succ, List.set_cons_zero]))
        apply Free.chain_nil
        intro wa hBa _ _
        simp only [List.drop_succ_cons, List.drop_zero]
        have BA := Lib.hid (B9.out.trans (hBa.1.mono B9.out.size))
        have LA := Lib.hid (L9.out.trans (hBa.1.mono L9.out.size))
        have TA := Lib.hid (HT.out.below LA.out (Nat.le_refl _))
        have SA := Lib.hid (S9.out.below hBa.1 (Nat.le_refl _))
        have SEA := Lib.hid (SE9.out.below hBa.1 (Nat.le_refl _))
        have GA : Hid (wa.heap[g]? = some (.cells (cur.toList.set (i * 7 + 4) (.string bx)).toArray 37 (0, 0))) := (hBa.1.block g (Array.getElem?_eq_some_iff.1 G9.out).1).trans G9.out
        have k0 := CE.out wa hBa.1 0 _ rfl
        have k1 := CE.out wa hBa.1 1 _ rfl
        have k2 := CE.out wa hBa.1 2 _ rfl
        have k3 := CE.out wa hBa.1 3 _ rfl
        have k4 := CE.out wa hBa.1 4 _ rfl
        have k5 := CE.out wa hBa.1 5 _ rfl
        have k6 := CE.out wa hBa.1 6 _ rfl
        simp only [Nat.add_zero] at k0
        clear hBa S9 SE9 T9 L9 B9 G9 CE
        go_wp2_with fail
        refine (CT.out _ TA.out).mono ?_
        rintro e w10 ⟨rfl, bl10⟩
        have L10 := Lib.hid (LA.out.trans (bl10.mono LA.out.size))
        have T10 := Lib.hid (HT.out.below L10.out (Nat.le_refl _))
        have B10 := Lib.hid bl10
        clear bl10 k0 k1 k2 k3 k4 k5 k6
        go_wp2_with fail
        refine (sign_yes secret _ _ HSEC.out HTX.out T10.out).mono ?_
        rintro e w11 ⟨rfl, bl11⟩
        have C11 := Lib.hid (B10.out.trans (bl11.mono B10.out.size))
        have S11 := SA.out.below C11.out (Nat.le_refl _)
        have hg11 : w11.heap[g]? = some (.cells (cur.toList.set (i * 7 + 4) (.string bx)).toArray 37 (0, 0)) := (C11.out.block g (Array.getElem?_eq_some_iff.1 GA.out).1).trans GA.out
        have hset : (out.set i o1)[i]? = some o1 := List.getElem?_set_self (by rw [HOL.out]; exact hil)
        have c5 : w11.cell? ⟨g, i * 7 + 5, none⟩ = some (.int .i64 o1.r) := by
          obtain ⟨_, _, e1, h1⟩ := S11.at_ hset
          cases e1
          have := h1 5 _ rfl
          rw [Nat.zero_add] at this; exact this
        have c6 : w11.cell? ⟨g, i * 7 + 6, none⟩ = some (.int .i64 o1.s) := by
          obtain ⟨_, _, e1, h1⟩ := S11.at_ hset
          cases e1
          have := h1 6 _ rfl
          rw [Nat.zero_add] at this; exact this
        have f5 := row_frozen (k := i * 7 + 5) hg11
        have f6 := row_frozen (k := i * 7 + 6) hg11
        obtain ⟨rr, err⟩ : ∃ rr, rr = sgR secret (txE o1) := ⟨_, rfl⟩
        obtain ⟨ss, ess⟩ : ∃ ss, ss = sgS secret (txE o1) := ⟨_, rfl⟩
        rw [← err, ← ess]
        obtain ⟨o2, eo2⟩ : ∃ o2 : E31, o2 = anew en secret bx := ⟨_, rfl⟩
        have EO2 := Lib.hid eo2
        have h25 : encE { o1 with r := rr } = (encE o1).set 5 (.int .i64 rr) := rfl
        have h26 : encE o2 = (encE { o1 with r := rr }).set 6 (.int .i64 ss) := by rw [eo2, err, ess, EO1.out]; rfl
        have s5 := sl_set (i := i) (p := 5) (e := o1) (e' := { o1 with r := rr }) (v := .int .i64 rr) encE_len hg11 S11 hset (by decide) h25
        have g5 := set_heap (k := i * 7 + 5) (v := .int .i64 rr) hg11
        have s6 := sl_set (i := i) (p := 6) (e := { o1 with r := rr }) (e' := o2) (v := .int .i64 ss) encE_len g5 s5 (List.getElem?_set_self (by rw [List.length_set, HOL.out]; exact hil)) (by decide) h26
        rw [List.set_set, List.set_set] at s6
        have c6' : (w11.setCell ⟨g, i * 7 + 5, none⟩ (.int .i64 rr)).cell? ⟨g, i * 7 + 6, none⟩ = some (.int .i64 o1.s) := by
          obtain ⟨_, _, e1, h1⟩ := s5.at_ (show ((out.set i o1).set i { o1 with r := rr })[i]? = some { o1 with r := rr } from List.getElem?_set_self (by rw [List.length_set, HOL.out]; exact hil))
          cases e1
          have := h1 6 _ rfl
          rw [Nat.zero_add] at this; exact this
        have f6' := row_frozen (k := i * 7 + 6) g5
        have blg : w4.heap.size ≤ g := HGG.out
        have B12 := Lib.hid (((BA.out.trans (C11.out.mono BA.out.size)).setCell (p := ⟨g, i * 7 + 5, none⟩) blg (.int .i64 rr)).setCell (p := ⟨g, i * 7 + 6, none⟩) blg (.int .i64 ss))
        have b12 := B12.out
        have e56 : i * 7 + 6 = i * 7 + 5 + 1 := rfl
        rw [e56] at s6 b12 c6' f6' c6 f6
        obtain ⟨W12, eW12⟩ : ∃ W12, W12 = (w11.setCell ⟨g, i * 7 + 5, none⟩ (.int .i64 rr)).setCell ⟨g, i * 7 + 5 + 1, none⟩ (.int .i64 ss) := ⟨_, rfl⟩
        rw [← eW12] at s6 b12
        have EW12 := Lib.hid eW12
        have S12 := Lib.hid s6
        have L12 := Lib.hid (L4.out.trans (b12.mono L4.out.size))
        have T12 := Lib.hid (HT.out.below L12.out (Nat.le_refl _))
        have SE12 := Lib.hid (SL4.out.below b12 (Nat.le_refl _))
        have hb2000 : bx.size ≤ 2000 := by omega
        have oo2 : o2.Ok ∧ o2.prev.size ≤ 1000000000 ∧ o2.body.size ≤ 1000000000 := by
          obtain ⟨oe1, oe2, _⟩ := OEN.out
          have sr := sgR_le secret (txE { en with body := bx })
          have sr0 := sgR_pos secret (txE { en with body := bx })
          have ssr := sgS_range secret (txE { en with body := bx })
          rw [eo2]
          refine ⟨⟨oe1.h0, oe1.h1, oe1.q0, oe1.q1, oe1.d0, oe1.d1, ?_, ?_, ?_, ?_, oe1.p1, by show bx.size ≤ _; omega⟩, oe2, by show bx.size ≤ _; omega⟩
          · show _ ≤ sgR secret _; omega
          · show sgR secret _ ≤ _; omega
          · show _ ≤ sgS secret _; omega
          · show sgS secret _ ≤ _; omega
        have OO2 := Lib.hid oo2
        have F12 := Lib.hid (few_set (i := i) HFEW.out oo2)
        have FK : Hid (forkB en o2 pub = true) := by
          rw [eo2, EP.out]; exact law_fork HSEC.out HCHK.out HEN.out hne
        obtain ⟨ch2, ech2⟩ : ∃ ch2, ch2 = chk (out.set i o2) 0 pub := ⟨_, rfl⟩
        have CC2 : Hid (∀ w', SL w' 7 encE (some ⟨g, 0, none⟩) (out.set i o2) → HasT w' → Calls Tryd.prog 17 #[.slice (some ⟨g, 0, none⟩) l.length cap, .int .i64 0, .int .i64 pub] w' (ChkPost w' ch2)) := fun w' h1 h2 => by
          have := check_any (some ⟨g, 0, none⟩) cap (out.set i o2) 0 pub w' h1 (by rw [List.length_set, HOL.out]; omega) (by rw [List.length_set, HOL.out]; exact hcap) F12.out h2
          rw [List.length_set, HOL.out, ← ech2] at this; exact this
        have LL : Hid (i + 1 = l.length → ch2 = (0, -1)) := fun hl => by
          rw [ech2, eo2, EP.out]
          exact law_last HSEC.out HCHK.out HEN.out hb2000 (by rw [HOL.out]; exact hl)
        have LN : Hid (i + 1 < l.length → ch2 = (17, ((i + 1 : Nat) : Int)) ∨ (dig en = dig o2 ∧ ch2 = (0, -1))) := fun hl => by
          rw [ech2, eo2, EP.out]
          exact law_next HSEC.out HCHK.out HEN.out hb2000 (by rw [HOL.out]; exact hl)
        have CFK : Hid (∀ w', HasT w' → Calls Tryd.prog 21 #[.agg (encE en).toArray, .agg (encE o2).toArray, .int .i64 pub] w' fun e w2 => e = .returned (.bool true) ∧ Below w'.heap.size w' w2) := fun w' h => by
          have := fork_any en o2 pub w' OEN.out.1 OO2.out.1 OEN.out.2.1 OO2.out.2.1 OEN.out.2.2 OO2.out.2.2 h
          rw [FK.out] at this; exact this
        have hp64 : en.prev.size ≤ 64 := by
          rw [(chk_head HCHK.out i en HEN.out).2.2.2]; exact prevE_size _
        have CD1 : Hid (∀ w', Calls Tryd.prog 22 #[.agg (encE en).toArray] w' fun e w2 => e = .returned (.string (dig en)) ∧ Below w'.heap.size w' w2) := fun w' => rdig_any en w' OEN.out.1 (by omega) (by rw [HBO.out]; have := bdF_size hyo; omega)
        have CD2 : Hid (∀ w', Calls Tryd.prog 22 #[.agg (encE o2).toArray] w' fun e w2 => e = .returned (.string (dig o2)) ∧ Below w'.heap.size w' w2) := fun w' => rdig_any o2 w' OO2.out.1 (by rw [EO2.out]; show en.prev.size ≤ _; omega) (by rw [EO2.out]; show bx.size ≤ _; omega)
        have HRR := Lib.hid err
        have HSS := Lib.hid ess
        clear s5 s6 g5 h25 h26 hg11 hset S11 bl11 SA SEA GA TA LA L10 T10 B10 C11 BA CT b12 e56 eW12 oo2 err ess eo2 ech2 B12 hb2000 hp64 OO1 F8 HTX
        go_wp2_with fail
        rw [← EW12.out]
        refine (CC2.out _ S12.out T12.out).mono ?_
        rintro e w13 ⟨rfl, bl13⟩
        have L13 := Lib.hid (L12.out.trans (bl13.mono L12.out.size))
        have T13 := Lib.hid (HT.out.below L13.out (Nat.le_refl _))
        have S13 := Lib.hid (S12.out.below bl13 (Nat.le_refl _))
        have SE13 := Lib.hid (SE12.out.below bl13 (Nat.le_refl _))
        have CN : Hid (∀ w', Below w13.heap.size w13 w' → ∀ p u, (encE en)[p]? = some u → w'.cell? ⟨bo, oo + i * 7 + p, none⟩ = some u) := fun w' hb p u hu => by
          obtain ⟨_, _, e1, h1⟩ := (SE13.out.below hb (Nat.le_refl _)).at_ HEN.out
          cases e1
          rw [Nat.add_assoc]; exact h1 p u hu
        have CO : Hid (∀ w', Below w13.heap.size w13 w' → ∀ p u, (encE o2)[p]? = some u → w'.cell? ⟨g, i * 7 + p, none⟩ = some u) := fun w' hb p u hu => by
          obtain ⟨_, _, e1, h1⟩ := (S13.out.below hb (Nat.le_refl _)).at_ (show (out.set i o2)[i]? = some o2 from List.getElem?_set_self (by rw [HOL.out]; exact hil))
          cases e1
          have := h1 p u hu
          rw [Nat.zero_add] at this; exact this
        clear bl13 S12 T12 SE12 L12 CC2 EW12 c5 c6 f5 f6 c6' f6'
        obtain ⟨E2, a2⟩ := ch2
        dsimp only
        go_wp2_with fail
        refine Free.wp_region_free 11 [(9, .det (.bool true))] (fun w2 => Below w13.heap.size w13 w2 ∧ True) (by kernel_rfl) (by kernel_rfl) (Free.mono_det (fun j mk r hf => by simp only [Free.find] at hf; split at hf <;> cases hf)) ⟨(Below.refl _ _).drew, trivial⟩ (fun _ _ h g => ⟨h.1.trans (Below.mono g h.1.size), trivial⟩) ?_
        simp only [List.take_succ_cons, List.take_zero]
        iterate 3 (apply Free.chain_still (by first | exact Free.wanted_of rfl rfl rfl | rfl) rfl; (intro w' hB hA; obtain ⟨qB, _⟩ := hB; clear hA  qB; go_light; go_simp <;> rfl); (try simp only [Act.put, List.setIfInBounds_toArray, List.set_cons_succ, List.set_cons_zero]))
        apply Free.chain_still (by first | exact Free.wanted_of rfl rfl rfl | rfl) rfl
        · intro w' hB hA
          exact exec_entry (x := en) rfl rfl (CN.out w' hB.1)
        simp only [Act.put, List.setIfInBounds_toArray, List.set_cons_succ, List.set_cons_zero]
        iterate 3 (apply Free.chain_still (by first | exact Free.wanted_of rfl rfl rfl | rfl) rfl; (intro w' hB hA; obtain ⟨qB, _⟩ := hB; clear hA  qB; go_light; go_simp <;> rfl); (try simp only [Act.put, List.setIfInBounds_toArray, List.set_cons_succ, List.set_cons_zero]))
        apply Free.chain_still (by first | exact Free.wanted_of rfl rfl rfl | rfl) rfl
        · intro w' hB hA
          exact exec_entry (x := o2) rfl rfl (CO.out w' hB.1)
        simp only [Act.put, List.setIfInBounds_toArray, List.set_cons_succ, List.set_cons_zero]
        iterate 1 (apply Free.chain_still (by first | exact Free.wanted_of rfl rfl rfl | rfl) rfl; (intro w' hB hA; obtain ⟨qB, _⟩ := hB; clear hA  qB; go_light; go_simp <;> rfl); (try simp only [Act.put, List.setIfInBounds_toArray, List.set_cons_succ, List.set_cons_zero]))
        apply Free.chain_det (by first | exact Free.wanted_of rfl rfl rfl | rfl) rfl
        · intro w' hB hA
          refine Free.opRun_call (f := 21) (args := #[.agg (encE en).toArray, .agg (encE o2).toArray, .int .i64 pub]) (by clear hB hA; go_simp <;> rfl) ?_
          refine (CFK.out w' (HT.out.below (L13.out.trans (hB.1.mono L13.out.size)) (Nat.le_refl _))).mono ?_
          rintro e w3 ⟨rfl, hb3⟩
          exact ⟨_, rfl, hb3, rfl⟩
        simp only [Act.put, List.setIfInBounds_toArray, List.set_cons_succ, List.set_cons_zero]
        iterate 1 (apply Free.chain_still (by first | exact Free.wanted_of rfl rfl rfl | rfl) rfl; (intro w' hB hA; obtain ⟨qB, _⟩ := hB; clear hA  qB; go_light; go_simp <;> rfl); (try simp only [Act.put, List.setIfInBounds_toArray, List.set_cons_succ, List.set_cons_zero]))
        apply Free.chain_nil
        intro wb hBb _ _
        simp only [List.drop_succ_cons, List.drop_zero]
        have LB := Lib.hid (L13.out.trans (hBb.1.mono L13.out.size))
        have BB := Lib.hid hBb.1
        clear hBb T13
        by_cases hlast : i + 1 = l.length
        · have e2 := LL.out hlast
          cases e2
          have z1 : ((i : Int) == (l.length : Int) - 1) = true := by simp; omega
          clear hlast
          go_wp2_with fail
          exact FIN.out _ LB.out
        have z1 : ((i : Int) == (l.length : Int) - 1) = false := beq_eq_false_iff_ne.2 (by omega)
        have z2 : IntKind.i64.wrap ((i : Int) + 1) = (i : Int) + 1 := IntWalk.i64_in _ (by omega)
        rcases LN.out (by omega) with e2 | ⟨hd, e2⟩
        · cases e2
          have z3 : (((i + 1 : Nat) : Int) == (i : Int) + 1) = true := by simp
          clear hlast
          go_wp2_with fail
          refine Free.wp_region_free 25 [] (fun w2 => Below w13.heap.size w13 w2 ∧ True) (by kernel_rfl) (by kernel_rfl) (Free.mono_det (fun j mk r hf => by cases hf)) ⟨BB.out.drew, trivial⟩ (fun _ _ h g => ⟨h.1.trans (Below.mono g h.1.size), trivial⟩) ?_
          simp only [List.take_succ_cons, List.take_zero]
          iterate 11 (apply Free.chain_still (by first | exact Free.wanted_of rfl rfl rfl | rfl) rfl; (intro w' hB hA; obtain ⟨qB, _⟩ := hB; clear hA  qB; go_light; go_simp <;> rfl); (try simp only [Act.put, List.setIfInBounds_toArray, List.set_cons_succ, List.set_cons_zero]))
          iterate 11 (apply Free.chain_skip (by exact unwanted2 rfl rfl rfl rfl); simp only [Act.put, List.setIfInBounds_toArray, List.set_cons_succ, List.set_cons_zero])
          iterate 3 (apply Free.chain_still (by first | exact Free.wanted_of rfl rfl rfl | rfl) rfl; (intro w' hB hA; obtain ⟨qB, _⟩ := hB; clear hA  qB; go_light; go_simp <;> rfl); (try simp only [Act.put, List.setIfInBounds_toArray, List.set_cons_succ, List.set_cons_zero]))
          apply Free.chain_nil
          intro wc hBc _ _
          simp only [List.drop_succ_cons, List.drop_zero]
          have LC := Lib.hid (L13.out.trans (hBc.1.mono L13.out.size))
          clear hBc
          go_wp2_with fail
          exact FIN.out _ LC.out
        · cases e2
          rw [← hd] at CD2
          obtain ⟨dd, edd⟩ : ∃ dd, dd = dig en := ⟨_, rfl⟩
          rw [← edd] at CD1 CD2
          clear hlast hd edd
          obtain ⟨dq, rfl⟩ : ∃ dq : List UInt8, dd = ⟨dq.toArray⟩ := ⟨dd.data.toList, by simp⟩
          go_wp2_with fail
          refine Free.wp_region_free 25 [(15, .det (.string ⟨dq.toArray⟩)), (20, .det (.string ⟨dq.toArray⟩))] (fun w2 => Below w13.heap.size w13 w2 ∧ True) (by kernel_rfl) (by kernel_rfl) (Free.mono_det det2) ⟨BB.out.drew, trivial⟩ (fun _ _ h g => ⟨h.1.trans (Below.mono g h.1.size), trivial⟩) ?_
          simp only [List.take_succ_cons, List.take_zero]
          iterate 5 (apply Free.chain_still (by first | exact Free.wanted_of rfl rfl rfl | rfl) rfl; (intro w' hB hA; obtain ⟨qB, _⟩ := hB; clear hA  qB; go_light; go_simp <;> rfl); (try simp only [Act.put, List.setIfInBounds_toArray, List.set_cons_succ, List.set_cons_zero]))
          iterate 4 (apply Free.chain_skip (by exact unwanted2 rfl rfl rfl rfl); simp only [Act.put, List.setIfInBounds_toArray, List.set_cons_succ, List.set_cons_zero])
          iterate 5 (apply Free.chain_still (by first | exact Free.wanted_of rfl rfl rfl | rfl) rfl; (intro w' hB hA; obtain ⟨qB, _⟩ := hB; clear hA  qB; go_light; go_simp <;> rfl); (try simp only [Act.put, List.setIfInBounds_toArray, List.set_cons_succ, List.set_cons_zero]))
          apply Free.chain_still (by first | exact Free.wanted_of rfl rfl rfl | rfl) rfl
          · intro w' hB hA
            exact exec_entry (x := en) rfl rfl (CN.out w' hB.1)
          simp only [Act.put, List.setIfInBounds_toArray, List.set_cons_succ, List.set_cons_zero]
          apply Free.chain_det (by first | exact Free.wanted_of rfl rfl rfl | rfl) rfl
          · intro w' hB hA
            refine Free.opRun_call (f := 22) (args := #[.agg (encE en).toArray]) (by clear hB hA; go_simp <;> rfl) ?_
            refine (CD1.out w').mono ?_
            rintro e w3 ⟨rfl, hb3⟩
            exact ⟨_, rfl, hb3, rfl⟩
          simp only [Act.put, List.setIfInBounds_toArray, List.set_cons_succ, List.set_cons_zero]
          iterate 3 (apply Free.chain_still (by first | exact Free.wanted_of rfl rfl rfl | rfl) rfl; (intro w' hB hA; obtain ⟨qB, _⟩ := hB; clear hA  qB; go_light; go_simp <;> rfl); (try simp only [Act.put, List.setIfInBounds_toArray, List.set_cons_succ, List.set_cons_zero]))
          apply Free.chain_still (by first | exact Free.wanted_of rfl rfl rfl | rfl) rfl
          · intro w' hB hA
            exact exec_entry (x := o2) rfl rfl (CO.out w' hB.1)
          simp only [Act.put, List.setIfInBounds_toArray, List.set_cons_succ, List.set_cons_zero]
          apply Free.chain_det (by first | exact Free.wanted_of rfl rfl rfl | rfl) rfl
          · intro w' hB hA
            refine Free.opRun_call (f := 22) (args := #[.agg (encE o2).toArray]) (by clear hB hA; go_simp <;> rfl) ?_
            refine (CD2.out w').mono ?_
            rintro e w3 ⟨rfl, hb3⟩
            exact ⟨_, rfl, hb3, rfl⟩
          simp only [Act.put, List.setIfInBounds_toArray, List.set_cons_succ, List.set_cons_zero]
          iterate 4 (apply Free.chain_still (by first | exact Free.wanted_of rfl rfl rfl | rfl) rfl; (intro w' hB hA; obtain ⟨qB, _⟩ := hB; clear hA  qB; go_light; go_simp <;> rfl); (try simp only [Act.put, List.setIfInBounds_toArray, List.set_cons_succ, List.set_cons_zero]))
          apply Free.chain_nil
          intro wc hBc _ _
          simp only [List.drop_succ_cons, List.drop_zero]
          have LC := Lib.hid (L13.out.trans (hBc.1.mono L13.out.size))
          clear hBc
          go_wp2_with fail
          exact FIN.out _ LC.out
      · dsimp only at c0 ha
        subst ha
        have n0 : (E1 == 0) = false := beq_eq_false_iff_ne.2 c0
        have n1 : (E1 != 0) = true := bne_iff_ne.2 c0
        have n2 : (((i : Int) + 1) != (i : Int)) = true := bne_iff_ne.2 (by omega)
        have n3 : IntKind.i64.wrap ((i : Int) + 1) = (i : Int) + 1 := IntWalk.i64_in _ (by omega)
        clear c0 LAW
        go_wp2_with fail
        refine Free.wp_region_free 32 [] (fun w2 => Below w9.heap.size w9 w2 ∧ True) (by kernel_rfl) (by kernel_rfl) (Free.mono_det (fun j mk r hf => by cases hf)) ⟨(Below.refl _ _).drew, trivial⟩ (fun _ _ h g => ⟨h.1.trans (Below.mono g h.1.size), trivial⟩) ?_
        simp only [List.take_succ_cons, List.take_zero]
        iterate 3 (apply Free.chain_still (by first | exact Free.wanted_of rfl rfl rfl | rfl) rfl; (intro w' hB hA; obtain ⟨qB, _⟩ := hB; clear hA  qB; go_light; go_simp <;> rfl); (try simp only [Act.put, List.setIfInBounds_toArray, List.set_cons_succ, List.set_cons_zero]))
        iterate 13 (apply Free.chain_skip (by exact unwanted2 rfl rfl rfl rfl); simp only [Act.put, List.setIfInBounds_toArray, List.set_cons_succ, List.set_cons_zero])
        iterate 16 (apply Free.chain_still (by first | exact Free.wanted_of rfl rfl rfl | rfl) rfl; (intro w' hB hA; obtain ⟨qB, _⟩ := hB; clear hA  qB; go_light; go_simp <;> rfl); (try simp only [Act.put, List.setIfInBounds_toArray, List.set_cons_succ, List.set_cons_zero]))
        apply Free.chain_nil
        intro wa hBa _ _
        simp only [List.drop_succ_cons, List.drop_zero]
        clear n2 n3
        have BA := Lib.hid (B9.out.trans (hBa.1.mono B9.out.size))
        have LA := Lib.hid (L9.out.trans (hBa.1.mono L9.out.size))
        have TA := Lib.hid (HT.out.below LA.out (Nat.le_refl _))
        have SA := Lib.hid (S9.out.below hBa.1 (Nat.le_refl _))
        have SEA := Lib.hid (SE9.out.below hBa.1 (Nat.le_refl _))
        have GA : Hid (wa.heap[g]? = some (.cells (cur.toList.set (i * 7 + 4) (.string bx)).toArray 37 (0, 0))) := (hBa.1.block g (Array.getElem?_eq_some_iff.1 G9.out).1).trans G9.out
        have k0 := CE.out wa hBa.1 0 _ rfl
        have k1 := CE.out wa hBa.1 1 _ rfl
        have k2 := CE.out wa hBa.1 2 _ rfl
        have k3 := CE.out wa hBa.1 3 _ rfl
        have k4 := CE.out wa hBa.1 4 _ rfl
        have k5 := CE.out wa hBa.1 5 _ rfl
        have k6 := CE.out wa hBa.1 6 _ rfl
        simp only [Nat.add_zero] at k0
        clear hBa S9 SE9 T9 L9 B9 G9 CE
        go_wp2_with fail
        refine (CT.out _ TA.out).mono ?_
        rintro e w10 ⟨rfl, bl10⟩
        have L10 := Lib.hid (LA.out.trans (bl10.mono LA.out.size))
        have T10 := Lib.hid (HT.out.below L10.out (Nat.le_refl _))
        have B10 := Lib.hid bl10
        clear bl10 k0 k1 k2 k3 k4 k5 k6
        go_wp2_with fail
        refine (sign_yes secret _ _ HSEC.out HTX.out T10.out).mono ?_
        rintro e w11 ⟨rfl, bl11⟩
        have C11 := Lib.hid (B10.out.trans (bl11.mono B10.out.size))
        have S11 := SA.out.below C11.out (Nat.le_refl _)
        have hg11 : w11.heap[g]? = some (.cells (cur.toList.set (i * 7 + 4) (.string bx)).toArray 37 (0, 0)) := (C11.out.block g (Array.getElem?_eq_some_iff.1 GA.out).1).trans GA.out
        have hset : (out.set i o1)[i]? = some o1 := List.getElem?_set_self (by rw [HOL.out]; exact hil)
        have c5 : w11.cell? ⟨g, i * 7 + 5, none⟩ = some (.int .i64 o1.r) := by
          obtain ⟨_, _, e1, h1⟩ := S11.at_ hset
          cases e1
          have := h1 5 _ rfl
          rw [Nat.zero_add] at this; exact this
        have c6 : w11.cell? ⟨g, i * 7 + 6, none⟩ = some (.int .i64 o1.s) := by
          obtain ⟨_, _, e1, h1⟩ := S11.at_ hset
          cases e1
          have := h1 6 _ rfl
          rw [Nat.zero_add] at this; exact this
        have f5 := row_frozen (k := i * 7 + 5) hg11
        have f6 := row_frozen (k := i * 7 + 6) hg11
        obtain ⟨rr, err⟩ : ∃ rr, rr = sgR secret (txE o1) := ⟨_, rfl⟩
        obtain ⟨ss, ess⟩ : ∃ ss, ss = sgS secret (txE o1) := ⟨_, rfl⟩
        rw [← err, ← ess]
        obtain ⟨o2, eo2⟩ : ∃ o2 : E31, o2 = anew en secret bx := ⟨_, rfl⟩
        have EO2 := Lib.hid eo2
        have h25 : encE { o1 with r := rr } = (encE o1).set 5 (.int .i64 rr) := rfl
        have h26 : encE o2 = (encE { o1 with r := rr }).set 6 (.int .i64 ss) := by rw [eo2, err, ess, EO1.out]; rfl
        have s5 := sl_set (i := i) (p := 5) (e := o1) (e' := { o1 with r := rr }) (v := .int .i64 rr) encE_len hg11 S11 hset (by decide) h25
        have g5 := set_heap (k := i * 7 + 5) (v := .int .i64 rr) hg11
        have s6 := sl_set (i := i) (p := 6) (e := { o1 with r := rr }) (e' := o2) (v := .int .i64 ss) encE_len g5 s5 (List.getElem?_set_self (by rw [List.length_set, HOL.out]; exact hil)) (by decide) h26
        rw [List.set_set, List.set_set] at s6
        have c6' : (w11.setCell ⟨g, i * 7 + 5, none⟩ (.int .i64 rr)).cell? ⟨g, i * 7 + 6, none⟩ = some (.int .i64 o1.s) := by
          obtain ⟨_, _, e1, h1⟩ := s5.at_ (show ((out.set i o1).set i { o1 with r := rr })[i]? = some { o1 with r := rr } from List.getElem?_set_self (by rw [List.length_set, HOL.out]; exact hil))
          cases e1
          have := h1 6 _ rfl
          rw [Nat.zero_add] at this; exact this
        have f6' := row_frozen (k := i * 7 + 6) g5
        have blg : w4.heap.size ≤ g := HGG.out
        have B12 := Lib.hid (((BA.out.trans (C11.out.mono BA.out.size)).setCell (p := ⟨g, i * 7 + 5, none⟩) blg (.int .i64 rr)).setCell (p := ⟨g, i * 7 + 6, none⟩) blg (.int .i64 ss))
        have b12 := B12.out
        have e56 : i * 7 + 6 = i * 7 + 5 + 1 := rfl
        rw [e56] at s6 b12 c6' f6' c6 f6
        obtain ⟨W12, eW12⟩ : ∃ W12, W12 = (w11.setCell ⟨g, i * 7 + 5, none⟩ (.int .i64 rr)).setCell ⟨g, i * 7 + 5 + 1, none⟩ (.int .i64 ss) := ⟨_, rfl⟩
        rw [← eW12] at s6 b12
        have EW12 := Lib.hid eW12
        have S12 := Lib.hid s6
        have L12 := Lib.hid (L4.out.trans (b12.mono L4.out.size))
        have T12 := Lib.hid (HT.out.below L12.out (Nat.le_refl _))
        have SE12 := Lib.hid (SL4.out.below b12 (Nat.le_refl _))
        have hb2000 : bx.size ≤ 2000 := by omega
        have oo2 : o2.Ok ∧ o2.prev.size ≤ 1000000000 ∧ o2.body.size ≤ 1000000000 := by
          obtain ⟨oe1, oe2, _⟩ := OEN.out
          have sr := sgR_le secret (txE { en with body := bx })
          have sr0 := sgR_pos secret (txE { en with body := bx })
          have ssr := sgS_range secret (txE { en with body := bx })
          rw [eo2]
          refine ⟨⟨oe1.h0, oe1.h1, oe1.q0, oe1.q1, oe1.d0, oe1.d1, ?_, ?_, ?_, ?_, oe1.p1, by show bx.size ≤ _; omega⟩, oe2, by show bx.size ≤ _; omega⟩
          · show _ ≤ sgR secret _; omega
          · show sgR secret _ ≤ _; omega
          · show _ ≤ sgS secret _; omega
          · show sgS secret _ ≤ _; omega
        have OO2 := Lib.hid oo2
        have F12 := Lib.hid (few_set (i := i) HFEW.out oo2)
        have FK : Hid (forkB en o2 pub = true) := by
          rw [eo2, EP.out]; exact law_fork HSEC.out HCHK.out HEN.out hne
        obtain ⟨ch2, ech2⟩ : ∃ ch2, ch2 = chk (out.set i o2) 0 pub := ⟨_, rfl⟩
        have CC2 : Hid (∀ w', SL w' 7 encE (some ⟨g, 0, none⟩) (out.set i o2) → HasT w' → Calls Tryd.prog 17 #[.slice (some ⟨g, 0, none⟩) l.length cap, .int .i64 0, .int .i64 pub] w' (ChkPost w' ch2)) := fun w' h1 h2 => by
          have := check_any (some ⟨g, 0, none⟩) cap (out.set i o2) 0 pub w' h1 (by rw [List.length_set, HOL.out]; omega) (by rw [List.length_set, HOL.out]; exact hcap) F12.out h2
          rw [List.length_set, HOL.out, ← ech2] at this; exact this
        have LL : Hid (i + 1 = l.length → ch2 = (0, -1)) := fun hl => by
          rw [ech2, eo2, EP.out]
          exact law_last HSEC.out HCHK.out HEN.out hb2000 (by rw [HOL.out]; exact hl)
        have LN : Hid (i + 1 < l.length → ch2 = (17, ((i + 1 : Nat) : Int)) ∨ (dig en = dig o2 ∧ ch2 = (0, -1))) := fun hl => by
          rw [ech2, eo2, EP.out]
          exact law_next HSEC.out HCHK.out HEN.out hb2000 (by rw [HOL.out]; exact hl)
        have CFK : Hid (∀ w', HasT w' → Calls Tryd.prog 21 #[.agg (encE en).toArray, .agg (encE o2).toArray, .int .i64 pub] w' fun e w2 => e = .returned (.bool true) ∧ Below w'.heap.size w' w2) := fun w' h => by
          have := fork_any en o2 pub w' OEN.out.1 OO2.out.1 OEN.out.2.1 OO2.out.2.1 OEN.out.2.2 OO2.out.2.2 h
          rw [FK.out] at this; exact this
        have hp64 : en.prev.size ≤ 64 := by
          rw [(chk_head HCHK.out i en HEN.out).2.2.2]; exact prevE_size _
        have CD1 : Hid (∀ w', Calls Tryd.prog 22 #[.agg (encE en).toArray] w' fun e w2 => e = .returned (.string (dig en)) ∧ Below w'.heap.size w' w2) := fun w' => rdig_any en w' OEN.out.1 (by omega) (by rw [HBO.out]; have := bdF_size hyo; omega)
        have CD2 : Hid (∀ w', Calls Tryd.prog 22 #[.agg (encE o2).toArray] w' fun e w2 => e = .returned (.string (dig o2)) ∧ Below w'.heap.size w' w2) := fun w' => rdig_any o2 w' OO2.out.1 (by rw [EO2.out]; show en.prev.size ≤ _; omega) (by rw [EO2.out]; show bx.size ≤ _; omega)
        have HRR := Lib.hid err
        have HSS := Lib.hid ess
        clear s5 s6 g5 h25 h26 hg11 hset S11 bl11 SA SEA GA TA LA L10 T10 B10 C11 BA CT b12 e56 eW12 oo2 err ess eo2 ech2 B12 hb2000 hp64 OO1 F8 HTX
        go_wp2_with fail
        rw [← EW12.out]
        refine (CC2.out _ S12.out T12.out).mono ?_
        rintro e w13 ⟨rfl, bl13⟩
        have L13 := Lib.hid (L12.out.trans (bl13.mono L12.out.size))
        have T13 := Lib.hid (HT.out.below L13.out (Nat.le_refl _))
        have S13 := Lib.hid (S12.out.below bl13 (Nat.le_refl _))
        have SE13 := Lib.hid (SE12.out.below bl13 (Nat.le_refl _))
        have CN : Hid (∀ w', Below w13.heap.size w13 w' → ∀ p u, (encE en)[p]? = some u → w'.cell? ⟨bo, oo + i * 7 + p, none⟩ = some u) := fun w' hb p u hu => by
          obtain ⟨_, _, e1, h1⟩ := (SE13.out.below hb (Nat.le_refl _)).at_ HEN.out
          cases e1
          rw [Nat.add_assoc]; exact h1 p u hu
        have CO : Hid (∀ w', Below w13.heap.size w13 w' → ∀ p u, (encE o2)[p]? = some u → w'.cell? ⟨g, i * 7 + p, none⟩ = some u) := fun w' hb p u hu => by
          obtain ⟨_, _, e1, h1⟩ := (S13.out.below hb (Nat.le_refl _)).at_ (show (out.set i o2)[i]? = some o2 from List.getElem?_set_self (by rw [HOL.out]; exact hil))
          cases e1
          have := h1 p u hu
          rw [Nat.zero_add] at this; exact this
        clear bl13 S12 T12 SE12 L12 CC2 EW12 c5 c6 f5 f6 c6' f6'
        obtain ⟨E2, a2⟩ := ch2
        dsimp only
        go_wp2_with fail
        refine Free.wp_region_free 11 [(9, .det (.bool true))] (fun w2 => Below w13.heap.size w13 w2 ∧ True) (by kernel_rfl) (by kernel_rfl) (Free.mono_det (fun j mk r hf => by simp only [Free.find] at hf; split at hf <;> cases hf)) ⟨(Below.refl _ _).drew, trivial⟩ (fun _ _ h g => ⟨h.1.trans (Below.mono g h.1.size), trivial⟩) ?_
        simp only [List.take_succ_cons, List.take_zero]
        iterate 3 (apply Free.chain_still (by first | exact Free.wanted_of rfl rfl rfl | rfl) rfl; (intro w' hB hA; obtain ⟨qB, _⟩ := hB; clear hA  qB; go_light; go_simp <;> rfl); (try simp only [Act.put, List.setIfInBounds_toArray, List.set_cons_succ, List.set_cons_zero]))
        apply Free.chain_still (by first | exact Free.wanted_of rfl rfl rfl | rfl) rfl
        · intro w' hB hA
          exact exec_entry (x := en) rfl rfl (CN.out w' hB.1)
        simp only [Act.put, List.setIfInBounds_toArray, List.set_cons_succ, List.set_cons_zero]
        iterate 3 (apply Free.chain_still (by first | exact Free.wanted_of rfl rfl rfl | rfl) rfl; (intro w' hB hA; obtain ⟨qB, _⟩ := hB; clear hA  qB; go_light; go_simp <;> rfl); (try simp only [Act.put, List.setIfInBounds_toArray, List.set_cons_succ, List.set_cons_zero]))
        apply Free.chain_still (by first | exact Free.wanted_of rfl rfl rfl | rfl) rfl
        · intro w' hB hA
          exact exec_entry (x := o2) rfl rfl (CO.out w' hB.1)
        simp only [Act.put, List.setIfInBounds_toArray, List.set_cons_succ, List.set_cons_zero]
        iterate 1 (apply Free.chain_still (by first | exact Free.wanted_of rfl rfl rfl | rfl) rfl; (intro w' hB hA; obtain ⟨qB, _⟩ := hB; clear hA  qB; go_light; go_simp <;> rfl); (try simp only [Act.put, List.setIfInBounds_toArray, List.set_cons_succ, List.set_cons_zero]))
        apply Free.chain_det (by first | exact Free.wanted_of rfl rfl rfl | rfl) rfl
        · intro w' hB hA
          refine Free.opRun_call (f := 21) (args := #[.agg (encE en).toArray, .agg (encE o2).toArray, .int .i64 pub]) (by clear hB hA; go_simp <;> rfl) ?_
          refine (CFK.out w' (HT.out.below (L13.out.trans (hB.1.mono L13.out.size)) (Nat.le_refl _))).mono ?_
          rintro e w3 ⟨rfl, hb3⟩
          exact ⟨_, rfl, hb3, rfl⟩
        simp only [Act.put, List.setIfInBounds_toArray, List.set_cons_succ, List.set_cons_zero]
        iterate 1 (apply Free.chain_still (by first | exact Free.wanted_of rfl rfl rfl | rfl) rfl; (intro w' hB hA; obtain ⟨qB, _⟩ := hB; clear hA  qB; go_light; go_simp <;> rfl); (try simp only [Act.put, List.setIfInBounds_toArray, List.set_cons_succ, List.set_cons_zero]))
        apply Free.chain_nil
        intro wb hBb _ _
        simp only [List.drop_succ_cons, List.drop_zero]
        have LB := Lib.hid (L13.out.trans (hBb.1.mono L13.out.size))
        have BB := Lib.hid hBb.1
        clear hBb T13
        by_cases hlast : i + 1 = l.length
        · have e2 := LL.out hlast
          cases e2
          have z1 : ((i : Int) == (l.length : Int) - 1) = true := by simp; omega
          clear hlast
          go_wp2_with fail
          exact FIN.out _ LB.out
        have z1 : ((i : Int) == (l.length : Int) - 1) = false := beq_eq_false_iff_ne.2 (by omega)
        have z2 : IntKind.i64.wrap ((i : Int) + 1) = (i : Int) + 1 := IntWalk.i64_in _ (by omega)
        rcases LN.out (by omega) with e2 | ⟨hd, e2⟩
        · cases e2
          have z3 : (((i + 1 : Nat) : Int) == (i : Int) + 1) = true := by simp
          clear hlast
          go_wp2_with fail
          refine Free.wp_region_free 25 [] (fun w2 => Below w13.heap.size w13 w2 ∧ True) (by kernel_rfl) (by kernel_rfl) (Free.mono_det (fun j mk r hf => by cases hf)) ⟨BB.out.drew, trivial⟩ (fun _ _ h g => ⟨h.1.trans (Below.mono g h.1.size), trivial⟩) ?_
          simp only [List.take_succ_cons, List.take_zero]
          iterate 11 (apply Free.chain_still (by first | exact Free.wanted_of rfl rfl rfl | rfl) rfl; (intro w' hB hA; obtain ⟨qB, _⟩ := hB; clear hA  qB; go_light; go_simp <;> rfl); (try simp only [Act.put, List.setIfInBounds_toArray, List.set_cons_succ, List.set_cons_zero]))
          iterate 11 (apply Free.chain_skip (by exact unwanted2 rfl rfl rfl rfl); simp only [Act.put, List.setIfInBounds_toArray, List.set_cons_succ, List.set_cons_zero])
          iterate 3 (apply Free.chain_still (by first | exact Free.wanted_of rfl rfl rfl | rfl) rfl; (intro w' hB hA; obtain ⟨qB, _⟩ := hB; clear hA  qB; go_light; go_simp <;> rfl); (try simp only [Act.put, List.setIfInBounds_toArray, List.set_cons_succ, List.set_cons_zero]))
          apply Free.chain_nil
          intro wc hBc _ _
          simp only [List.drop_succ_cons, List.drop_zero]
          have LC := Lib.hid (L13.out.trans (hBc.1.mono L13.out.size))
          clear hBc
          go_wp2_with fail
          exact FIN.out _ LC.out
        · cases e2
          rw [← hd] at CD2
          obtain ⟨dd, edd⟩ : ∃ dd, dd = dig en := ⟨_, rfl⟩
          rw [← edd] at CD1 CD2
          clear hlast hd edd
          obtain ⟨dq, rfl⟩ : ∃ dq : List UInt8, dd = ⟨dq.toArray⟩ := ⟨dd.data.toList, by simp⟩
          go_wp2_with fail
          refine Free.wp_region_free 25 [(15, .det (.string ⟨dq.toArray⟩)), (20, .det (.string ⟨dq.toArray⟩))] (fun w2 => Below w13.heap.size w13 w2 ∧ True) (by kernel_rfl) (by kernel_rfl) (Free.mono_det det2) ⟨BB.out.drew, trivial⟩ (fun _ _ h g => ⟨h.1.trans (Below.mono g h.1.size), trivial⟩) ?_
          simp only [List.take_succ_cons, List.take_zero]
          iterate 5 (apply Free.chain_still (by first | exact Free.wanted_of rfl rfl rfl | rfl) rfl; (intro w' hB hA; obtain ⟨qB, _⟩ := hB; clear hA  qB; go_light; go_simp <;> rfl); (try simp only [Act.put, List.setIfInBounds_toArray, List.set_cons_succ, List.set_cons_zero]))
          iterate 4 (apply Free.chain_skip (by exact unwanted2 rfl rfl rfl rfl); simp only [Act.put, List.setIfInBounds_toArray, List.set_cons_succ, List.set_cons_zero])
          iterate 5 (apply Free.chain_still (by first | exact Free.wanted_of rfl rfl rfl | rfl) rfl; (intro w' hB hA; obtain ⟨qB, _⟩ := hB; clear hA  qB; go_light; go_simp <;> rfl); (try simp only [Act.put, List.setIfInBounds_toArray, List.set_cons_succ, List.set_cons_zero]))
          apply Free.chain_still (by first | exact Free.wanted_of rfl rfl rfl | rfl) rfl
          · intro w' hB hA
            exact exec_entry (x := en) rfl rfl (CN.out w' hB.1)
          simp only [Act.put, List.setIfInBounds_toArray, List.set_cons_succ, List.set_cons_zero]
          apply Free.chain_det (by first | exact Free.wanted_of rfl rfl rfl | rfl) rfl
          · intro w' hB hA
            refine Free.opRun_call (f := 22) (args := #[.agg (encE en).toArray]) (by clear hB hA; go_simp <;> rfl) ?_
            refine (CD1.out w').mono ?_
            rintro e w3 ⟨rfl, hb3⟩
            exact ⟨_, rfl, hb3, rfl⟩
          simp only [Act.put, List.setIfInBounds_toArray, List.set_cons_succ, List.set_cons_zero]
          iterate 3 (apply Free.chain_still (by first | exact Free.wanted_of rfl rfl rfl | rfl) rfl; (intro w' hB hA; obtain ⟨qB, _⟩ := hB; clear hA  qB; go_light; go_simp <;> rfl); (try simp only [Act.put, List.setIfInBounds_toArray, List.set_cons_succ, List.set_cons_zero]))
          apply Free.chain_still (by first | exact Free.wanted_of rfl rfl rfl | rfl) rfl
          · intro w' hB hA
            exact exec_entry (x := o2) rfl rfl (CO.out w' hB.1)
          simp only [Act.put, List.setIfInBounds_toArray, List.set_cons_succ, List.set_cons_zero]
          apply Free.chain_det (by first | exact Free.wanted_of rfl rfl rfl | rfl) rfl
          · intro w' hB hA
            refine Free.opRun_call (f := 22) (args := #[.agg (encE o2).toArray]) (by clear hB hA; go_simp <;> rfl) ?_
            refine (CD2.out w').mono ?_
            rintro e w3 ⟨rfl, hb3⟩
            exact ⟨_, rfl, hb3, rfl⟩
          simp only [Act.put, List.setIfInBounds_toArray, List.set_cons_succ, List.set_cons_zero]
          iterate 4 (apply Free.chain_still (by first | exact Free.wanted_of rfl rfl rfl | rfl) rfl; (intro w' hB hA; obtain ⟨qB, _⟩ := hB; clear hA  qB; go_light; go_simp <;> rfl); (try simp only [Act.put, List.setIfInBounds_toArray, List.set_cons_succ, List.set_cons_zero]))
          apply Free.chain_nil
          intro wc hBc _ _
          simp only [List.drop_succ_cons, List.drop_zero]
          have LC := Lib.hid (L13.out.trans (hBc.1.mono L13.out.size))
          clear hBc
          go_wp2_with fail
          exact FIN.out _ LC.out
end Go.Proofs.YtaaenobckipfkaaDoor

namespace Go.Proofs.YtaaenobckipfkaaDoor
open Go.RowKit Go.Blk Go.Opn

theorem sealed_u8 (A : Option Addr) (c : Nat) (l : List Fac) (secret raw : Int) (x : Fac) (w : World) (h : SL w 6 encF A l) (hln : l.length ≤ 9223372036854775807) (ho : ∀ x ∈ l, x.Ok) (hx : x.Ok) (hr : (Lit.int .u8 raw).wf = true) (hT : HasT w) (hE : HasE w) :
    Calls Tryd.prog 3 #[.slice A l.length c, .int .i64 secret, .int .u8 raw, .agg (encF x).toArray] w fun e w' => e = .returned (.bool true) ∧ Below w.heap.size w w' := by
  have hb : 0 ≤ raw ∧ raw ≤ 255 := by
    have h1 : And (IntKind.u8.min ≤ raw) (raw ≤ IntKind.u8.max) := by simpa [Lit.wf] using hr
    exact ⟨h1.1, h1.2⟩
  obtain ⟨rn, rfl⟩ : ∃ rn : Nat, raw = (rn : Int) := ⟨raw.toNat, by omega⟩
  exact sealed_any A c l secret rn x w h hln ho hx (by omega) hT hE
end Go.Proofs.YtaaenobckipfkaaDoor
