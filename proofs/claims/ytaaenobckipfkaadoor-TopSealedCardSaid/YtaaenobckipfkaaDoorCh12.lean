/- The head of the statements on package chain: fixed examples. Condition: the variables of digest and of strconv hold their numbers. -/
import Derived.Test.YtaaenobckipfkaaDoorCh11
namespace Go.Proofs.YtaaenobckipfkaaDoor
open Go.RowKit Go.Blk Go.Opn Go.Apl Go.Sg

theorem appN_ok (l : List E31) (house secret day : Int) (body : ByteArray) (hl : l.length ≤ 1000000)
    (hh0 : -9223372036854775808 ≤ house) (hh1 : house ≤ 9223372036854775807) (hd0 : -9223372036854775808 ≤ day) (hd1 : day ≤ 9223372036854775807) (hb : body.size ≤ 1000000000) : (appN l house secret day body).Ok ∧ (appN l house secret day body).prev.size ≤ 1000000000 ∧ (appN l house secret day body).body.size ≤ 1000000000 := by
  have hps := prevE_size l
  obtain ⟨t, et⟩ : ∃ t, t = txE (nxE l house day body) := ⟨_, rfl⟩
  have hr1 := sgR_pos secret t
  have hr2 := sgR_le secret t
  have hs := sgS_range secret t
  rw [et] at hr1 hr2 hs
  refine ⟨⟨hh0, hh1, ?_, ?_, hd0, hd1, ?_, ?_, ?_, ?_, ?_, ?_⟩, ?_, hb⟩
  · show (-9223372036854775808 : Int) ≤ (l.length : Int); omega
  · show (l.length : Int) ≤ 9223372036854775807; omega
  · show (-9223372036854775808 : Int) ≤ sgR secret _; omega
  · show sgR secret _ ≤ (9223372036854775807 : Int); omega
  · show (-9223372036854775808 : Int) ≤ sgS secret _; omega
  · show sgS secret _ ≤ (9223372036854775807 : Int); omega
  · show (prevE l).size ≤ _; omega
  · show body.size ≤ _; omega
  · show (prevE l).size ≤ _; omega
theorem few_app {l : List E31} {house secret day : Int} {body : ByteArray} (hf : Few l) (hl : l.length ≤ 1000000)
    (hh0 : -9223372036854775808 ≤ house) (hh1 : house ≤ 9223372036854775807) (hd0 : -9223372036854775808 ≤ day) (hd1 : day ≤ 9223372036854775807) (hb : body.size ≤ 1000000000) : Few (l ++ [appN l house secret day body]) := by
  intro e he
  rcases List.mem_append.1 he with he | he
  · exact hf e he
  · simp at he; subst he; exact appN_ok l house secret day body hl hh0 hh1 hd0 hd1 hb
theorem few_nil : Few [] := fun _ h => by cases h
theorem app_yes (A : Option Addr) (c : Nat) (l : List E31) (house secret day : Int) (body : ByteArray) (w : World) (h : SL w 7 encE A l) (hl : l.length ≤ 1000000) (hlc : l.length ≤ c) (hf : Few l)
    (hh0 : -9223372036854775808 ≤ house) (hh1 : house ≤ 9223372036854775807) (hd0 : -9223372036854775808 ≤ day) (hd1 : day ≤ 9223372036854775807) (hb : body.size ≤ 1000000000) (hT : HasT w) (hE : appE l house secret day body = 0) :
    Calls Tryd.prog 26 #[.slice A l.length c, .int .i64 house, .int .i64 secret, .int .i64 day, .string body] w fun e w' => ∃ b, w.heap.size ≤ b ∧ e = .returned (.tuple #[.slice (some ⟨b, 0, none⟩) (l.length + 1) (l.length + 1), .int .i64 0]) ∧ SL w' 7 encE (some ⟨b, 0, none⟩) (l ++ [appN l house secret day body]) ∧ Below w.heap.size w w' := by
  refine (app_any A c l house secret day body w h hl hlc hf hh0 hh1 hd0 hd1 hb hT).mono ?_
  rintro e w' ⟨h1, ⟨h2, _⟩ | ⟨_, b, h3, h4, h5⟩⟩
  · exact absurd hE h2
  · exact ⟨b, h3, h4, h5, h1⟩
theorem app_no (A : Option Addr) (c : Nat) (l : List E31) (house secret day : Int) (body : ByteArray) (E : Int) (w : World) (h : SL w 7 encE A l) (hl : l.length ≤ 1000000) (hlc : l.length ≤ c) (hf : Few l)
    (hh0 : -9223372036854775808 ≤ house) (hh1 : house ≤ 9223372036854775807) (hd0 : -9223372036854775808 ≤ day) (hd1 : day ≤ 9223372036854775807) (hb : body.size ≤ 1000000000) (hT : HasT w) (hE : appE l house secret day body = E) (h0 : E ≠ 0) :
    Calls Tryd.prog 26 #[.slice A l.length c, .int .i64 house, .int .i64 secret, .int .i64 day, .string body] w fun e w' => e = .returned (.tuple #[.slice none 0 0, .int .i64 E]) ∧ Below w.heap.size w w' := by
  refine (app_any A c l house secret day body w h hl hlc hf hh0 hh1 hd0 hd1 hb hT).mono ?_
  rintro e w' ⟨h1, ⟨_, h2⟩ | ⟨h2, _⟩⟩
  · rw [hE] at h2; exact ⟨h2, h1⟩
  · rw [hE] at h2; exact absurd h2 h0

def xa : E31 := appN [] 0 5 3 ⟨#[97]⟩
def xb : E31 := appN [xa] 0 5 4 ⟨#[98]⟩
def xc : E31 := appN [xa] 0 5 4 ⟨#[99]⟩
def xd : E31 := ⟨0, 0, 3, ⟨#[]⟩, ⟨#[99]⟩, xa.r, xa.s⟩
theorem hE1 : appE [] 0 5 3 ⟨#[97]⟩ = 0 := by
  unfold appE
  rw [if_pos sec5, pubV5]; rfl
theorem hE2 : appE [xa] 0 5 4 ⟨#[98]⟩ = 0 := by
  unfold appE
  rw [if_pos sec5, if_pos (show (chk [xa] 0 (pubV 5)).1 = 0 from app_chk hE1)]; rfl
theorem hE4 : appE [xa] 0 5 4 ⟨#[99]⟩ = 0 := by
  unfold appE
  rw [if_pos sec5, if_pos (show (chk [xa] 0 (pubV 5)).1 = 0 from app_chk hE1)]; rfl
theorem hE3 : appE [xa, xb] 0 5 2 ⟨#[100]⟩ = 15 := by
  unfold appE
  rw [if_pos sec5, if_pos (show (chk [xa, xb] 0 (pubV 5)).1 = 0 from app_chk hE2)]; rfl
theorem hCm : chk [xa, xb] 0 16807 = (0, -1) := by
  have := chk_ok (app_chk hE2)
  rw [pubV5] at this; exact this
theorem xa_r : xa.r = sgR 5 ta := by
  show sgR 5 (txE (nxE [] 0 3 ⟨#[97]⟩)) = _
  rw [show txE (nxE [] 0 3 ⟨#[97]⟩) = txE ⟨0, 0, 3, ⟨#[]⟩, ⟨#[97]⟩, 0, 0⟩ from rfl, ta_is]
theorem xa_s : xa.s = sgS 5 ta := by
  show sgS 5 (txE (nxE [] 0 3 ⟨#[97]⟩)) = _
  rw [show txE (nxE [] 0 3 ⟨#[97]⟩) = txE ⟨0, 0, 3, ⟨#[]⟩, ⟨#[97]⟩, 0, 0⟩ from rfl, ta_is]
set_option maxRecDepth 100000 in
theorem hCx_gen (r s : Int) (yb : E31) (hv : verB 16807 tc r s = false) : chk [⟨0, 0, 3, ⟨#[]⟩, ⟨#[99]⟩, r, s⟩, yb] 0 16807 = (17, 0) := by
  obtain ⟨x, ex⟩ : ∃ x : E31, x = ⟨0, 0, 3, ⟨#[]⟩, ⟨#[99]⟩, r, s⟩ := ⟨_, rfl⟩
  rw [← ex]
  have h1 : chk1 [x, yb] 0 x 0 16807 = 17 := by
    unfold chk1
    have e1 : verB 16807 (txE x) x.r x.s = false := by
      rw [ex]
      rw [show txE ⟨0, 0, 3, ⟨#[]⟩, ⟨#[99]⟩, r, s⟩ = txE ⟨0, 0, 3, ⟨#[]⟩, ⟨#[99]⟩, 0, 0⟩ from rfl, tc_is]; exact hv
    have e2 : misp (List.take 0 [x, yb]) x 0 = 0 := by rw [ex]; rfl
    rw [e1, e2, if_pos rfl]
    split <;> rfl
  have := chkGo_bad (l := [x, yb]) (house := 0) (pub := 16807) (n := 1) (k := 0) (e := x) rfl (by rw [h1]; decide)
  rw [h1] at this
  unfold chk
  rw [if_pos (by decide), show [x, yb].length = 1 + 1 from rfl, this]; rfl
theorem hCx : chk [xd, xb] 0 16807 = (17, 0) := hCx_gen xa.r xa.s xb (by rw [xa_r, xa_s]; exact ver_ac)
theorem hF1 : forkB xb xc 16807 = true := by
  have h0 : eqB xb xc = false := by
    cases h : eqB xb xc
    · rfl
    · have := congrArg E31.body ((eqB_iff _ _).1 h)
      exact absurd this (by decide)
  rw [fork_yes h0 rfl rfl, ← pubV5]
  have e1 : sgnB xb (pubV 5) = true := sgnB_app sec5
  have e2 : sgnB xc (pubV 5) = true := sgnB_app sec5
  rw [e1, e2]; rfl
theorem xb_prev : xb.prev.size = 64 := sumB_size _
theorem few_a : Few [xa] := few_app (l := []) few_nil (by decide) (by decide) (by decide) (by decide) (by decide) (by decide)
theorem few_ab : Few [xa, xb] := few_app (l := [xa]) few_a (by decide) (by decide) (by decide) (by decide) (by decide) (by decide)
theorem ok_c : xc.Ok ∧ xc.prev.size ≤ 1000000000 ∧ xc.body.size ≤ 1000000000 := appN_ok [xa] 0 5 4 ⟨#[99]⟩ (by decide) (by decide) (by decide) (by decide) (by decide) (by decide)
theorem ok_d : xd.Ok ∧ xd.prev.size ≤ 1000000000 ∧ xd.body.size ≤ 1000000000 := by
  obtain ⟨h, _, _⟩ := few_a xa (by simp)
  exact ⟨⟨by decide, by decide, by decide, by decide, by decide, by decide, h.r0, h.r1, h.s0, h.s1, by decide, by decide⟩, by decide, by decide⟩
theorem sl_pair {w : World} {b off : Nat} {x y : E31} (h : SL w 7 encE (some ⟨b, off, none⟩) [x, y]) : (∀ p u, (encE x)[p]? = some u → w.cell? ⟨b, off + p, none⟩ = some u) ∧ (∀ p u, (encE y)[p]? = some u → w.cell? ⟨b, off + (7 + p), none⟩ = some u) := by
  obtain ⟨b', o', e1, h1⟩ := h.cells (by simp)
  cases e1
  refine ⟨fun p u hu => ?_, fun p u hu => ?_⟩
  · have := h1 0 x rfl p u hu; simpa using this
  · have := h1 1 y rfl p u hu; simpa using this
set_option maxRecDepth 100000 in
set_option maxHeartbeats 4000000 in
theorem head31_any (w : World) (hT : HasT w) : Calls Tryd.prog 23 #[] w fun e w' => e = .returned (.bool true) ∧ Below w.heap.size w w' := by
  have C1 : Hid (∀ w, HasT w → _) := fun w hT => app_yes none 0 [] 0 5 3 ⟨#[97]⟩ w SL.nil (by decide) (by decide) few_nil (by decide) (by decide) (by decide) (by decide) (by decide) hT hE1
  have C2 : Hid (∀ w b, HasT w → SL w 7 encE (some ⟨b, 0, none⟩) [xa] → _) := fun w b hT h => app_yes (some ⟨b, 0, none⟩) 1 [xa] 0 5 4 ⟨#[98]⟩ w h (by simp) (by simp) few_a (by decide) (by decide) (by decide) (by decide) (by decide) hT hE2
  have C4 : Hid (∀ w b, HasT w → SL w 7 encE (some ⟨b, 0, none⟩) [xa] → _) := fun w b hT h => app_yes (some ⟨b, 0, none⟩) 1 [xa] 0 5 4 ⟨#[99]⟩ w h (by simp) (by simp) few_a (by decide) (by decide) (by decide) (by decide) (by decide) hT hE4
  have C3 : Hid (∀ w b, HasT w → SL w 7 encE (some ⟨b, 0, none⟩) [xa, xb] → _) := fun w b hT h => app_no (some ⟨b, 0, none⟩) 2 [xa, xb] 0 5 2 ⟨#[100]⟩ 15 w h (by simp) (by simp) few_ab (by decide) (by decide) (by decide) (by decide) (by decide) hT hE3 (by decide)
  have few_db : Few [xd, xb] := by
    intro e he
    simp only [List.mem_cons, List.not_mem_nil, or_false] at he
    rcases he with rfl | rfl
    · exact ok_d
    · exact few_ab _ (by simp)
  have C5 : Hid (∀ w b, HasT w → SL w 7 encE (some ⟨b, 0, none⟩) [xa, xb] → Calls Tryd.prog 17 #[.slice (some ⟨b, 0, none⟩) 2 2, .int .i64 0, .int .i64 16807] w (ChkPost w (0, -1))) := fun w b hT h => by
    have := check_any (some ⟨b, 0, none⟩) 2 [xa, xb] 0 16807 w h (by simp) (by simp) few_ab hT
    rw [hCm] at this; exact this
  have C6 : Hid (∀ w b c, 2 ≤ c → HasT w → SL w 7 encE (some ⟨b, 0, none⟩) [xd, xb] → Calls Tryd.prog 17 #[.slice (some ⟨b, 0, none⟩) 2 c, .int .i64 0, .int .i64 16807] w (ChkPost w (17, 0))) := fun w b c hc hT h => by
    have := check_any (some ⟨b, 0, none⟩) c [xd, xb] 0 16807 w h (by simp) (by simpa using hc) few_db hT
    rw [hCx] at this; exact this
  have C7 : Hid (∀ w, HasT w → Calls Tryd.prog 19 #[.agg #[.int .i64 0, .int .i64 0, .int .i64 3, .string ⟨#[]⟩, .string ⟨#[97]⟩, .int .i64 0, .int .i64 0]] w fun e w' => e = .returned (.string ta) ∧ Below w.heap.size w w') := fun w hT => by
    have := text31_any ⟨0, 0, 3, ⟨#[]⟩, ⟨#[97]⟩, 0, 0⟩ w ⟨by decide, by decide, by decide, by decide, by decide, by decide, by decide, by decide, by decide, by decide, by decide, by decide⟩ (by decide) (by decide) hT
    rw [ta_is] at this; exact this
  obtain ⟨oa1, oa2, oa3⟩ := few_ab xa (by simp)
  obtain ⟨ob1, ob2, ob3⟩ := few_ab xb (by simp)
  obtain ⟨oc1, oc2, oc3⟩ := ok_c
  have C8 : Hid (∀ w, HasT w → Calls Tryd.prog 21 #[.agg (encE xb).toArray, .agg (encE xc).toArray, .int .i64 16807] w fun e w' => e = .returned (.bool true) ∧ Below w.heap.size w w') := fun w hT => by
    have := fork_any xb xc 16807 w ob1 oc1 ob2 oc2 ob3 oc3 hT
    rw [hF1] at this; exact this
  have C9 : Hid (∀ w, HasT w → Calls Tryd.prog 21 #[.agg (encE xa).toArray, .agg (encE xa).toArray, .int .i64 16807] w fun e w' => e = .returned (.bool false) ∧ Below w.heap.size w w') := fun w hT => by
    have := fork_any xa xa 16807 w oa1 oa1 oa2 oa2 oa3 oa3 hT
    rw [forkB_self] at this; exact this
  have HT := Lib.hid hT
  clear oa1 oa2 oa3 ob1 ob2 ob3 oc1 oc2 oc3 few_db hT
  go_enter Tryd.func23, Tryd.ntmps23
  go_wp2_with fail
  refine (C1.out _ HT.out).mono ?_
  rintro e w1 ⟨b1, hb1, rfl, sl1, bl1⟩
  have S1 : Hid (SL w1 7 encE (some ⟨b1, 0, none⟩) [xa]) := sl1
  have T1 := Lib.hid (HT.out.below bl1 (Nat.le_refl _))
  have L1 := Lib.hid bl1
  clear hb1 sl1 bl1 C1 HT
  simp only [List.length_nil, Nat.zero_add]
  go_wp2_with fail
  refine (C2.out _ b1 T1.out S1.out).mono ?_
  rintro e w2 ⟨b2, hb2, rfl, sl2, bl2⟩
  have S2 : Hid (SL w2 7 encE (some ⟨b2, 0, none⟩) [xa, xb]) := sl2
  have S1' := Lib.hid (S1.out.below bl2 (Nat.le_refl _))
  have T2 := Lib.hid (T1.out.below bl2 (Nat.le_refl _))
  have L2 := Lib.hid (L1.out.trans (bl2.mono L1.out.size))
  clear hb2 sl2 bl2 C2 T1 S1 L1
  simp only [List.length_cons, List.length_nil, Nat.zero_add]
  go_wp2_with fail
  refine (C3.out _ b2 T2.out S2.out).mono ?_
  rintro e w3 ⟨rfl, bl3⟩
  have S2 := Lib.hid (S2.out.below bl3 (Nat.le_refl _))
  have S1 := Lib.hid (S1'.out.below bl3 (Nat.le_refl _))
  have T3 := Lib.hid (T2.out.below bl3 (Nat.le_refl _))
  have L3 := Lib.hid (L2.out.trans (bl3.mono L2.out.size))
  clear bl3 C3 T2 S1' L2
  go_wp2_with fail
  refine (C4.out _ b1 T3.out S1.out).mono ?_
  rintro e w4 ⟨b4, hb4, rfl, sl4, bl4⟩
  have S4 : Hid (SL w4 7 encE (some ⟨b4, 0, none⟩) [xa, xc]) := sl4
  have S2 := Lib.hid (S2.out.below bl4 (Nat.le_refl _))
  have T4 := Lib.hid (T3.out.below bl4 (Nat.le_refl _))
  have L4 := Lib.hid (L3.out.trans (bl4.mono L3.out.size))
  clear hb4 sl4 bl4 C4 T3 S1 L3
  simp only [List.length_cons, List.length_nil, Nat.zero_add]
  go_wp2_with fail
  refine (C5.out _ b2 T4.out S2.out).mono ?_
  rintro e w5 ⟨rfl, bl5⟩
  have S4 := Lib.hid (S4.out.below bl5 (Nat.le_refl _))
  have S2 := Lib.hid (S2.out.below bl5 (Nat.le_refl _))
  have T5 := Lib.hid (T4.out.below bl5 (Nat.le_refl _))
  have L5 := Lib.hid (L4.out.trans (bl5.mono L4.out.size))
  clear bl5 C5 T4 L4
  simp only
  obtain ⟨i0, hi, hz0, hz1, hz2⟩ := info_parts infoE
  go_wp2_with (at_builtin; refine wpList_append_list rfl (.tmp 64) (.tmp 65) 26 rfl w5.heap.size 37 i0 _ 72 Tryd.underlying26 hi hz0 hz1 hz2 rfl (by decide) encE_len encE_one _ 0 [] rfl (World.ownsRow_made w5 #[] 0 (Nat.le_refl _) (by decide) rfl) (some ⟨b2, 0, none⟩) 2 [xa, xb] rfl (S2.out.alloc _) (by decide) (by decide) (by simp) ?_)
  intro v' w6 hown hgr _
  obtain ⟨g, cap, cur, rfl, hg1, hg2, hg3, hg4, hg5, hsl⟩ := own_at (l := [xa, xb]) encE_len (by simpa using hown) (by simp)
  have bl6 : Below w5.heap.size w5 w6 := ⟨hgr.os, hgr.tape, hgr.output, by have := hgr.size; simp at this; omega, fun k hk => (hgr.block k (by simp; omega) (by simp [Value.ownBlock]; omega)).trans (Below.heap_alloc w5 _ k hk)⟩
  have HD : Hid (encE xd = (encE xa).set 4 (.string ⟨#[99]⟩)) := rfl
  have hsd := sl_set (i := 0) (p := 4) (e := xa) (e' := xd) (v := .string ⟨#[99]⟩) encE_len hg2 hsl rfl (by decide) HD.out
  have bl7 := bl6.setCell (p := ⟨g, 4, none⟩) hg1 (.string ⟨#[99]⟩)
  have S7 : Hid (SL (w6.setCell ⟨g, 4, none⟩ (.string ⟨#[99]⟩)) 7 encE (some ⟨g, 0, none⟩) [xd, xb]) := by
    show SL _ _ _ _ _
    simpa using hsd
  have S4 := Lib.hid (S4.out.below bl7 (Nat.le_refl _))
  have S2 := Lib.hid (S2.out.below bl7 (Nat.le_refl _))
  have T7 := Lib.hid (T5.out.below bl7 (Nat.le_refl _))
  have L7 := Lib.hid (L5.out.trans (bl7.mono L5.out.size))
  have f4 := row_frozen (k := 4) hg2
  have g4 : w6.cell? ⟨g, 4, none⟩ = some (.string xa.body) := by
    have := (sl_pair hsl).1 4 _ rfl
    simpa using this
  have hq1 : xb.seq = 1 := rfl
  have hp64 := xb_prev
  have hcap : 2 ≤ cap := hg3
  clear hown hgr hsl hg1 hg2 hg3 hg4 hg5 bl6 bl7 hsd T5 L5 hi hz0 hz1 hz2
  obtain ⟨ya, eya⟩ : ∃ ya, ya = xa := ⟨_, rfl⟩
  obtain ⟨yb, eyb⟩ : ∃ yb, yb = xb := ⟨_, rfl⟩
  obtain ⟨yc, eyc⟩ : ∃ yc, yc = xc := ⟨_, rfl⟩
  obtain ⟨yd, eyd⟩ : ∃ yd, yd = xd := ⟨_, rfl⟩
  rw [← eya] at S2 S4 C9 HD g4
  rw [← eyb] at S2 C6 C8 S7 hq1 hp64
  rw [← eyc] at S4 C8
  rw [← eyd] at C6 S7 HD
  clear eya eyb eyc eyd
  obtain ⟨ah, aq, ad, ap, ab, ar, az⟩ := ya
  obtain ⟨bh, bq, bd, bp, bb, br, bz⟩ := yb
  obtain ⟨ch, cq, cd, cp, cb, cr, cz⟩ := yc
  dsimp only at hq1 hp64 g4
  subst hq1
  clear HD
  go_wp2_with fail
  refine (C6.out _ g cap hcap T7.out S7.out).mono ?_
  rintro e w8 ⟨rfl, bl8⟩
  have S4 := Lib.hid (S4.out.below bl8 (Nat.le_refl _))
  have S2 := Lib.hid (S2.out.below bl8 (Nat.le_refl _))
  have T8 := Lib.hid (T7.out.below bl8 (Nat.le_refl _))
  have L8 := Lib.hid (L7.out.trans (bl8.mono L7.out.size))
  have m1 := (sl_pair S2.out).2 1 _ rfl
  have m3 := (sl_pair S2.out).2 3 _ rfl
  simp only [Nat.zero_add, Nat.reduceAdd] at m1 m3
  clear bl8 T7 L7 C6 S7 f4 g4
  simp only
  go_wp2_with fail
  refine Free.wp_region_free 25 [(3, .det (.string ta)), (13, .det (.bool true)), (22, .det (.bool false))] (fun w2 => HasT w2 ∧ SL w2 7 encE (some ⟨b2, 0, none⟩) [⟨ah, aq, ad, ap, ab, ar, az⟩, ⟨bh, 1, bd, bp, bb, br, bz⟩] ∧ SL w2 7 encE (some ⟨b4, 0, none⟩) [⟨ah, aq, ad, ap, ab, ar, az⟩, ⟨ch, cq, cd, cp, cb, cr, cz⟩]) (by kernel_rfl) (by kernel_rfl) ?_ ⟨T8.out.below (B := w8.heap.size) ⟨rfl, rfl, rfl, Nat.le_refl _, fun _ _ => rfl⟩ (Nat.le_refl _), S2.out.drew, S4.out.drew⟩ (fun _ _ h g => ⟨h.1.below g (Nat.le_refl _), h.2.1.below g (Nat.le_refl _), h.2.2.below g (Nat.le_refl _)⟩) ?_
  · intro j mk r hf
    simp only [Free.find] at hf
    repeat' split at hf
    all_goals (first | cases hf | skip)
  simp only [List.take_succ_cons, List.take_zero]
  clear m1 m3 S2 S4 T8
  iterate 3 (apply Free.chain_still (by first | exact Free.wanted_of rfl rfl rfl | rfl) rfl; (intro w' hB hA; obtain ⟨qT, qm, qn⟩ := hB; clear hA  qT qm qn; go_light; go_simp <;> rfl); (try simp only [Act.put, List.setIfInBounds_toArray, List.set_cons_succ, List.set_cons_zero]))
  apply Free.chain_det (by first | exact Free.wanted_of rfl rfl rfl | rfl) rfl
  · intro w' hB hA
    refine Free.opRun_call (f := 19) (args := #[.agg #[.int .i64 0, .int .i64 0, .int .i64 3, .string ⟨#[]⟩, .string ⟨#[97]⟩, .int .i64 0, .int .i64 0]]) (by clear hB hA; go_simp <;> rfl) ?_
    refine (C7.out _ hB.1).mono ?_
    rintro e w3 ⟨rfl, hb3⟩
    exact ⟨_, rfl, hb3, rfl⟩
  simp only [Act.put, List.setIfInBounds_toArray, List.set_cons_succ, List.set_cons_zero]
  unfold ta
  iterate 5 (apply Free.chain_still (by first | exact Free.wanted_of rfl rfl rfl | rfl) rfl; (intro w' hB hA; obtain ⟨qT, qm, qn⟩ := hB; clear hA  qT qm qn; go_light; go_simp <;> rfl); (try simp only [Act.put, List.setIfInBounds_toArray, List.set_cons_succ, List.set_cons_zero]))
  apply Free.chain_still (by first | exact Free.wanted_of rfl rfl rfl | rfl) rfl
  · intro w' hB hA
    obtain ⟨qT, qm, qn⟩ := hB
    have hl := (sl_pair qm).2
    have k0 := hl 0 _ rfl
    have k1 := hl 1 _ rfl
    have k2 := hl 2 _ rfl
    have k3 := hl 3 _ rfl
    have k4 := hl 4 _ rfl
    have k5 := hl 5 _ rfl
    have k6 := hl 6 _ rfl
    simp only [Nat.zero_add, Nat.reduceAdd, Nat.add_zero] at k0 k1 k2 k3 k4 k5 k6
    clear hA qT qm qn hl
    go_light
    go_simp <;> rfl
  simp only [Act.put, List.setIfInBounds_toArray, List.set_cons_succ, List.set_cons_zero]
  iterate 2 (apply Free.chain_still (by first | exact Free.wanted_of rfl rfl rfl | rfl) rfl; (intro w' hB hA; obtain ⟨qT, qm, qn⟩ := hB; clear hA  qT qm qn; go_light; go_simp <;> rfl); (try simp only [Act.put, List.setIfInBounds_toArray, List.set_cons_succ, List.set_cons_zero]))
  apply Free.chain_still (by first | exact Free.wanted_of rfl rfl rfl | rfl) rfl
  · intro w' hB hA
    obtain ⟨qT, qm, qn⟩ := hB
    have hl := (sl_pair qn).2
    have k0 := hl 0 _ rfl
    have k1 := hl 1 _ rfl
    have k2 := hl 2 _ rfl
    have k3 := hl 3 _ rfl
    have k4 := hl 4 _ rfl
    have k5 := hl 5 _ rfl
    have k6 := hl 6 _ rfl
    simp only [Nat.zero_add, Nat.reduceAdd, Nat.add_zero] at k0 k1 k2 k3 k4 k5 k6
    clear hA qT qm qn hl
    go_light
    go_simp <;> rfl
  simp only [Act.put, List.setIfInBounds_toArray, List.set_cons_succ, List.set_cons_zero]
  apply Free.chain_det (by first | exact Free.wanted_of rfl rfl rfl | rfl) rfl
  · intro w' hB hA
    refine Free.opRun_call (f := 21) (args := #[.agg #[.int .i64 bh, .int .i64 1, .int .i64 bd, .string bp, .string bb, .int .i64 br, .int .i64 bz], .agg #[.int .i64 ch, .int .i64 cq, .int .i64 cd, .string cp, .string cb, .int .i64 cr, .int .i64 cz], .int .i64 16807]) (by clear hB hA; go_simp <;> rfl) ?_
    refine (C8.out _ hB.1).mono ?_
    rintro e w3 ⟨rfl, hb3⟩
    exact ⟨_, rfl, hb3, rfl⟩
  simp only [Act.put, List.setIfInBounds_toArray, List.set_cons_succ, List.set_cons_zero]
  iterate 4 (apply Free.chain_still (by first | exact Free.wanted_of rfl rfl rfl | rfl) rfl; (intro w' hB hA; obtain ⟨qT, qm, qn⟩ := hB; clear hA  qT qm qn; go_light; go_simp <;> rfl); (try simp only [Act.put, List.setIfInBounds_toArray, List.set_cons_succ, List.set_cons_zero]))
  apply Free.chain_still (by first | exact Free.wanted_of rfl rfl rfl | rfl) rfl
  · intro w' hB hA
    obtain ⟨qT, qm, qn⟩ := hB
    have hl := (sl_pair qm).1
    have k0 := hl 0 _ rfl
    have k1 := hl 1 _ rfl
    have k2 := hl 2 _ rfl
    have k3 := hl 3 _ rfl
    have k4 := hl 4 _ rfl
    have k5 := hl 5 _ rfl
    have k6 := hl 6 _ rfl
    simp only [Nat.zero_add] at k0 k1 k2 k3 k4 k5 k6
    clear hA qT qm qn hl
    go_light
    go_simp <;> rfl
  simp only [Act.put, List.setIfInBounds_toArray, List.set_cons_succ, List.set_cons_zero]
  iterate 2 (apply Free.chain_still (by first | exact Free.wanted_of rfl rfl rfl | rfl) rfl; (intro w' hB hA; obtain ⟨qT, qm, qn⟩ := hB; clear hA  qT qm qn; go_light; go_simp <;> rfl); (try simp only [Act.put, List.setIfInBounds_toArray, List.set_cons_succ, List.set_cons_zero]))
  apply Free.chain_still (by first | exact Free.wanted_of rfl rfl rfl | rfl) rfl
  · intro w' hB hA
    obtain ⟨qT, qm, qn⟩ := hB
    have hl := (sl_pair qm).1
    have k0 := hl 0 _ rfl
    have k1 := hl 1 _ rfl
    have k2 := hl 2 _ rfl
    have k3 := hl 3 _ rfl
    have k4 := hl 4 _ rfl
    have k5 := hl 5 _ rfl
    have k6 := hl 6 _ rfl
    simp only [Nat.zero_add] at k0 k1 k2 k3 k4 k5 k6
    clear hA qT qm qn hl
    go_light
    go_simp <;> rfl
  simp only [Act.put, List.setIfInBounds_toArray, List.set_cons_succ, List.set_cons_zero]
  apply Free.chain_det (by first | exact Free.wanted_of rfl rfl rfl | rfl) rfl
  · intro w' hB hA
    refine Free.opRun_call (f := 21) (args := #[.agg #[.int .i64 ah, .int .i64 aq, .int .i64 ad, .string ap, .string ab, .int .i64 ar, .int .i64 az], .agg #[.int .i64 ah, .int .i64 aq, .int .i64 ad, .string ap, .string ab, .int .i64 ar, .int .i64 az], .int .i64 16807]) (by clear hB hA; go_simp <;> rfl) ?_
    refine (C9.out _ hB.1).mono ?_
    rintro e w3 ⟨rfl, hb3⟩
    exact ⟨_, rfl, hb3, rfl⟩
  simp only [Act.put, List.setIfInBounds_toArray, List.set_cons_succ, List.set_cons_zero]
  iterate 2 (apply Free.chain_still (by first | exact Free.wanted_of rfl rfl rfl | rfl) rfl; (intro w' hB hA; obtain ⟨qT, qm, qn⟩ := hB; clear hA  qT qm qn; go_light; go_simp <;> rfl); (try simp only [Act.put, List.setIfInBounds_toArray, List.set_cons_succ, List.set_cons_zero]))
  apply Free.chain_nil
  intro wz _ hg _
  simp only [List.drop_succ_cons, List.drop_zero]
  have hz := grow_drew2 hg
  have FIN := Lib.hid (L8.out.trans (hz.mono L8.out.size))
  clear hg hz L8 C7 C8 C9
  go_wp2
  go_ret
  exact ⟨rfl, FIN.out⟩
end Go.Proofs.YtaaenobckipfkaaDoor
