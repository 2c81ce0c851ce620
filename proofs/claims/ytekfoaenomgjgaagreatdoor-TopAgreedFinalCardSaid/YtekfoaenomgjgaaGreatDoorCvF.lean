/- Package contract: framed. Condition: the contract lies in memory, its lists are short. -/
import Derived.Test.YtekfoaenomgjgaaGreatDoorCvE
set_option maxRecDepth 100000
set_option linter.unusedSimpArgs false
set_option linter.unusedVariables false
set_option linter.unnecessarySimpa false
namespace Go.Cv
open Go
def offF (days : Int) : Int → List Int → Bool
 | _, [] => true
 | last, d :: r => (decide (last < d) && decide (d < days)) && offF days d r
def framedB (c : Con) : Bool := (decide (1 ≤ c.parties) && (decide (1 ≤ c.days) && (!decide (c.holders = []) && (c.holders.all fun h => decide (0 ≤ h) && decide (h < c.parties))))) && (unitsV c.units && ((c.acts.all (actV c.parties c.holders.length c.units.length)) && offF c.days (-1) c.off))
/-- The lists of a contract are as short as the limits say. -/
structure ConLim (c : ConM) : Prop where
 p : c.parties ≤ 12
 h : c.holders.length ≤ 12
 u : c.units.length ≤ 20
 a : c.acts.length ≤ 60
 k : c.kls.length ≤ 400
theorem offF_more {days : Int} : ∀ {l : List Int} {last : Int} {k : Nat} {d : Int}, l[k]? = some d → offF days last (l.take k) = true → offF days last (l.take (k + 1)) = (decide (((l.take k).getLast?).getD last < d) && decide (d < days))
 | [], _, _, _, h, _ => by simp at h
 | x :: r, last, 0, d, h, _ => by
  simp at h
  subst h
  show offF days last [x] = _
  simp only [offF, Bool.and_true]
  rfl
 | x :: r, last, k + 1, d, h, hk => by
  simp only [List.getElem?_cons_succ] at h
  simp only [List.take_succ_cons, offF, Bool.and_eq_true, decide_eq_true_eq] at hk
  have := offF_more (last := x) h hk.2
  simp only [List.take_succ_cons, offF, decide_eq_true hk.1.1, decide_eq_true hk.1.2, Bool.true_and]
  rw [this]
  congr 2
  cases hr : r.take k with
  | nil => simp
  | cons y s => simp [List.getLast?_cons]
theorem offF_less {days : Int} : ∀ {l : List Int} {last : Int} {k : Nat}, offF days last (l.take k) = false → offF days last l = false
 | [], _, _, h => by simpa [offF] using h
 | x :: r, last, 0, h => by simp [offF] at h
 | x :: r, last, k + 1, h => by
  simp only [List.take_succ_cons, offF] at h ⊢
  cases h1 : (decide (last < x) && decide (x < days)) with
  | false => rfl
  | true => rw [h1, Bool.true_and] at h; rw [Bool.true_and]; exact offF_less h
end Go.Cv
namespace Go.Proofs.YtekfoaenomgjgaaGreatDoor
open Go.RowKit Go.W32 Go.Blk Go.Cs Go.Lib Go.Opn Go.Mg Go.Cv

theorem info_ac (cs : List Value) (h : cs.length = 7) : (Tryz.prog.info? 98).map (·.size) = some cs.length := by rw [h]; kernel_rfl
theorem store_ac {cs : List Value} (hcl : cs.length = 7) (hc1 : ∀ v ∈ cs, v.oneCell' = true) (s t : Nat) (W0 W1 : World) (b : Nat) (hb : b = W0.heap.size) (e1 : W1 = W0.alloc (.cells cs.toArray 98)) (Q : Exit → Act → World → Prop) (ops : Array Oper) (rest : List Oper) (o : Oper) (a : Act) (hgd : o.guard = none) (ho : o.op = .store 98 (.tmp s) (.tmp t)) (hx : a.eval (.tmp s) = .pointer (some ⟨b, 0, none⟩)) (hy : a.eval (.tmp t) = .agg cs.toArray) (old : Array Value) (hold : old.size = 7) (hk : wpList Tryz.prog ops Q rest (a.put o.dst undef) W1) : wpList Tryz.prog ops Q (o :: rest) a (W0.alloc (.cells old 98)) := by
 rw [e1] at hk
 exact Hk.wpList_store_fresh hgd 98 (.tmp s) (.tmp t) ho b _ hx hy old 98 hb (by rw [info_ac cs hcl]; simp) (by rw [hold]; simp [hcl]) (all_oneCell_toArray hc1) hk
theorem encAc_one (a : AcT) : ∀ v ∈ encAc a, v.oneCell' = true := fun v hv => by
 simp only [encAc, List.mem_cons, List.not_mem_nil, or_false] at hv
 rcases hv with rfl | rfl | rfl | rfl | rfl | rfl | rfl <;> rfl
set_option maxHeartbeats 4000000 in
theorem framed_any (c : ConM) (W : World) (hc : ConAt W c) (hl : ConLim c) (hz : ConSz c) : Calls Tryz.prog 85 #[.agg (encCon c).toArray] W fun e w' => e = .returned (.bool (framedB c.con)) ∧ Below W.heap.size W w' := by
 obtain ⟨R, eR⟩ : ∃ R : Ending → World → Prop, R = fun e w' => e = .returned (.bool (framedB c.con)) ∧ Below W.heap.size W w' := ⟨_, rfl⟩
 rw [← eR]
 have FIN : Hid (∀ w' v, v = framedB c.con → Below W.heap.size W w' → R (.returned (.bool v)) w') := Lib.hid fun w' v h hb => by rw [eR, h]; exact ⟨rfl, hb⟩
 clear eR
 have HV : Hid (framedB c.con = ((decide (1 ≤ c.parties) && (decide (1 ≤ c.days) && (!decide (c.holders.length = 0) && heldB c.parties c.holders))) && (unitsV c.units && ((c.acts.all (actV c.parties c.holders.length c.units.length)) && offF c.days (-1) c.off)))) := Lib.hid (by
  unfold framedB heldB ConM.con
  simp only [List.length_eq_zero_iff])
 obtain ⟨W1, cs, hx⟩ := boxC W c
 obtain ⟨k0, k1, k2, k3, k4, k5, k6⟩ := ConC.of (T := 27) (b := W.heap.size) (w := W1) (c := c) (by rw [← hx.cs]; exact hx.row)
 have HK : Hid (∀ w', Below W1.heap.size W1 w' → ConC w' W.heap.size c ∧ w'.rangeAt W.heap.size 0 cs ∧ ConAt w' c) := Lib.hid fun w' hb => ⟨ConC.of (T := 27) (by rw [← hx.cs]; exact hx.row.below hb hx.row.lt), (hx.row.below hb hx.row.lt).rg, hc.below (hx.below.trans (hb.mono hx.below.size)) (Nat.le_refl _)⟩
 have E1 := Lib.hid hx.e
 have HB1 := Lib.hid hx.below
 have HI := Lib.hid (info_co cs (by rw [hx.cs]; rfl))
 have CH := Lib.hid (held_any c W1 (HK.out W1 (Below.refl _ _)).2.2 hl.h hl.p)
 have CQ : Hid (∀ w', Below W1.heap.size W1 w' → Calls Tryz.prog 121 #[.slice c.uA c.units.length c.uc] w' (QvPost c.units w')) := Lib.hid fun w' hb => qv_any c.uA c.uc c.units w' (HK.out w' hb).2.2.u hz.uc (by have := hl.u; omega)
 have CA := Lib.hid (fun a w => act_any c a w)
 rw [← hx.cs] at CH CA ⊢
 have HL := Lib.hid hl
 have HZ := Lib.hid hz
 clear hx hc hl hz k2 k3 k4 k6
 by_cases h1 : 1 ≤ c.parties
 rotate_left
 ·have q1 : decide (1 ≤ c.parties) = false := decide_eq_false h1
  have q1' : decide (c.parties < 1) = true := decide_eq_true (by omega)
  have HF := Lib.hid (FIN.out W1 false (by rw [HV.out]; simp [q1]) HB1.out)
  clear FIN HV
  go_enter Tryz.func85, Tryz.ntmps85
  go_wp2_with (simp only [E1.out])
  exact HF.out
 have q1 : decide (1 ≤ c.parties) = true := decide_eq_true h1
 have q1' : decide (c.parties < 1) = false := decide_eq_false (by omega)
 by_cases h2 : 1 ≤ c.days
 rotate_left
 ·have q2 : decide (1 ≤ c.days) = false := decide_eq_false h2
  have q2' : decide (c.days < 1) = true := decide_eq_true (by omega)
  have HF := Lib.hid (FIN.out W1 false (by rw [HV.out]; simp [q2]) HB1.out)
  clear FIN HV
  go_enter Tryz.func85, Tryz.ntmps85
  go_wp2_with (simp only [E1.out])
  exact HF.out
 have q2 : decide (1 ≤ c.days) = true := decide_eq_true h2
 have q2' : decide (c.days < 1) = false := decide_eq_false (by omega)
 by_cases h3 : c.holders.length = 0
 ·have q3 : decide (c.holders.length = 0) = true := decide_eq_true h3
  have q3' : ((c.holders.length : Int) == 0) = true := by simpa using h3
  have HF := Lib.hid (FIN.out W1 false (by rw [HV.out]; simp [h3]) HB1.out)
  clear FIN HV h3
  go_enter Tryz.func85, Tryz.ntmps85
  go_wp2_with (simp only [E1.out])
  exact HF.out
 have q3 : decide (c.holders.length = 0) = false := decide_eq_false h3
 have q3' : ((c.holders.length : Int) == 0) = false := by simp; intro e; exact h3 (by rw [e]; rfl)
 obtain ⟨HB, eHB⟩ : ∃ HB, HB = heldB c.parties c.holders := ⟨_, rfl⟩
 rw [← eHB] at CH HV
 have HV2 : Hid (framedB c.con = (HB && (unitsV c.units && ((c.acts.all (actV c.parties c.holders.length c.units.length)) && offF c.days (-1) c.off)))) := Lib.hid (by rw [HV.out, q1, q2, q3]; rfl)
 have HML := Lib.hid (HK.out W1 (Below.refl _ _)).2.1
 clear HV eHB h1 h2 h3 q1 q2 q3
 go_enter Tryz.func85, Tryz.ntmps85
 go_wp2_with (first
  | (simp only [E1.out])
  | (refine at_load (.tmp 1) ?_; refine Row.still (by first|exact Free.wanted_of rfl rfl rfl|rfl) (Hk.exec_mid 27 (.tmp 1) rfl W.heap.size 0 rfl cs _ HML.out Tryz.underlying27 rfl HI.out) ?_; simp only [Act.put, Pt1, Pt2, Pt3]))
 refine CH.out.mono ?_
 rintro e w2 ⟨rfl, hb2⟩
 obtain ⟨⟨k0, k1, k2, k3, k4, k5, k6⟩, _, _⟩ := HK.out w2 hb2
 have HB2 := Lib.hid hb2
 clear hb2 CH HML k0 k1 k4 k5 k6
 cases HB with
 | false =>
  have HF := Lib.hid (FIN.out w2 false (by rw [HV2.out]; rfl) (HB1.out.trans (HB2.out.mono HB1.out.size)))
  clear FIN HV2
  go_wp2_with fail
  exact HF.out
 | true =>
 go_wp2_with fail
 refine (CQ.out w2 HB2.out).mono ?_
 rintro e w3 ⟨⟨ix, rfl⟩, hb3⟩
 have HB3 := Lib.hid (HB2.out.trans (hb3.mono HB2.out.size))
 obtain ⟨⟨k0, k1, k2, k3, k4, k5, k6⟩, _, _⟩ := HK.out w3 HB3.out
 obtain ⟨UB, eUB⟩ : ∃ UB, UB = unitsV c.units := ⟨_, rfl⟩
 rw [← eUB] at HV2 ⊢
 clear hb3 CQ eUB k0 k1 k2 k4 k5
 cases UB with
 | false =>
  have HF := Lib.hid (FIN.out w3 false (by rw [HV2.out]; rfl) (HB1.out.trans (HB3.out.mono HB1.out.size)))
  clear FIN HV2
  go_wp2_with fail
  exact HF.out
 | true =>
 have HV3 : Hid (framedB c.con = ((c.acts.all (actV c.parties c.holders.length c.units.length)) && offF c.days (-1) c.off)) := Lib.hid (by rw [HV2.out]; rfl)
 clear HV2
 go_wp2_with fail
 obtain ⟨af, eaf⟩ : ∃ af, af = actV c.parties c.holders.length c.units.length := ⟨_, rfl⟩
 rw [← eaf] at HV3
 have CA2 : Hid (∀ a w, Calls Tryz.prog 122 #[.agg cs.toArray, .agg (encAc a).toArray] w fun e w' => e = .returned (.bool (af a)) ∧ Below w.heap.size w w') := Lib.hid fun a w => by rw [eaf]; exact CA.out a w
 clear CA eaf k6 k3
 go_loopw [40] (fun v wr => ∃ k : Nat, v = .int .i64 (k : Int) ∧ k ≤ c.acts.length ∧ Hid ((c.acts.take k).all af = true) ∧ Below W1.heap.size W1 wr) (fun v _ => (c.acts.length : Int).toNat - (RowKit.intOf v).toNat)
 case atStart => exact ⟨0, rfl, Nat.zero_le _, Lib.hid rfl, HB3.out⟩
 case round =>
  obtain ⟨k, rfl, hk, hal, hbw⟩ := hrel
  have hkb : (k : Int) ≤ 60 := by have := HL.out.a; omega
  obtain ⟨⟨k0, k1, k2, k3, k4, k5, k6⟩, hrg, hat⟩ := HK.out wr hbw
  rcases Nat.lt_or_eq_of_le hk with hkl | hkl
  ·have hki : (k : Int) < (c.acts.length : Int) := by omega
   obtain ⟨a, ea⟩ : ∃ x, c.acts[k]? = some x := ⟨_, List.getElem?_eq_getElem hkl⟩
   have hA := hat.a
   obtain ⟨b, off, eA⟩ := sl_addr hA (by intro e; rw [e] at hkl; simp at hkl)
   rw [eA] at k3 hA ⊢
   obtain ⟨ds, eds⟩ : ∃ ds, ds = encAc a := ⟨_, rfl⟩
   have hdl : ds.length = 7 := by rw [eds]; rfl
   have HMk : Hid (wr.rangeAt b (off + k * 7) ds) := Lib.hid (by rw [eds]; exact sl_range hA ea)
   have HIk := Lib.hid (info_ac ds hdl)
   obtain ⟨Wk, ek⟩ : ∃ Wk, Wk = wr.alloc (.cells ds.toArray 98) := ⟨_, rfl⟩
   have hrk : Row Wk wr.heap.size 98 ds := by rw [ek]; exact Row.new _ _ _
   have hbk : Below wr.heap.size wr Wk := by rw [ek]; exact (Below.refl _ _).alloc (Nat.le_refl _) _
   have HSk := Lib.hid (store_ac hdl (by rw [eds]; exact encAc_one a) 6 43 wr Wk _ rfl ek)
   have HBk := Lib.hid (hbw.trans (hbk.mono hbw.size))
   have HMC := Lib.hid (HK.out Wk HBk.out).2.1
   have HMA := Lib.hid hrk.rg
   have CAk := Lib.hid (CA2.out a Wk)
   rw [← eds] at CAk
   obtain ⟨v, ev⟩ : ∃ v, v = af a := ⟨_, rfl⟩
   rw [← ev] at CAk
   have EV := Lib.hid ev
   have EA := Lib.hid ea
   clear eds hdl ek hrk hbk hA ea ev eA hbw hrg hat hk k0 k1 k2 k4 k5 k6
   go_wp2_with (first
    | (refine at_load (.tmp 42) ?_; refine wpList_load_mid rfl 98 (.tmp 42) rfl b (off + k * 7) rfl ds _ HMk.out Tryz.underlying98 rfl HIk.out ?_)
    | (refine at_store (.tmp 6) ?_; refine HSk.out _ _ _ _ _ rfl rfl rfl rfl _ (by simp) ?_; simp only [Act.put, Pt1, Pt2, Pt3])
    | (refine at_load (.tmp 1) ?_; refine wpList_load_mid rfl 27 (.tmp 1) rfl W.heap.size 0 rfl cs _ HMC.out Tryz.underlying27 rfl HI.out ?_)
    | (refine at_load (.tmp 6) ?_; refine wpList_load_mid rfl 98 (.tmp 6) rfl wr.heap.size 0 rfl ds _ HMA.out Tryz.underlying98 rfl HIk.out ?_))
   refine CAk.out.mono ?_
   rintro e w5 ⟨rfl, hb5⟩
   have HB5 := Lib.hid (HBk.out.trans (hb5.mono HBk.out.size))
   clear hb5 CAk
   cases v with
   | true =>
    go_wp2_with fail
    go_roundw
    case rel => exact ⟨k + 1, rfl, hkl, Lib.hid (all_more EA.out hal.out EV.out.symm), HB5.out⟩
    case measure => simp [RowKit.intOf]; omega
   | false =>
    have HF := Lib.hid (FIN.out w5 false (by rw [HV3.out, all_less EA.out EV.out.symm]; rfl) (HB1.out.trans (HB5.out.mono HB1.out.size)))
    clear FIN HV3
    go_wp2_with fail
    exact HF.out
  ·have hki : ¬ (k : Int) < (c.acts.length : Int) := by omega
   have HV4 : Hid (framedB c.con = offF c.days (-1) c.off) := Lib.hid (by
    have := hal.out
    rw [List.take_of_length_le (by omega)] at this
    rw [HV3.out, this]; rfl)
   have HB4 := Lib.hid hbw
   clear HV3 hbw hal hrg hat hk hkl CA2 k0 k1 k2 k3 k4 k5
   go_wp2_with fail
   generalize wr = wo at *
   go_loopw [7, 52] (fun u v wr => ∃ k : Nat, v = .int .i64 (k : Int) ∧ k ≤ c.off.length ∧ u = .int .i64 (((c.off.take k).getLast?).getD (-1)) ∧ Hid (offF c.days (-1) (c.off.take k) = true) ∧ wr = wo) (fun _ v _ => (c.off.length : Int).toNat - (RowKit.intOf v).toNat)
   case atStart => exact ⟨0, rfl, Nat.zero_le _, rfl, Lib.hid rfl, rfl⟩
   case round =>
    obtain ⟨k, rfl, hk, rfl, hal, hwo⟩ := hrel
    subst hwo
    obtain ⟨⟨k0, k1, k2, k3, k4, k5, k6'⟩, hrg, hat⟩ := HK.out wr HB4.out
    rcases Nat.lt_or_eq_of_le hk with hkl | hkl
    ·have hki : (k : Int) < (c.off.length : Int) := by omega
     have hkb : (k : Int) + 1 ≤ 9223372036854775807 := by have := HZ.out.o; omega
     obtain ⟨d, ed⟩ : ∃ x, c.off[k]? = some x := ⟨_, List.getElem?_eq_getElem hkl⟩
     have hO := hat.o
     obtain ⟨b, off, eO⟩ := sl_addr hO (by intro e; rw [e] at hkl; simp at hkl)
     rw [eO] at hO ⊢
     have cd := sl_cell1 hO ed
     have hstep := offF_more ed hal.out
     obtain ⟨L, eL⟩ : ∃ L, L = ((c.off.take k).getLast?).getD (-1) := ⟨_, rfl⟩
     rw [← eL] at hstep ⊢
     have HSTP := Lib.hid hstep
     have HLAST : Hid (((c.off.take (k + 1)).getLast?).getD (-1) = d) := Lib.hid (by rw [List.take_add_one, ed, Option.toList_some, List.getLast?_append]; rfl)
     have HLS : Hid (offF c.days (-1) (c.off.take (k + 1)) = false → offF c.days (-1) c.off = false) := Lib.hid offF_less
     clear hstep eL ed hO eO hrg hat hk k0 k1 k2 k3 k4 k6 k6'
     by_cases h1 : L < d
     rotate_left
     ·have q1 : decide (d ≤ L) = true := decide_eq_true (by omega)
      have HF := Lib.hid (FIN.out wr false (by rw [HV4.out, HLS.out (by rw [HSTP.out, decide_eq_false h1]; rfl)]) (HB1.out.trans (HB4.out.mono HB1.out.size)))
      clear FIN HV4
      go_wp2_with fail
      exact HF.out
     have q1 : decide (d ≤ L) = false := decide_eq_false (by omega)
     by_cases h2 : d < c.days
     rotate_left
     ·have q2 : decide (c.days ≤ d) = true := decide_eq_true (by omega)
      have HF := Lib.hid (FIN.out wr false (by rw [HV4.out, HLS.out (by rw [HSTP.out, decide_eq_false h2, Bool.and_false])]) (HB1.out.trans (HB4.out.mono HB1.out.size)))
      clear FIN HV4
      go_wp2_with fail
      exact HF.out
     have q2 : decide (c.days ≤ d) = false := decide_eq_false (by omega)
     have HNX : Hid (offF c.days (-1) (c.off.take (k + 1)) = true) := Lib.hid (by rw [HSTP.out, decide_eq_true h1, decide_eq_true h2]; rfl)
     go_wp2_with fail
     go_roundw
     case rel => exact ⟨k + 1, rfl, hkl, by rw [HLAST.out], HNX, by trivial⟩
     case measure => simp [RowKit.intOf]; omega
    ·have hki : ¬ (k : Int) < (c.off.length : Int) := by omega
     have HF := Lib.hid (FIN.out wr true (by have := hal.out; rw [List.take_of_length_le (by omega)] at this; rw [HV4.out, this]) (HB1.out.trans (HB4.out.mono HB1.out.size)))
     clear FIN HV4 hal hk hkl
     go_wp2_with fail
     exact HF.out
end Go.Proofs.YtekfoaenomgjgaaGreatDoor
