/- Package contract: validClause. Condition: the contract lies in memory. -/
import Derived.Test.YtekfoaenomgjgaaGreatDoorCvG
set_option maxRecDepth 100000
set_option linter.unusedSimpArgs false
set_option linter.unusedVariables false
set_option linter.unnecessarySimpa false
namespace Go.Cv
open Go Go.Cs
def condV (C : Nat) (i : Nat) (s : Int × Int) : Bool := (decide (0 ≤ s.1) && decide (s.1 < (C : Int))) && (!(s.1 == (i : Int)) && (decide (1 ≤ s.2) && decide (s.2 ≤ 4)))
def pauseV (acs : List AcT) (k : Cls) : Bool := if (k.pause != -1) || (k.resume != -1) then !(k.pause == k.resume) && (natB acs k.pause && natB acs k.resume) else true
def moneyV (us : List Un) (i : Int) : Bool := match us[i.toNat]? with | some u => u.kind == 2 | none => false
def worthV (H : Nat) (us : List Un) (k : Cls) : Bool :=
 if k.unit == -1 then ratO k.num k.den && (k.to == -1)
 else ((k.kind == 1) || (k.kind == 2)) && (decide (0 ≤ k.unit) && (decide (k.unit < (us.length : Int)) && (moneyV us k.unit && (posB k.num k.den && movB H k.to))))
def clauseV (c : Con) (i : Nat) (k : Cls) : Bool :=
 (decide (0 ≤ k.act) && (decide (k.act < (c.acts.length : Int)) && (decide (1 ≤ k.after) && decide (k.after ≤ 400)))) && ((kindV c.holders.length c.acts k && decide (k.start.length ≤ 8)) && (k.start.all (condV c.cls.length i) && (pauseV c.acts k && worthV c.holders.length c.units k)))
end Go.Cv
namespace Go.Proofs.YtekfoaenomgjgaaGreatDoor
open Go.RowKit Go.W32 Go.Blk Go.Cs Go.Lib Go.Opn Go.Mg Go.Cv

theorem info_k (cs : List Value) (h : cs.length = 16) : (Tryz.prog.info? 45).map (·.size) = some cs.length := by rw [h]; kernel_rfl
theorem info_cd (cs : List Value) (h : cs.length = 2) : (Tryz.prog.info? 133).map (·.size) = some cs.length := by rw [h]; kernel_rfl
theorem store_k {cs : List Value} (hcl : cs.length = 16) (hc1 : ∀ v ∈ cs, v.oneCell' = true) (s t : Nat) (W0 W1 : World) (b : Nat) (hb : b = W0.heap.size) (e1 : W1 = W0.alloc (.cells cs.toArray 45)) (Q : Exit → Act → World → Prop) (ops : Array Oper) (rest : List Oper) (o : Oper) (a : Act) (hgd : o.guard = none) (ho : o.op = .store 45 (.tmp s) (.tmp t)) (hx : a.eval (.tmp s) = .pointer (some ⟨b, 0, none⟩)) (hy : a.eval (.tmp t) = .agg cs.toArray) (old : Array Value) (hold : old.size = 16) (hk : wpList Tryz.prog ops Q rest (a.put o.dst undef) W1) : wpList Tryz.prog ops Q (o :: rest) a (W0.alloc (.cells old 45)) := by
 rw [e1] at hk
 exact Hk.wpList_store_fresh hgd 45 (.tmp s) (.tmp t) ho b _ hx hy old 45 hb (by rw [info_k cs hcl]; simp) (by rw [hold]; simp [hcl]) (all_oneCell_toArray hc1) hk
theorem store_cd {cs : List Value} (hcl : cs.length = 2) (hc1 : ∀ v ∈ cs, v.oneCell' = true) (s t : Nat) (W0 W1 : World) (b : Nat) (hb : b = W0.heap.size) (e1 : W1 = W0.alloc (.cells cs.toArray 133)) (Q : Exit → Act → World → Prop) (ops : Array Oper) (rest : List Oper) (o : Oper) (a : Act) (hgd : o.guard = none) (ho : o.op = .store 133 (.tmp s) (.tmp t)) (hx : a.eval (.tmp s) = .pointer (some ⟨b, 0, none⟩)) (hy : a.eval (.tmp t) = .agg cs.toArray) (old : Array Value) (hold : old.size = 2) (hk : wpList Tryz.prog ops Q rest (a.put o.dst undef) W1) : wpList Tryz.prog ops Q (o :: rest) a (W0.alloc (.cells old 133)) := by
 rw [e1] at hk
 exact Hk.wpList_store_fresh hgd 133 (.tmp s) (.tmp t) ho b _ hx hy old 133 hb (by rw [info_cd cs hcl]; simp) (by rw [hold]; simp [hcl]) (all_oneCell_toArray hc1) hk
theorem encKl_one (k : Kl) : ∀ v ∈ encKl k, v.oneCell' = true := encCls_one _ _ rfl
theorem encCd_one (s : Int × Int) : ∀ v ∈ encCond s, v.oneCell' = true := fun v hv => by
 simp only [encCond, List.mem_cons, List.not_mem_nil, or_false] at hv
 rcases hv with rfl | rfl <;> rfl
theorem ClsK.rg {w : World} {b : Nat} {k : Cls} {st : Value} (h : ClsK w b k st) : w.rangeAt b 11 [.int .i64 k.num, .int .i64 k.den] := by
 intro j v hj
 match j, hj with
 | 0, hj => cases hj; exact h.q11
 | 1, hj => cases hj; exact h.q12
 | j + 2, hj => simp at hj
set_option maxHeartbeats 8000000 in
theorem clause_any (c : ConM) (i : Nat) (k : Kl) (W : World) (hc : ConAt W c) (hl : ConLim c) (hk : c.kls[i]? = some k) (hst : k.1.start.length ≤ 9223372036854775807) : Calls Tryz.prog 86 #[.agg (encCon c).toArray, .int .i64 (i : Int)] W fun e w' => e = .returned (.bool (clauseV c.con i k.1)) ∧ Below W.heap.size W w' := by
 obtain ⟨R, eR⟩ : ∃ R : Ending → World → Prop, R = fun e w' => e = .returned (.bool (clauseV c.con i k.1)) ∧ Below W.heap.size W w' := ⟨_, rfl⟩
 rw [← eR]
 have FIN : Hid (∀ w' v, v = clauseV c.con i k.1 → Below W.heap.size W w' → R (.returned (.bool v)) w') := Lib.hid fun w' v h hb => by rw [eR, h]; exact ⟨rfl, hb⟩
 clear eR
 have HV0 : Hid (clauseV c.con i k.1 = ((decide (0 ≤ k.1.act) && (decide (k.1.act < (c.acts.length : Int)) && (decide (1 ≤ k.1.after) && decide (k.1.after ≤ 400)))) && ((kindV c.holders.length c.acts k.1 && decide (k.1.start.length ≤ 8)) && (k.1.start.all (condV c.kls.length i) && (pauseV c.acts k.1 && worthV c.holders.length c.units k.1))))) := Lib.hid (by unfold clauseV ConM.con; simp only [List.length_map])
 obtain ⟨W1, cs, hx⟩ := boxC W c
 have hil : i < c.kls.length := (List.getElem?_eq_some_iff.1 hk).1
 have hii : (i : Int) < (c.kls.length : Int) := by omega
 have hi0 : (0 : Int) ≤ (i : Int) := by omega
 have hKA := hc.k.below hx.below (Nat.le_refl _)
 obtain ⟨kb, ko, eK⟩ := sl_addr hKA (by intro e; rw [e] at hil; simp at hil)
 rw [eK] at hKA
 obtain ⟨ds, eds⟩ : ∃ ds, ds = encKl k := ⟨_, rfl⟩
 have hdl : ds.length = 16 := by rw [eds]; rfl
 have HMk : Hid (W1.rangeAt kb (ko + i * 16) ds) := Lib.hid (by rw [eds]; exact sl_range hKA hk)
 have HIk := Lib.hid (info_k ds hdl)
 obtain ⟨W2, e2⟩ : ∃ W2, W2 = W1.alloc (.cells ds.toArray 45) := ⟨_, rfl⟩
 have hr2 : Row W2 W1.heap.size 45 ds := by rw [e2]; exact Row.new _ _ _
 have hb2 : Below W1.heap.size W1 W2 := by rw [e2]; exact (Below.refl _ _).alloc (Nat.le_refl _) _
 have HSk := Lib.hid (store_k hdl (by rw [eds]; exact encKl_one k) 5 12 W1 W2 _ rfl e2)
 have hbw := hx.below.trans (hb2.mono hx.below.size)
 have hr1 := hx.row.below hb2 hx.row.lt
 have HK : Hid (∀ w', Below W2.heap.size W2 w' → ConC w' W.heap.size c ∧ w'.rangeAt W.heap.size 0 cs ∧ ConAt w' c ∧ ClsK w' W1.heap.size k.1 (.slice k.2.1 k.1.start.length k.2.2) ∧ w'.rangeAt W1.heap.size 0 ds ∧ Below W.heap.size W w') := Lib.hid fun w' hb => by
  have h1 := hr1.below hb hr1.lt
  have h2 := hr2.below hb hr2.lt
  exact ⟨ConC.of (T := 27) (by rw [← hx.cs]; exact h1), h1.rg, hc.below (hbw.trans (hb.mono hbw.size)) (Nat.le_refl _), ClsK.ofKl (T := 45) (by rw [← eds]; exact h2), h2.rg, hbw.trans (hb.mono hbw.size)⟩
 obtain ⟨k0, k1, k2, k3, k4, k5, k6⟩ := ConC.of (T := 27) (b := W.heap.size) (w := W1) (c := c) (by rw [← hx.cs]; exact hx.row)
 obtain ⟨_, _, _, ⟨q0, q1, q2, q3, q4, q5, q6, q7, q8, q9, q10, q11, q12, q13, q14, q15⟩, _, _⟩ := HK.out W2 (Below.refl _ _)
 obtain ⟨⟨_, _, _, k3', _, _, _⟩, _⟩ := HK.out W2 (Below.refl _ _)
 have CK0 : ∀ w', Below W2.heap.size W2 w' → Calls Tryz.prog 123 #[.agg cs.toArray, .agg ds.toArray] w' fun e w'' => e = .returned (.bool (kindV c.holders.length c.acts k.1)) ∧ Below w'.heap.size w' w'' := fun w' hb => by
  rw [hx.cs, eds]; exact kind_any c k w' (HK.out w' hb).2.2.1
 have CN : Hid (∀ j w', Below W2.heap.size W2 w' → Calls Tryz.prog 124 #[.agg cs.toArray, .int .i64 j] w' fun e w'' => e = .returned (.bool (natB c.acts j)) ∧ Below w'.heap.size w' w'') := Lib.hid fun j w' hb => by
  rw [hx.cs]; exact nat_any c j w' (HK.out w' hb).2.2.1
 have CM : Hid (∀ j w', Calls Tryz.prog 127 #[.agg cs.toArray, .int .i64 j] w' fun e w'' => e = .returned (.bool (movB c.holders.length j)) ∧ Below w'.heap.size w' w'') := Lib.hid fun j w' => by
  rw [hx.cs]; exact mov_any c j w'
 have HSTA : Hid (∀ w', Below W2.heap.size W2 w' → SL w' 2 encCond k.2.1 k.1.start) := Lib.hid fun w' hb => (HK.out w' hb).2.2.1.st k (List.mem_of_getElem? hk)
 have E1 := Lib.hid hx.e
 have HB2 := Lib.hid hbw
 have HI := Lib.hid (info_co cs (by rw [hx.cs]; rfl))
 have CK := Lib.hid CK0
 have HLM := Lib.hid hl
 have HSL := Lib.hid hst
 rw [eK] at k4
 rw [← hx.cs]
 clear hx hKA eds hdl e2 hr2 hb2 hbw hr1 k0 k1 k2 k3 k5 k6 q0 q1 q3 q4 q6 q7 q8 q9 q10 q11 q12 q13 q14 q15 CK0 hl hst
 by_cases h1 : 0 ≤ k.1.act
 rotate_left
 ·have d1 : decide (0 ≤ k.1.act) = false := decide_eq_false h1
  have HF := Lib.hid (FIN.out W2 false (by rw [HV0.out]; simp [d1]) HB2.out)
  clear FIN HV0
  go_enter Tryz.func86, Tryz.ntmps86
  go_wp2_with (first
   | (simp only [E1.out])
   | (refine at_load (.tmp 11) ?_; refine wpList_load_mid rfl 45 (.tmp 11) rfl kb (ko + i * 16) rfl ds _ HMk.out Tryz.underlying45 rfl HIk.out ?_)
   | (refine at_store (.tmp 5) ?_; refine HSk.out _ _ _ _ _ rfl rfl rfl rfl _ (by simp) ?_; simp only [Act.put, Pt1, Pt2, Pt3]))
  exact HF.out
 have d1 : decide (0 ≤ k.1.act) = true := decide_eq_true h1
 by_cases h2 : k.1.act < (c.acts.length : Int)
 rotate_left
 ·have d2 : decide (k.1.act < (c.acts.length : Int)) = false := decide_eq_false h2
  have HF := Lib.hid (FIN.out W2 false (by rw [HV0.out]; simp [d2]) HB2.out)
  clear FIN HV0
  go_enter Tryz.func86, Tryz.ntmps86
  go_wp2_with (first
   | (simp only [E1.out])
   | (refine at_load (.tmp 11) ?_; refine wpList_load_mid rfl 45 (.tmp 11) rfl kb (ko + i * 16) rfl ds _ HMk.out Tryz.underlying45 rfl HIk.out ?_)
   | (refine at_store (.tmp 5) ?_; refine HSk.out _ _ _ _ _ rfl rfl rfl rfl _ (by simp) ?_; simp only [Act.put, Pt1, Pt2, Pt3]))
  exact HF.out
 have d2 : decide (k.1.act < (c.acts.length : Int)) = true := decide_eq_true h2
 by_cases h3 : 1 ≤ k.1.after
 rotate_left
 ·have d3 : decide (1 ≤ k.1.after) = false := decide_eq_false h3
  have HF := Lib.hid (FIN.out W2 false (by rw [HV0.out]; simp [d3]) HB2.out)
  clear FIN HV0
  go_enter Tryz.func86, Tryz.ntmps86
  go_wp2_with (first
   | (simp only [E1.out])
   | (refine at_load (.tmp 11) ?_; refine wpList_load_mid rfl 45 (.tmp 11) rfl kb (ko + i * 16) rfl ds _ HMk.out Tryz.underlying45 rfl HIk.out ?_)
   | (refine at_store (.tmp 5) ?_; refine HSk.out _ _ _ _ _ rfl rfl rfl rfl _ (by simp) ?_; simp only [Act.put, Pt1, Pt2, Pt3]))
  exact HF.out
 have d3 : decide (1 ≤ k.1.after) = true := decide_eq_true h3
 by_cases h4 : k.1.after ≤ 400
 rotate_left
 ·have d4 : decide (k.1.after ≤ 400) = false := decide_eq_false h4
  have HF := Lib.hid (FIN.out W2 false (by rw [HV0.out]; simp [d4]) HB2.out)
  clear FIN HV0
  go_enter Tryz.func86, Tryz.ntmps86
  go_wp2_with (first
   | (simp only [E1.out])
   | (refine at_load (.tmp 11) ?_; refine wpList_load_mid rfl 45 (.tmp 11) rfl kb (ko + i * 16) rfl ds _ HMk.out Tryz.underlying45 rfl HIk.out ?_)
   | (refine at_store (.tmp 5) ?_; refine HSk.out _ _ _ _ _ rfl rfl rfl rfl _ (by simp) ?_; simp only [Act.put, Pt1, Pt2, Pt3]))
  exact HF.out
 have d4 : decide (k.1.after ≤ 400) = true := decide_eq_true h4
 have HMK2 := Lib.hid (HK.out W2 (Below.refl _ _)).2.1
 have HMD2 := Lib.hid (HK.out W2 (Below.refl _ _)).2.2.2.2.1
 have CK2 := Lib.hid (CK.out W2 (Below.refl _ _))
 obtain ⟨KB, eKB⟩ : ∃ KB, KB = kindV c.holders.length c.acts k.1 := ⟨_, rfl⟩
 rw [← eKB] at CK2
 have HV1 : Hid (clauseV c.con i k.1 = ((KB && decide (k.1.start.length ≤ 8)) && (k.1.start.all (condV c.kls.length i) && (pauseV c.acts k.1 && worthV c.holders.length c.units k.1)))) := Lib.hid (by rw [HV0.out, d1, d2, d3, d4, eKB]; rfl)
 clear HV0 d1 d2 d3 d4 eKB CK
 go_enter Tryz.func86, Tryz.ntmps86
 go_wp2_with (first
  | (simp only [E1.out])
  | (refine at_load (.tmp 11) ?_; refine wpList_load_mid rfl 45 (.tmp 11) rfl kb (ko + i * 16) rfl ds _ HMk.out Tryz.underlying45 rfl HIk.out ?_)
  | (refine at_store (.tmp 5) ?_; refine HSk.out _ _ _ _ _ rfl rfl rfl rfl _ (by simp) ?_; simp only [Act.put, Pt1, Pt2, Pt3])
  | (refine at_load (.tmp 2) ?_; refine wpList_load_mid rfl 27 (.tmp 2) rfl W.heap.size 0 rfl cs _ HMK2.out Tryz.underlying27 rfl HI.out ?_)
  | (refine at_load (.tmp 5) ?_; refine wpList_load_mid rfl 45 (.tmp 5) rfl W1.heap.size 0 rfl ds _ HMD2.out Tryz.underlying45 rfl HIk.out ?_))
 refine CK2.out.mono ?_
 rintro e w3 ⟨rfl, hb3⟩
 have HB3 := Lib.hid hb3
 obtain ⟨_, _, _, ⟨q0, q1, q2, q3, q4, q5, q6, q7, q8, q9, q10, q11, q12, q13, q14, q15⟩, _, _⟩ := HK.out w3 hb3
 clear hb3 CK2 HMK2 HMD2 HSk HMk k3' k4 q0 q1 q2 q3 q5 q6 q7 q8 q9 q10 q11 q12 q13 q14 q15 h1 h2 h3 h4
 cases KB with
 | false =>
  have HF := Lib.hid (FIN.out w3 false (by rw [HV1.out]; rfl) (HK.out w3 HB3.out).2.2.2.2.2)
  clear FIN HV1
  go_wp2_with fail
  exact HF.out
 | true =>
 by_cases h5 : k.1.start.length ≤ 8
 rotate_left
 ·have d5 : decide ((8 : Int) < (k.1.start.length : Int)) = true := decide_eq_true (by omega)
  have HF := Lib.hid (FIN.out w3 false (by rw [HV1.out, decide_eq_false h5]; rfl) (HK.out w3 HB3.out).2.2.2.2.2)
  clear FIN HV1
  go_wp2_with fail
  exact HF.out
 have d5 : decide ((8 : Int) < (k.1.start.length : Int)) = false := decide_eq_false (by omega)
 have h5i : ¬ (8 : Int) < (k.1.start.length : Int) := by omega
 have HV2 : Hid (clauseV c.con i k.1 = (k.1.start.all (condV c.kls.length i) && (pauseV c.acts k.1 && worthV c.holders.length c.units k.1))) := Lib.hid (by rw [HV1.out, decide_eq_true h5]; rfl)
 clear HV1
 go_wp2_with fail
 clear q4
 go_loopw [47] (fun v wr => ∃ j : Nat, v = .int .i64 (j : Int) ∧ j ≤ k.1.start.length ∧ Hid ((k.1.start.take j).all (condV c.kls.length i) = true) ∧ Below W2.heap.size W2 wr) (fun v _ => (k.1.start.length : Int).toNat - (RowKit.intOf v).toNat)
 case atStart => exact ⟨0, rfl, Nat.zero_le _, Lib.hid rfl, HB3.out⟩
 case round =>
  obtain ⟨j, rfl, hj, hal, hbw⟩ := hrel
  have hjb : (j : Int) ≤ 8 := by omega
  rcases Nat.lt_or_eq_of_le hj with hjl | hjl
  ·have hji : (j : Int) < (k.1.start.length : Int) := by omega
   obtain ⟨s, es'⟩ : ∃ x, k.1.start[j]? = some x := ⟨_, List.getElem?_eq_getElem hjl⟩
   have hS := HSTA.out wr hbw
   obtain ⟨sb, so, eS⟩ := sl_addr hS (by intro e; rw [e] at hjl; simp at hjl)
   rw [eS] at hS ⊢
   obtain ⟨es, ees⟩ : ∃ es, es = encCond s := ⟨_, rfl⟩
   have hel : es.length = 2 := by rw [ees]; rfl
   have HMs : Hid (wr.rangeAt sb (so + j * 2) es) := Lib.hid (by rw [ees]; exact sl_range hS es')
   have HIs := Lib.hid (info_cd es hel)
   obtain ⟨Wk, ek⟩ : ∃ Wk, Wk = wr.alloc (.cells es.toArray 133) := ⟨_, rfl⟩
   have hrk : Row Wk wr.heap.size 133 es := by rw [ek]; exact Row.new _ _ _
   have hbk : Below wr.heap.size wr Wk := by rw [ek]; exact (Below.refl _ _).alloc (Nat.le_refl _) _
   have HSs := Lib.hid (store_cd hel (by rw [ees]; exact encCd_one s) 7 50 wr Wk _ rfl ek)
   have HBk := Lib.hid (hbw.trans (hbk.mono hbw.size))
   have s0 := hrk.at (show es[0]? = some (.int .i64 s.1) by rw [ees]; rfl)
   have s1 := hrk.at (show es[1]? = some (.int .i64 s.2) by rw [ees]; rfl)
   obtain ⟨⟨_, _, _, _, k4, _, _⟩, _⟩ := HK.out Wk HBk.out
   have HCV : Hid (condV c.kls.length i s = ((decide (0 ≤ s.1) && decide (s.1 < (c.kls.length : Int))) && (!(s.1 == (i : Int)) && (decide (1 ≤ s.2) && decide (s.2 ≤ 4))))) := Lib.hid rfl
   have ES := Lib.hid es'
   clear ees hel ek hrk hbk es' hS eS hbw hj
   by_cases c1 : 0 ≤ s.1
   rotate_left
   ·have x1 : decide (0 ≤ s.1) = false := decide_eq_false c1
    have x1' : decide (s.1 < 0) = true := decide_eq_true (by omega)
    have HF := Lib.hid (FIN.out Wk false (by rw [HV2.out, all_less ES.out (by rw [HCV.out]; simp [x1])]; rfl) (HK.out Wk HBk.out).2.2.2.2.2)
    clear FIN HV2
    go_wp2_with (first
     | (refine at_load (.tmp 49) ?_; refine wpList_load_mid rfl 133 (.tmp 49) rfl sb (so + j * 2) rfl es _ HMs.out Tryz.underlying133 rfl HIs.out ?_)
     | (refine at_store (.tmp 7) ?_; refine HSs.out _ _ _ _ _ rfl rfl rfl rfl _ (by simp) ?_; simp only [Act.put, Pt1, Pt2, Pt3]))
    exact HF.out
   have x1 : decide (0 ≤ s.1) = true := decide_eq_true c1
   have x1' : decide (s.1 < 0) = false := decide_eq_false (by omega)
   by_cases c2 : s.1 < (c.kls.length : Int)
   rotate_left
   ·have x2 : decide (s.1 < (c.kls.length : Int)) = false := decide_eq_false c2
    have x2' : decide ((c.kls.length : Int) ≤ s.1) = true := decide_eq_true (by omega)
    have HF := Lib.hid (FIN.out Wk false (by rw [HV2.out, all_less ES.out (by rw [HCV.out]; simp [x2])]; rfl) (HK.out Wk HBk.out).2.2.2.2.2)
    clear FIN HV2
    go_wp2_with (first
     | (refine at_load (.tmp 49) ?_; refine wpList_load_mid rfl 133 (.tmp 49) rfl sb (so + j * 2) rfl es _ HMs.out Tryz.underlying133 rfl HIs.out ?_)
     | (refine at_store (.tmp 7) ?_; refine HSs.out _ _ _ _ _ rfl rfl rfl rfl _ (by simp) ?_; simp only [Act.put, Pt1, Pt2, Pt3]))
    exact HF.out
   have x2 : decide (s.1 < (c.kls.length : Int)) = true := decide_eq_true c2
   have x2' : decide ((c.kls.length : Int) ≤ s.1) = false := decide_eq_false (by omega)
   by_cases c3 : s.1 = (i : Int)
   ·have x3 : (s.1 == (i : Int)) = true := by simpa using c3
    have HF := Lib.hid (FIN.out Wk false (by rw [HV2.out, all_less ES.out (by rw [HCV.out, x3]; simp)]; rfl) (HK.out Wk HBk.out).2.2.2.2.2)
    clear FIN HV2 c3
    go_wp2_with (first
     | (refine at_load (.tmp 49) ?_; refine wpList_load_mid rfl 133 (.tmp 49) rfl sb (so + j * 2) rfl es _ HMs.out Tryz.underlying133 rfl HIs.out ?_)
     | (refine at_store (.tmp 7) ?_; refine HSs.out _ _ _ _ _ rfl rfl rfl rfl _ (by simp) ?_; simp only [Act.put, Pt1, Pt2, Pt3]))
    exact HF.out
   have x3 : (s.1 == (i : Int)) = false := by simpa using c3
   by_cases c4 : 1 ≤ s.2
   rotate_left
   ·have x4 : decide (1 ≤ s.2) = false := decide_eq_false c4
    have x4' : decide (s.2 < 1) = true := decide_eq_true (by omega)
    have HF := Lib.hid (FIN.out Wk false (by rw [HV2.out, all_less ES.out (by rw [HCV.out]; simp [x4])]; rfl) (HK.out Wk HBk.out).2.2.2.2.2)
    clear FIN HV2
    go_wp2_with (first
     | (refine at_load (.tmp 49) ?_; refine wpList_load_mid rfl 133 (.tmp 49) rfl sb (so + j * 2) rfl es _ HMs.out Tryz.underlying133 rfl HIs.out ?_)
     | (refine at_store (.tmp 7) ?_; refine HSs.out _ _ _ _ _ rfl rfl rfl rfl _ (by simp) ?_; simp only [Act.put, Pt1, Pt2, Pt3]))
    exact HF.out
   have x4 : decide (1 ≤ s.2) = true := decide_eq_true c4
   have x4' : decide (s.2 < 1) = false := decide_eq_false (by omega)
   by_cases c5 : s.2 ≤ 4
   rotate_left
   ·have x5 : decide (s.2 ≤ 4) = false := decide_eq_false c5
    have x5' : decide (4 < s.2) = true := decide_eq_true (by omega)
    have HF := Lib.hid (FIN.out Wk false (by rw [HV2.out, all_less ES.out (by rw [HCV.out]; simp [x5])]; rfl) (HK.out Wk HBk.out).2.2.2.2.2)
    clear FIN HV2
    go_wp2_with (first
     | (refine at_load (.tmp 49) ?_; refine wpList_load_mid rfl 133 (.tmp 49) rfl sb (so + j * 2) rfl es _ HMs.out Tryz.underlying133 rfl HIs.out ?_)
     | (refine at_store (.tmp 7) ?_; refine HSs.out _ _ _ _ _ rfl rfl rfl rfl _ (by simp) ?_; simp only [Act.put, Pt1, Pt2, Pt3]))
    exact HF.out
   have x5 : decide (s.2 ≤ 4) = true := decide_eq_true c5
   have x5' : decide (4 < s.2) = false := decide_eq_false (by omega)
   have HNX : Hid ((k.1.start.take (j + 1)).all (condV c.kls.length i) = true) := Lib.hid (all_more ES.out hal.out (by rw [HCV.out, x1, x2, x3, x4, x5]; rfl))
   clear c3 HCV
   go_wp2_with (first
    | (refine at_load (.tmp 49) ?_; refine wpList_load_mid rfl 133 (.tmp 49) rfl sb (so + j * 2) rfl es _ HMs.out Tryz.underlying133 rfl HIs.out ?_)
    | (refine at_store (.tmp 7) ?_; refine HSs.out _ _ _ _ _ rfl rfl rfl rfl _ (by simp) ?_; simp only [Act.put, Pt1, Pt2, Pt3]))
   go_roundw
   case rel => exact ⟨j + 1, rfl, hjl, HNX, HBk.out⟩
   case measure => simp [RowKit.intOf]; omega
  ·have hji : ¬ (j : Int) < (k.1.start.length : Int) := by omega
   have HV3 : Hid (clauseV c.con i k.1 = (pauseV c.acts k.1 && worthV c.holders.length c.units k.1)) := Lib.hid (by
    have := hal.out
    rw [List.take_of_length_le (by omega)] at this
    rw [HV2.out, this]; rfl)
   have HB4 := Lib.hid hbw
   obtain ⟨_, _, _, ⟨q0, q1, q2, q3, q4, q5, q6, q7, q8, q9, q10, q11, q12, q13, q14, q15⟩, _, _⟩ := HK.out wr hbw
   clear HV2 hal hbw hj hjl HB3 q0 q1 q2 q3 q4 q5 q6 q7 q8 q11 q14 q15
   have HPV0 : Hid (pauseV c.acts k.1 = (if (k.1.pause != -1) || (k.1.resume != -1) then !(k.1.pause == k.1.resume) && (natB c.acts k.1.pause && natB c.acts k.1.resume) else true)) := Lib.hid rfl
   clear q12 q13
   by_cases p1 : k.1.pause = -1
   ·have m1 : (k.1.pause == -1) = true := by simpa using p1
    have m1n : (k.1.pause != -1) = false := by simpa using p1
    by_cases p2 : k.1.resume = -1
    ·have m2 : (k.1.resume == -1) = true := by simpa using p2
     have m2n : (k.1.resume != -1) = false := by simpa using p2
     have HVe : Hid (clauseV c.con i k.1 = worthV c.holders.length c.units k.1) := Lib.hid (by rw [HV3.out, HPV0.out, m1n, m2n]; rfl)
     have HBl := Lib.hid HB4.out
     clear p1 p2 HV3 HPV0 HB4
     generalize wr = wl at *
     obtain ⟨⟨k0, k1, k2, k3, k4, k5, k6⟩, _, hat, ⟨q0, q1, q2, q3, q4, q5, q6, q7, q8, q9, q10, q11, q12, q13, q14, q15⟩, _, hbW⟩ := HK.out wl HBl.out
     obtain ⟨fs, efs⟩ : ∃ fs : List Value, fs = [.int .i64 k.1.num, .int .i64 k.1.den] := ⟨_, rfl⟩
     have HQ : Hid (∀ w', Below wl.heap.size wl w' → ClsK w' W1.heap.size k.1 (.slice k.2.1 k.1.start.length k.2.2)) := Lib.hid fun w' hb => (HK.out w' (HBl.out.trans (hb.mono HBl.out.size))).2.2.2.1
     have HF5 : Hid (∀ w', Below wl.heap.size wl w' → w'.rangeAt W1.heap.size 11 fs) := Lib.hid fun w' hb => by rw [efs]; exact (HQ.out w' hb).rg
     have HIF := Lib.hid (info_ra fs (by rw [efs]; rfl))
     have EFS : Hid (Value.agg fs.toArray = .agg [.int .i64 k.1.num, .int .i64 k.1.den].toArray) := Lib.hid (by rw [efs])
     have CPO := Lib.hid (fun w => pos_any k.1.num k.1.den w)
     rw [show (#[.int .i64 k.1.num, .int .i64 k.1.den] : Array Value) = fs.toArray by rw [efs]] at CPO
     have HW : Hid (∀ w' v, v = worthV c.holders.length c.units k.1 → Below wl.heap.size wl w' → R (.returned (.bool v)) w') := Lib.hid fun w' v h hb => FIN.out w' v (by rw [HVe.out]; exact h) (HK.out w' (HBl.out.trans (hb.mono HBl.out.size))).2.2.2.2.2
     have HVw : Hid (worthV c.holders.length c.units k.1 = (if k.1.unit == -1 then ratO k.1.num k.1.den && (k.1.to == -1) else ((k.1.kind == 1) || (k.1.kind == 2)) && (decide (0 ≤ k.1.unit) && (decide (k.1.unit < (c.units.length : Int)) && (moneyV c.units k.1.unit && (posB k.1.num k.1.den && movB c.holders.length k.1.to)))))) := Lib.hid rfl
     clear FIN HVe efs k0 k1 k3 k4 k5 k6 q1 q2 q3 q4 q5 q6 q7 q8 q9 q10 q11 q12 q15 hbW
     by_cases u1 : k.1.unit = -1
     ·have y1 : (k.1.unit == -1) = true := by simpa using u1
      obtain ⟨Z, eZ⟩ : ∃ Z, Z = ratO k.1.num k.1.den := ⟨_, rfl⟩
      have EZ := Lib.hid eZ
      have HVz : Hid (worthV c.holders.length c.units k.1 = (Z && (k.1.to == -1))) := Lib.hid (by rw [HVw.out, y1, eZ]; rfl)
      clear u1 HVw eZ
      cases Z with
      | false =>
       have HG : Hid (∀ w', Below wl.heap.size wl w' → R (.returned (.bool false)) w') := Lib.hid fun w' hb => HW.out w' false (by rw [HVz.out]; rfl) hb
       clear HW
       go_wp2_with fail
       refine Free.wp_region_free 9 [(2, .det (.agg #[.int .i64 0, .int .i64 1]))] (fun w' => Below wl.heap.size wl w') (by kernel_rfl) (by kernel_rfl) (Free.mono_det (fun j mk r hf => by simp only [Free.find] at hf; repeat' (first | cases hf | split at hf))) (Below.refl _ _).drew (fun _ _ h g => h.trans (Below.mono g h.size)) ?_
       simp only [List.take_succ_cons, List.take_zero]
       iterate 1 (apply Free.chain_still (by first|exact Free.wanted_of rfl rfl rfl|rfl) rfl; (intro w' hB hA; cases HQ.out w' hB; clear hA; go_light; go_simp <;> rfl); (try simp only [Act.put, Pt1, Pt2, Pt3]))
       apply Free.chain_still (by first|exact Free.wanted_of rfl rfl rfl|rfl) rfl
       ·intro w' hB hA
        exact Hk.exec_mid 43 (.tmp 109) rfl W1.heap.size 11 rfl fs _ (HF5.out _ hB) Tryz.underlying43 rfl HIF.out
       simp only [Act.put, Pt1, Pt2, Pt3]
       apply Free.chain_det (by first|exact Free.wanted_of rfl rfl rfl|rfl) rfl
       ·intro w' hB hA
        refine Free.opRun_call (f := 125) (args := #[]) (by clear hB hA; go_simp <;> rfl) ?_
        refine (none_any _).mono ?_
        rintro e w3 ⟨rfl, hb3⟩
        exact ⟨_, rfl, hb3, rfl⟩
       simp only [Act.put, Pt1, Pt2, Pt3]
       apply Free.chain_still (by first|exact Free.wanted_of rfl rfl rfl|rfl) rfl
       ·intro w' hB hA
        exact exec_ratO rfl EFS.out rfl EZ.out
       simp only [Act.put, Pt1, Pt2, Pt3]
       iterate 1 (apply Free.chain_still (by first|exact Free.wanted_of rfl rfl rfl|rfl) rfl; (intro w' hB hA; cases HQ.out w' hB; clear hA; go_light; go_simp <;> rfl); (try simp only [Act.put, Pt1, Pt2, Pt3]))
       iterate 3 (apply Free.chain_skip (by first | exact unwanted2 rfl rfl rfl rfl | exact unwanted3 rfl rfl rfl); simp only [Act.put, Pt1, Pt2, Pt3])
       iterate 1 (apply Free.chain_still (by first|exact Free.wanted_of rfl rfl rfl|rfl) rfl; (intro w' hB hA; cases HQ.out w' hB; clear hA; go_light; go_simp <;> rfl); (try simp only [Act.put, Pt1, Pt2, Pt3]))
       apply Free.chain_nil
       intro w6 hw6 _ _
       simp only [List.drop_succ_cons, List.drop_zero]
       have HF2 := Lib.hid (HG.out w6 hw6)
       clear hw6 HG
       go_wp2_with fail
       exact HF2.out
      | true =>
       have HG : Hid (∀ w', Below wl.heap.size wl w' → R (.returned (.bool (k.1.to == -1))) w') := Lib.hid fun w' hb => HW.out w' (k.1.to == -1) (by rw [HVz.out]; rfl) hb
       clear HW
       go_wp2_with fail
       refine Free.wp_region_free 9 [(2, .det (.agg #[.int .i64 0, .int .i64 1]))] (fun w' => Below wl.heap.size wl w') (by kernel_rfl) (by kernel_rfl) (Free.mono_det (fun j mk r hf => by simp only [Free.find] at hf; repeat' (first | cases hf | split at hf))) (Below.refl _ _).drew (fun _ _ h g => h.trans (Below.mono g h.size)) ?_
       simp only [List.take_succ_cons, List.take_zero]
       iterate 1 (apply Free.chain_still (by first|exact Free.wanted_of rfl rfl rfl|rfl) rfl; (intro w' hB hA; cases HQ.out w' hB; clear hA; go_light; go_simp <;> rfl); (try simp only [Act.put, Pt1, Pt2, Pt3]))
       apply Free.chain_still (by first|exact Free.wanted_of rfl rfl rfl|rfl) rfl
       ·intro w' hB hA
        exact Hk.exec_mid 43 (.tmp 109) rfl W1.heap.size 11 rfl fs _ (HF5.out _ hB) Tryz.underlying43 rfl HIF.out
       simp only [Act.put, Pt1, Pt2, Pt3]
       apply Free.chain_det (by first|exact Free.wanted_of rfl rfl rfl|rfl) rfl
       ·intro w' hB hA
        refine Free.opRun_call (f := 125) (args := #[]) (by clear hB hA; go_simp <;> rfl) ?_
        refine (none_any _).mono ?_
        rintro e w3 ⟨rfl, hb3⟩
        exact ⟨_, rfl, hb3, rfl⟩
       simp only [Act.put, Pt1, Pt2, Pt3]
       apply Free.chain_still (by first|exact Free.wanted_of rfl rfl rfl|rfl) rfl
       ·intro w' hB hA
        exact exec_ratO rfl EFS.out rfl EZ.out
       simp only [Act.put, Pt1, Pt2, Pt3]
       iterate 5 (apply Free.chain_still (by first|exact Free.wanted_of rfl rfl rfl|rfl) rfl; (intro w' hB hA; cases HQ.out w' hB; clear hA; go_light; go_simp <;> rfl); (try simp only [Act.put, Pt1, Pt2, Pt3]))
       apply Free.chain_nil
       intro w6 hw6 _ _
       simp only [List.drop_succ_cons, List.drop_zero]
       have HF2 := Lib.hid (HG.out w6 hw6)
       clear hw6 HG
       go_wp2_with fail
       exact HF2.out
     have y1 : (k.1.unit == -1) = false := by simpa using u1
     have y1n : (k.1.unit != -1) = true := by simpa using u1
     clear u1
     by_cases g1 : k.1.kind = 1
     ·have z1 : (k.1.kind == 1) = true := by simpa using g1
      clear g1
      by_cases u2 : 0 ≤ k.1.unit
      rotate_left
      ·have y2 : decide (0 ≤ k.1.unit) = false := decide_eq_false u2
       have HF2 := Lib.hid (HW.out wl false (by rw [HVw.out]; simp [z1, y1, y2]) (Below.refl _ _))
       clear HW
       go_wp2_with fail
       exact HF2.out
      have y2 : decide (0 ≤ k.1.unit) = true := decide_eq_true u2
      by_cases u3 : k.1.unit < (c.units.length : Int)
      rotate_left
      ·have y3 : decide (k.1.unit < (c.units.length : Int)) = false := decide_eq_false u3
       have HF2 := Lib.hid (HW.out wl false (by rw [HVw.out]; simp [z1, y1, y3]) (Below.refl _ _))
       clear HW
       go_wp2_with fail
       exact HF2.out
      have y3 : decide (k.1.unit < (c.units.length : Int)) = true := decide_eq_true u3
      obtain ⟨n, hn⟩ : ∃ n : Nat, k.1.unit = (n : Int) := ⟨k.1.unit.toNat, by omega⟩
      obtain ⟨un, eun⟩ : ∃ x, c.units[n]? = some x := ⟨_, List.getElem?_eq_getElem (by omega)⟩
      have hU := hat.u
      obtain ⟨ub, uo, eU⟩ := sl_addr hU (by intro e; rw [e] at eun; simp at eun)
      rw [eU] at hU k2
      have hni : (n : Int) < (c.units.length : Int) := by omega
      have hn0 : (0 : Int) ≤ (n : Int) := by omega
      have cu : wl.cell? ⟨ub, uo + n * 5 + 1, none⟩ = some (.int .i64 un.kind) := (sl_range hU eun) 1 _ rfl
      have HMO : Hid (moneyV c.units k.1.unit = (un.kind == 2)) := Lib.hid (by unfold moneyV; rw [hn, Int.toNat_natCast, eun])
      rw [hn] at q13 y2 y3 y1 y1n
      have HVn : Hid (worthV c.holders.length c.units k.1 = ((un.kind == 2) && (posB k.1.num k.1.den && movB c.holders.length k.1.to))) := Lib.hid (by rw [HVw.out, HMO.out, hn, y1, y2, y3, z1]; simp)
      clear u2 u3 hn hU eU eun HMO
      by_cases u4 : un.kind = 2
      rotate_left
      ·have y4 : (un.kind == 2) = false := by simpa using u4
       have HF2 := Lib.hid (HW.out wl false (by rw [HVn.out]; simp [y4]) (Below.refl _ _))
       clear HW u4
       go_wp2_with fail
       exact HF2.out
      have y4 : (un.kind == 2) = true := by simpa using u4
      obtain ⟨PB, ePB⟩ : ∃ PB, PB = posB k.1.num k.1.den := ⟨_, rfl⟩
      have CPl := Lib.hid (CPO.out wl)
      rw [← ePB] at CPl HVn
      have HMR := Lib.hid (HF5.out wl (Below.refl _ _))
      clear u4 ePB
      go_wp2_with (refine at_load (.tmp 150) ?_; refine Row.still (by first|exact Free.wanted_of rfl rfl rfl|rfl) (Hk.exec_mid 43 (.tmp 150) rfl W1.heap.size 11 rfl fs _ HMR.out Tryz.underlying43 rfl HIF.out) ?_; simp only [Act.put, Pt1, Pt2, Pt3])
      refine CPl.out.mono ?_
      rintro e w7 ⟨rfl, hb7⟩
      have HB7 := Lib.hid hb7
      clear hb7 CPl HMR
      cases PB with
      | false =>
       have HF2 := Lib.hid (HW.out w7 false (by rw [HVn.out, y4]; rfl) HB7.out)
       clear HW
       go_wp2_with fail
       exact HF2.out
      | true =>
       have hb27 := HBl.out.trans (HB7.out.mono HBl.out.size)
       obtain ⟨_, hmc, _, ⟨q0, q1, q2, q3, q4, q5, q6, q7, q8, q9, q10, q11, q12, q13, q14, q15⟩, _, _⟩ := HK.out w7 hb27
       have HMC := Lib.hid hmc
       obtain ⟨MB, eMB⟩ : ∃ MB, MB = movB c.holders.length k.1.to := ⟨_, rfl⟩
       have CM7 := Lib.hid (CM.out k.1.to w7)
       rw [← eMB] at CM7 HVn
       clear hmc eMB hb27
       go_wp2_with (refine at_load (.tmp 2) ?_; refine Row.still (by first|exact Free.wanted_of rfl rfl rfl|rfl) (Hk.exec_mid 27 (.tmp 2) rfl W.heap.size 0 rfl cs _ HMC.out Tryz.underlying27 rfl HI.out) ?_; simp only [Act.put, Pt1, Pt2, Pt3])
       refine CM7.out.mono ?_
       rintro e w8 ⟨rfl, hb8⟩
       have HF2 := Lib.hid (HW.out w8 MB (by rw [HVn.out, y4]; rfl) (HB7.out.trans (hb8.mono HB7.out.size)))
       clear HW hb8 CM7
       go_wp2_with fail
       exact HF2.out
     have z1 : (k.1.kind == 1) = false := by simpa using g1
     by_cases g2 : k.1.kind = 2
     ·have z2 : (k.1.kind == 2) = true := by simpa using g2
      clear g1 g2
      by_cases u2 : 0 ≤ k.1.unit
      rotate_left
      ·have y2 : decide (0 ≤ k.1.unit) = false := decide_eq_false u2
       have HF2 := Lib.hid (HW.out wl false (by rw [HVw.out]; simp [z1, z2, y1, y2]) (Below.refl _ _))
       clear HW
       go_wp2_with fail
       exact HF2.out
      have y2 : decide (0 ≤ k.1.unit) = true := decide_eq_true u2
      by_cases u3 : k.1.unit < (c.units.length : Int)
      rotate_left
      ·have y3 : decide (k.1.unit < (c.units.length : Int)) = false := decide_eq_false u3
       have HF2 := Lib.hid (HW.out wl false (by rw [HVw.out]; simp [z1, z2, y1, y3]) (Below.refl _ _))
       clear HW
       go_wp2_with fail
       exact HF2.out
      have y3 : decide (k.1.unit < (c.units.length : Int)) = true := decide_eq_true u3
      obtain ⟨n, hn⟩ : ∃ n : Nat, k.1.unit = (n : Int) := ⟨k.1.unit.toNat, by omega⟩
      obtain ⟨un, eun⟩ : ∃ x, c.units[n]? = some x := ⟨_, List.getElem?_eq_getElem (by omega)⟩
      have hU := hat.u
      obtain ⟨ub, uo, eU⟩ := sl_addr hU (by intro e; rw [e] at eun; simp at eun)
      rw [eU] at hU k2
      have hni : (n : Int) < (c.units.length : Int) := by omega
      have hn0 : (0 : Int) ≤ (n : Int) := by omega
      have cu : wl.cell? ⟨ub, uo + n * 5 + 1, none⟩ = some (.int .i64 un.kind) := (sl_range hU eun) 1 _ rfl
      have HMO : Hid (moneyV c.units k.1.unit = (un.kind == 2)) := Lib.hid (by unfold moneyV; rw [hn, Int.toNat_natCast, eun])
      rw [hn] at q13 y2 y3 y1 y1n
      have HVn : Hid (worthV c.holders.length c.units k.1 = ((un.kind == 2) && (posB k.1.num k.1.den && movB c.holders.length k.1.to))) := Lib.hid (by rw [HVw.out, HMO.out, hn, y1, y2, y3, z1, z2]; simp)
      clear u2 u3 hn hU eU eun HMO
      by_cases u4 : un.kind = 2
      rotate_left
      ·have y4 : (un.kind == 2) = false := by simpa using u4
       have HF2 := Lib.hid (HW.out wl false (by rw [HVn.out]; simp [y4]) (Below.refl _ _))
       clear HW u4
       go_wp2_with fail
       exact HF2.out
      have y4 : (un.kind == 2) = true := by simpa using u4
      obtain ⟨PB, ePB⟩ : ∃ PB, PB = posB k.1.num k.1.den := ⟨_, rfl⟩
      have CPl := Lib.hid (CPO.out wl)
      rw [← ePB] at CPl HVn
      have HMR := Lib.hid (HF5.out wl (Below.refl _ _))
      clear u4 ePB
      go_wp2_with (refine at_load (.tmp 150) ?_; refine Row.still (by first|exact Free.wanted_of rfl rfl rfl|rfl) (Hk.exec_mid 43 (.tmp 150) rfl W1.heap.size 11 rfl fs _ HMR.out Tryz.underlying43 rfl HIF.out) ?_; simp only [Act.put, Pt1, Pt2, Pt3])
      refine CPl.out.mono ?_
      rintro e w7 ⟨rfl, hb7⟩
      have HB7 := Lib.hid hb7
      clear hb7 CPl HMR
      cases PB with
      | false =>
       have HF2 := Lib.hid (HW.out w7 false (by rw [HVn.out, y4]; rfl) HB7.out)
       clear HW
       go_wp2_with fail
       exact HF2.out
      | true =>
       have hb27 := HBl.out.trans (HB7.out.mono HBl.out.size)
       obtain ⟨_, hmc, _, ⟨q0, q1, q2, q3, q4, q5, q6, q7, q8, q9, q10, q11, q12, q13, q14, q15⟩, _, _⟩ := HK.out w7 hb27
       have HMC := Lib.hid hmc
       obtain ⟨MB, eMB⟩ : ∃ MB, MB = movB c.holders.length k.1.to := ⟨_, rfl⟩
       have CM7 := Lib.hid (CM.out k.1.to w7)
       rw [← eMB] at CM7 HVn
       clear hmc eMB hb27
       go_wp2_with (refine at_load (.tmp 2) ?_; refine Row.still (by first|exact Free.wanted_of rfl rfl rfl|rfl) (Hk.exec_mid 27 (.tmp 2) rfl W.heap.size 0 rfl cs _ HMC.out Tryz.underlying27 rfl HI.out) ?_; simp only [Act.put, Pt1, Pt2, Pt3])
       refine CM7.out.mono ?_
       rintro e w8 ⟨rfl, hb8⟩
       have HF2 := Lib.hid (HW.out w8 MB (by rw [HVn.out, y4]; rfl) (HB7.out.trans (hb8.mono HB7.out.size)))
       clear HW hb8 CM7
       go_wp2_with fail
       exact HF2.out
     have z2 : (k.1.kind == 2) = false := by simpa using g2
     clear g1 g2
     have HF2 := Lib.hid (HW.out wl false (by rw [HVw.out]; simp [z1, z2, y1]) (Below.refl _ _))
     clear HW
     go_wp2_with fail
     exact HF2.out
    have m2 : (k.1.resume == -1) = false := by simpa using p2
    have m2n : (k.1.resume != -1) = true := by simpa using p2
    have HPV : Hid (pauseV c.acts k.1 = (!(k.1.pause == k.1.resume) && (natB c.acts k.1.pause && natB c.acts k.1.resume))) := Lib.hid (by rw [HPV0.out, m1n, m2n]; rfl)
    clear p1 p2 HPV0
    by_cases pr : k.1.pause = k.1.resume
    ·have b1 : (k.1.pause == k.1.resume) = true := by simpa using pr
     have HF2 := Lib.hid (FIN.out wr false (by rw [HV3.out, HPV.out, b1]; rfl) (HK.out wr HB4.out).2.2.2.2.2)
     clear FIN pr
     go_wp2_with fail
     exact HF2.out
    have b1 : (k.1.pause == k.1.resume) = false := by simpa using pr
    obtain ⟨P1, eP1⟩ : ∃ P1, P1 = natB c.acts k.1.pause := ⟨_, rfl⟩
    obtain ⟨P2, eP2⟩ : ∃ P2, P2 = natB c.acts k.1.resume := ⟨_, rfl⟩
    have HPW : Hid (pauseV c.acts k.1 = (P1 && P2)) := Lib.hid (by rw [HPV.out, b1, eP1, eP2]; rfl)
    have CN1 := Lib.hid (CN.out k.1.pause wr HB4.out)
    rw [← eP1] at CN1
    have HMC := Lib.hid (HK.out wr HB4.out).2.1
    clear pr HPV eP1
    go_wp2_with (refine at_load (.tmp 2) ?_; refine Row.still (by first|exact Free.wanted_of rfl rfl rfl|rfl) (Hk.exec_mid 27 (.tmp 2) rfl W.heap.size 0 rfl cs _ HMC.out Tryz.underlying27 rfl HI.out) ?_; simp only [Act.put, Pt1, Pt2, Pt3])
    refine CN1.out.mono ?_
    rintro e w5 ⟨rfl, hb5⟩
    have HB5 := Lib.hid (HB4.out.trans (hb5.mono HB4.out.size))
    clear hb5 CN1 HMC q9 q10
    cases P1 with
    | false =>
     have HF2 := Lib.hid (FIN.out w5 false (by rw [HV3.out, HPW.out]; rfl) (HK.out w5 HB5.out).2.2.2.2.2)
     clear FIN
     go_wp2_with fail
     exact HF2.out
    | true =>
    obtain ⟨_, hmc, _, ⟨q0, q1, q2, q3, q4, q5, q6, q7, q8, q9, q10, q11, q12, q13, q14, q15⟩, _, _⟩ := HK.out w5 HB5.out
    have HMC := Lib.hid hmc
    have CN2 := Lib.hid (CN.out k.1.resume w5 HB5.out)
    rw [← eP2] at CN2
    clear hmc eP2 q0 q1 q2 q3 q4 q5 q6 q7 q8 q11 q12 q13 q14 q15
    go_wp2_with (refine at_load (.tmp 2) ?_; refine Row.still (by first|exact Free.wanted_of rfl rfl rfl|rfl) (Hk.exec_mid 27 (.tmp 2) rfl W.heap.size 0 rfl cs _ HMC.out Tryz.underlying27 rfl HI.out) ?_; simp only [Act.put, Pt1, Pt2, Pt3])
    refine CN2.out.mono ?_
    rintro e wl ⟨rfl, hbl⟩
    have HBl := Lib.hid (HB5.out.trans (hbl.mono HB5.out.size))
    clear hbl CN2 HMC q9 q10
    cases P2 with
    | false =>
     have HF2 := Lib.hid (FIN.out wl false (by rw [HV3.out, HPW.out]; rfl) (HK.out wl HBl.out).2.2.2.2.2)
     clear FIN
     go_wp2_with fail
     exact HF2.out
    | true =>
    have HVe : Hid (clauseV c.con i k.1 = worthV c.holders.length c.units k.1) := Lib.hid (by rw [HV3.out, HPW.out]; rfl)
    clear HV3 HPW HB4 HB5
    obtain ⟨⟨k0, k1, k2, k3, k4, k5, k6⟩, _, hat, ⟨q0, q1, q2, q3, q4, q5, q6, q7, q8, q9, q10, q11, q12, q13, q14, q15⟩, _, hbW⟩ := HK.out wl HBl.out
    obtain ⟨fs, efs⟩ : ∃ fs : List Value, fs = [.int .i64 k.1.num, .int .i64 k.1.den] := ⟨_, rfl⟩
    have HQ : Hid (∀ w', Below wl.heap.size wl w' → ClsK w' W1.heap.size k.1 (.slice k.2.1 k.1.start.length k.2.2)) := Lib.hid fun w' hb => (HK.out w' (HBl.out.trans (hb.mono HBl.out.size))).2.2.2.1
    have HF5 : Hid (∀ w', Below wl.heap.size wl w' → w'.rangeAt W1.heap.size 11 fs) := Lib.hid fun w' hb => by rw [efs]; exact (HQ.out w' hb).rg
    have HIF := Lib.hid (info_ra fs (by rw [efs]; rfl))
    have EFS : Hid (Value.agg fs.toArray = .agg [.int .i64 k.1.num, .int .i64 k.1.den].toArray) := Lib.hid (by rw [efs])
    have CPO := Lib.hid (fun w => pos_any k.1.num k.1.den w)
    rw [show (#[.int .i64 k.1.num, .int .i64 k.1.den] : Array Value) = fs.toArray by rw [efs]] at CPO
    have HW : Hid (∀ w' v, v = worthV c.holders.length c.units k.1 → Below wl.heap.size wl w' → R (.returned (.bool v)) w') := Lib.hid fun w' v h hb => FIN.out w' v (by rw [HVe.out]; exact h) (HK.out w' (HBl.out.trans (hb.mono HBl.out.size))).2.2.2.2.2
    have HVw : Hid (worthV c.holders.length c.units k.1 = (if k.1.unit == -1 then ratO k.1.num k.1.den && (k.1.to == -1) else ((k.1.kind == 1) || (k.1.kind == 2)) && (decide (0 ≤ k.1.unit) && (decide (k.1.unit < (c.units.length : Int)) && (moneyV c.units k.1.unit && (posB k.1.num k.1.den && movB c.holders.length k.1.to)))))) := Lib.hid rfl
    clear FIN HVe efs k0 k1 k3 k4 k5 k6 q1 q2 q3 q4 q5 q6 q7 q8 q9 q10 q11 q12 q15 hbW
    by_cases u1 : k.1.unit = -1
    ·have y1 : (k.1.unit == -1) = true := by simpa using u1
     obtain ⟨Z, eZ⟩ : ∃ Z, Z = ratO k.1.num k.1.den := ⟨_, rfl⟩
     have EZ := Lib.hid eZ
     have HVz : Hid (worthV c.holders.length c.units k.1 = (Z && (k.1.to == -1))) := Lib.hid (by rw [HVw.out, y1, eZ]; rfl)
     clear u1 HVw eZ
     cases Z with
     | false =>
      have HG : Hid (∀ w', Below wl.heap.size wl w' → R (.returned (.bool false)) w') := Lib.hid fun w' hb => HW.out w' false (by rw [HVz.out]; rfl) hb
      clear HW
      go_wp2_with fail
      refine Free.wp_region_free 9 [(2, .det (.agg #[.int .i64 0, .int .i64 1]))] (fun w' => Below wl.heap.size wl w') (by kernel_rfl) (by kernel_rfl) (Free.mono_det (fun j mk r hf => by simp only [Free.find] at hf; repeat' (first | cases hf | split at hf))) (Below.refl _ _).drew (fun _ _ h g => h.trans (Below.mono g h.size)) ?_
      simp only [List.take_succ_cons, List.take_zero]
      iterate 1 (apply Free.chain_still (by first|exact Free.wanted_of rfl rfl rfl|rfl) rfl; (intro w' hB hA; cases HQ.out w' hB; clear hA; go_light; go_simp <;> rfl); (try simp only [Act.put, Pt1, Pt2, Pt3]))
      apply Free.chain_still (by first|exact Free.wanted_of rfl rfl rfl|rfl) rfl
      ·intro w' hB hA
       exact Hk.exec_mid 43 (.tmp 109) rfl W1.heap.size 11 rfl fs _ (HF5.out _ hB) Tryz.underlying43 rfl HIF.out
      simp only [Act.put, Pt1, Pt2, Pt3]
      apply Free.chain_det (by first|exact Free.wanted_of rfl rfl rfl|rfl) rfl
      ·intro w' hB hA
       refine Free.opRun_call (f := 125) (args := #[]) (by clear hB hA; go_simp <;> rfl) ?_
       refine (none_any _).mono ?_
       rintro e w3 ⟨rfl, hb3⟩
       exact ⟨_, rfl, hb3, rfl⟩
      simp only [Act.put, Pt1, Pt2, Pt3]
      apply Free.chain_still (by first|exact Free.wanted_of rfl rfl rfl|rfl) rfl
      ·intro w' hB hA
       exact exec_ratO rfl EFS.out rfl EZ.out
      simp only [Act.put, Pt1, Pt2, Pt3]
      iterate 1 (apply Free.chain_still (by first|exact Free.wanted_of rfl rfl rfl|rfl) rfl; (intro w' hB hA; cases HQ.out w' hB; clear hA; go_light; go_simp <;> rfl); (try simp only [Act.put, Pt1, Pt2, Pt3]))
      iterate 3 (apply Free.chain_skip (by first | exact unwanted2 rfl rfl rfl rfl | exact unwanted3 rfl rfl rfl); simp only [Act.put, Pt1, Pt2, Pt3])
      iterate 1 (apply Free.chain_still (by first|exact Free.wanted_of rfl rfl rfl|rfl) rfl; (intro w' hB hA; cases HQ.out w' hB; clear hA; go_light; go_simp <;> rfl); (try simp only [Act.put, Pt1, Pt2, Pt3]))
      apply Free.chain_nil
      intro w6 hw6 _ _
      simp only [List.drop_succ_cons, List.drop_zero]
      have HF2 := Lib.hid (HG.out w6 hw6)
      clear hw6 HG
      go_wp2_with fail
      exact HF2.out
     | true =>
      have HG : Hid (∀ w', Below wl.heap.size wl w' → R (.returned (.bool (k.1.to == -1))) w') := Lib.hid fun w' hb => HW.out w' (k.1.to == -1) (by rw [HVz.out]; rfl) hb
      clear HW
      go_wp2_with fail
      refine Free.wp_region_free 9 [(2, .det (.agg #[.int .i64 0, .int .i64 1]))] (fun w' => Below wl.heap.size wl w') (by kernel_rfl) (by kernel_rfl) (Free.mono_det (fun j mk r hf => by simp only [Free.find] at hf; repeat' (first | cases hf | split at hf))) (Below.refl _ _).drew (fun _ _ h g => h.trans (Below.mono g h.size)) ?_
      simp only [List.take_succ_cons, List.take_zero]
      iterate 1 (apply Free.chain_still (by first|exact Free.wanted_of rfl rfl rfl|rfl) rfl; (intro w' hB hA; cases HQ.out w' hB; clear hA; go_light; go_simp <;> rfl); (try simp only [Act.put, Pt1, Pt2, Pt3]))
      apply Free.chain_still (by first|exact Free.wanted_of rfl rfl rfl|rfl) rfl
      ·intro w' hB hA
       exact Hk.exec_mid 43 (.tmp 109) rfl W1.heap.size 11 rfl fs _ (HF5.out _ hB) Tryz.underlying43 rfl HIF.out
      simp only [Act.put, Pt1, Pt2, Pt3]
      apply Free.chain_det (by first|exact Free.wanted_of rfl rfl rfl|rfl) rfl
      ·intro w' hB hA
       refine Free.opRun_call (f := 125) (args := #[]) (by clear hB hA; go_simp <;> rfl) ?_
       refine (none_any _).mono ?_
       rintro e w3 ⟨rfl, hb3⟩
       exact ⟨_, rfl, hb3, rfl⟩
      simp only [Act.put, Pt1, Pt2, Pt3]
      apply Free.chain_still (by first|exact Free.wanted_of rfl rfl rfl|rfl) rfl
      ·intro w' hB hA
       exact exec_ratO rfl EFS.out rfl EZ.out
      simp only [Act.put, Pt1, Pt2, Pt3]
      iterate 5 (apply Free.chain_still (by first|exact Free.wanted_of rfl rfl rfl|rfl) rfl; (intro w' hB hA; cases HQ.out w' hB; clear hA; go_light; go_simp <;> rfl); (try simp only [Act.put, Pt1, Pt2, Pt3]))
      apply Free.chain_nil
      intro w6 hw6 _ _
      simp only [List.drop_succ_cons, List.drop_zero]
      have HF2 := Lib.hid (HG.out w6 hw6)
      clear hw6 HG
      go_wp2_with fail
      exact HF2.out
    have y1 : (k.1.unit == -1) = false := by simpa using u1
    have y1n : (k.1.unit != -1) = true := by simpa using u1
    clear u1
    by_cases g1 : k.1.kind = 1
    ·have z1 : (k.1.kind == 1) = true := by simpa using g1
     clear g1
     by_cases u2 : 0 ≤ k.1.unit
     rotate_left
     ·have y2 : decide (0 ≤ k.1.unit) = false := decide_eq_false u2
      have HF2 := Lib.hid (HW.out wl false (by rw [HVw.out]; simp [z1, y1, y2]) (Below.refl _ _))
      clear HW
      go_wp2_with fail
      exact HF2.out
     have y2 : decide (0 ≤ k.1.unit) = true := decide_eq_true u2
     by_cases u3 : k.1.unit < (c.units.length : Int)
     rotate_left
     ·have y3 : decide (k.1.unit < (c.units.length : Int)) = false := decide_eq_false u3
      have HF2 := Lib.hid (HW.out wl false (by rw [HVw.out]; simp [z1, y1, y3]) (Below.refl _ _))
      clear HW
      go_wp2_with fail
      exact HF2.out
     have y3 : decide (k.1.unit < (c.units.length : Int)) = true := decide_eq_true u3
     obtain ⟨n, hn⟩ : ∃ n : Nat, k.1.unit = (n : Int) := ⟨k.1.unit.toNat, by omega⟩
     obtain ⟨un, eun⟩ : ∃ x, c.units[n]? = some x := ⟨_, List.getElem?_eq_getElem (by omega)⟩
     have hU := hat.u
     obtain ⟨ub, uo, eU⟩ := sl_addr hU (by intro e; rw [e] at eun; simp at eun)
     rw [eU] at hU k2
     have hni : (n : Int) < (c.units.length : Int) := by omega
     have hn0 : (0 : Int) ≤ (n : Int) := by omega
     have cu : wl.cell? ⟨ub, uo + n * 5 + 1, none⟩ = some (.int .i64 un.kind) := (sl_range hU eun) 1 _ rfl
     have HMO : Hid (moneyV c.units k.1.unit = (un.kind == 2)) := Lib.hid (by unfold moneyV; rw [hn, Int.toNat_natCast, eun])
     rw [hn] at q13 y2 y3 y1 y1n
     have HVn : Hid (worthV c.holders.length c.units k.1 = ((un.kind == 2) && (posB k.1.num k.1.den && movB c.holders.length k.1.to))) := Lib.hid (by rw [HVw.out, HMO.out, hn, y1, y2, y3, z1]; simp)
     clear u2 u3 hn hU eU eun HMO
     by_cases u4 : un.kind = 2
     rotate_left
     ·have y4 : (un.kind == 2) = false := by simpa using u4
      have HF2 := Lib.hid (HW.out wl false (by rw [HVn.out]; simp [y4]) (Below.refl _ _))
      clear HW u4
      go_wp2_with fail
      exact HF2.out
     have y4 : (un.kind == 2) = true := by simpa using u4
     obtain ⟨PB, ePB⟩ : ∃ PB, PB = posB k.1.num k.1.den := ⟨_, rfl⟩
     have CPl := Lib.hid (CPO.out wl)
     rw [← ePB] at CPl HVn
     have HMR := Lib.hid (HF5.out wl (Below.refl _ _))
     clear u4 ePB
     go_wp2_with (refine at_load (.tmp 150) ?_; refine Row.still (by first|exact Free.wanted_of rfl rfl rfl|rfl) (Hk.exec_mid 43 (.tmp 150) rfl W1.heap.size 11 rfl fs _ HMR.out Tryz.underlying43 rfl HIF.out) ?_; simp only [Act.put, Pt1, Pt2, Pt3])
     refine CPl.out.mono ?_
     rintro e w7 ⟨rfl, hb7⟩
     have HB7 := Lib.hid hb7
     clear hb7 CPl HMR
     cases PB with
     | false =>
      have HF2 := Lib.hid (HW.out w7 false (by rw [HVn.out, y4]; rfl) HB7.out)
      clear HW
      go_wp2_with fail
      exact HF2.out
     | true =>
      have hb27 := HBl.out.trans (HB7.out.mono HBl.out.size)
      obtain ⟨_, hmc, _, ⟨q0, q1, q2, q3, q4, q5, q6, q7, q8, q9, q10, q11, q12, q13, q14, q15⟩, _, _⟩ := HK.out w7 hb27
      have HMC := Lib.hid hmc
      obtain ⟨MB, eMB⟩ : ∃ MB, MB = movB c.holders.length k.1.to := ⟨_, rfl⟩
      have CM7 := Lib.hid (CM.out k.1.to w7)
      rw [← eMB] at CM7 HVn
      clear hmc eMB hb27
      go_wp2_with (refine at_load (.tmp 2) ?_; refine Row.still (by first|exact Free.wanted_of rfl rfl rfl|rfl) (Hk.exec_mid 27 (.tmp 2) rfl W.heap.size 0 rfl cs _ HMC.out Tryz.underlying27 rfl HI.out) ?_; simp only [Act.put, Pt1, Pt2, Pt3])
      refine CM7.out.mono ?_
      rintro e w8 ⟨rfl, hb8⟩
      have HF2 := Lib.hid (HW.out w8 MB (by rw [HVn.out, y4]; rfl) (HB7.out.trans (hb8.mono HB7.out.size)))
      clear HW hb8 CM7
      go_wp2_with fail
      exact HF2.out
    have z1 : (k.1.kind == 1) = false := by simpa using g1
    by_cases g2 : k.1.kind = 2
    ·have z2 : (k.1.kind == 2) = true := by simpa using g2
     clear g1 g2
     by_cases u2 : 0 ≤ k.1.unit
     rotate_left
     ·have y2 : decide (0 ≤ k.1.unit) = false := decide_eq_false u2
      have HF2 := Lib.hid (HW.out wl false (by rw [HVw.out]; simp [z1, z2, y1, y2]) (Below.refl _ _))
      clear HW
      go_wp2_with fail
      exact HF2.out
     have y2 : decide (0 ≤ k.1.unit) = true := decide_eq_true u2
     by_cases u3 : k.1.unit < (c.units.length : Int)
     rotate_left
     ·have y3 : decide (k.1.unit < (c.units.length : Int)) = false := decide_eq_false u3
      have HF2 := Lib.hid (HW.out wl false (by rw [HVw.out]; simp [z1, z2, y1, y3]) (Below.refl _ _))
      clear HW
      go_wp2_with fail
      exact HF2.out
     have y3 : decide (k.1.unit < (c.units.length : Int)) = true := decide_eq_true u3
     obtain ⟨n, hn⟩ : ∃ n : Nat, k.1.unit = (n : Int) := ⟨k.1.unit.toNat, by omega⟩
     obtain ⟨un, eun⟩ : ∃ x, c.units[n]? = some x := ⟨_, List.getElem?_eq_getElem (by omega)⟩
     have hU := hat.u
     obtain ⟨ub, uo, eU⟩ := sl_addr hU (by intro e; rw [e] at eun; simp at eun)
     rw [eU] at hU k2
     have hni : (n : Int) < (c.units.length : Int) := by omega
     have hn0 : (0 : Int) ≤ (n : Int) := by omega
     have cu : wl.cell? ⟨ub, uo + n * 5 + 1, none⟩ = some (.int .i64 un.kind) := (sl_range hU eun) 1 _ rfl
     have HMO : Hid (moneyV c.units k.1.unit = (un.kind == 2)) := Lib.hid (by unfold moneyV; rw [hn, Int.toNat_natCast, eun])
     rw [hn] at q13 y2 y3 y1 y1n
     have HVn : Hid (worthV c.holders.length c.units k.1 = ((un.kind == 2) && (posB k.1.num k.1.den && movB c.holders.length k.1.to))) := Lib.hid (by rw [HVw.out, HMO.out, hn, y1, y2, y3, z1, z2]; simp)
     clear u2 u3 hn hU eU eun HMO
     by_cases u4 : un.kind = 2
     rotate_left
     ·have y4 : (un.kind == 2) = false := by simpa using u4
      have HF2 := Lib.hid (HW.out wl false (by rw [HVn.out]; simp [y4]) (Below.refl _ _))
      clear HW u4
      go_wp2_with fail
      exact HF2.out
     have y4 : (un.kind == 2) = true := by simpa using u4
     obtain ⟨PB, ePB⟩ : ∃ PB, PB = posB k.1.num k.1.den := ⟨_, rfl⟩
     have CPl := Lib.hid (CPO.out wl)
     rw [← ePB] at CPl HVn
     have HMR := Lib.hid (HF5.out wl (Below.refl _ _))
     clear u4 ePB
     go_wp2_with (refine at_load (.tmp 150) ?_; refine Row.still (by first|exact Free.wanted_of rfl rfl rfl|rfl) (Hk.exec_mid 43 (.tmp 150) rfl W1.heap.size 11 rfl fs _ HMR.out Tryz.underlying43 rfl HIF.out) ?_; simp only [Act.put, Pt1, Pt2, Pt3])
     refine CPl.out.mono ?_
     rintro e w7 ⟨rfl, hb7⟩
     have HB7 := Lib.hid hb7
     clear hb7 CPl HMR
     cases PB with
     | false =>
      have HF2 := Lib.hid (HW.out w7 false (by rw [HVn.out, y4]; rfl) HB7.out)
      clear HW
      go_wp2_with fail
      exact HF2.out
     | true =>
      have hb27 := HBl.out.trans (HB7.out.mono HBl.out.size)
      obtain ⟨_, hmc, _, ⟨q0, q1, q2, q3, q4, q5, q6, q7, q8, q9, q10, q11, q12, q13, q14, q15⟩, _, _⟩ := HK.out w7 hb27
      have HMC := Lib.hid hmc
      obtain ⟨MB, eMB⟩ : ∃ MB, MB = movB c.holders.length k.1.to := ⟨_, rfl⟩
      have CM7 := Lib.hid (CM.out k.1.to w7)
      rw [← eMB] at CM7 HVn
      clear hmc eMB hb27
      go_wp2_with (refine at_load (.tmp 2) ?_; refine Row.still (by first|exact Free.wanted_of rfl rfl rfl|rfl) (Hk.exec_mid 27 (.tmp 2) rfl W.heap.size 0 rfl cs _ HMC.out Tryz.underlying27 rfl HI.out) ?_; simp only [Act.put, Pt1, Pt2, Pt3])
      refine CM7.out.mono ?_
      rintro e w8 ⟨rfl, hb8⟩
      have HF2 := Lib.hid (HW.out w8 MB (by rw [HVn.out, y4]; rfl) (HB7.out.trans (hb8.mono HB7.out.size)))
      clear HW hb8 CM7
      go_wp2_with fail
      exact HF2.out
    have z2 : (k.1.kind == 2) = false := by simpa using g2
    clear g1 g2
    have HF2 := Lib.hid (HW.out wl false (by rw [HVw.out]; simp [z1, z2, y1]) (Below.refl _ _))
    clear HW
    go_wp2_with fail
    exact HF2.out
   have m1 : (k.1.pause == -1) = false := by simpa using p1
   have m1n : (k.1.pause != -1) = true := by simpa using p1
   have HPV : Hid (pauseV c.acts k.1 = (!(k.1.pause == k.1.resume) && (natB c.acts k.1.pause && natB c.acts k.1.resume))) := Lib.hid (by rw [HPV0.out, m1n]; rfl)
   clear p1 HPV0
   by_cases pr : k.1.pause = k.1.resume
   ·have b1 : (k.1.pause == k.1.resume) = true := by simpa using pr
    have HF2 := Lib.hid (FIN.out wr false (by rw [HV3.out, HPV.out, b1]; rfl) (HK.out wr HB4.out).2.2.2.2.2)
    clear FIN pr
    go_wp2_with fail
    exact HF2.out
   have b1 : (k.1.pause == k.1.resume) = false := by simpa using pr
   obtain ⟨P1, eP1⟩ : ∃ P1, P1 = natB c.acts k.1.pause := ⟨_, rfl⟩
   obtain ⟨P2, eP2⟩ : ∃ P2, P2 = natB c.acts k.1.resume := ⟨_, rfl⟩
   have HPW : Hid (pauseV c.acts k.1 = (P1 && P2)) := Lib.hid (by rw [HPV.out, b1, eP1, eP2]; rfl)
   have CN1 := Lib.hid (CN.out k.1.pause wr HB4.out)
   rw [← eP1] at CN1
   have HMC := Lib.hid (HK.out wr HB4.out).2.1
   clear pr HPV eP1
   go_wp2_with (refine at_load (.tmp 2) ?_; refine Row.still (by first|exact Free.wanted_of rfl rfl rfl|rfl) (Hk.exec_mid 27 (.tmp 2) rfl W.heap.size 0 rfl cs _ HMC.out Tryz.underlying27 rfl HI.out) ?_; simp only [Act.put, Pt1, Pt2, Pt3])
   refine CN1.out.mono ?_
   rintro e w5 ⟨rfl, hb5⟩
   have HB5 := Lib.hid (HB4.out.trans (hb5.mono HB4.out.size))
   clear hb5 CN1 HMC q9 q10
   cases P1 with
   | false =>
    have HF2 := Lib.hid (FIN.out w5 false (by rw [HV3.out, HPW.out]; rfl) (HK.out w5 HB5.out).2.2.2.2.2)
    clear FIN
    go_wp2_with fail
    exact HF2.out
   | true =>
   obtain ⟨_, hmc, _, ⟨q0, q1, q2, q3, q4, q5, q6, q7, q8, q9, q10, q11, q12, q13, q14, q15⟩, _, _⟩ := HK.out w5 HB5.out
   have HMC := Lib.hid hmc
   have CN2 := Lib.hid (CN.out k.1.resume w5 HB5.out)
   rw [← eP2] at CN2
   clear hmc eP2 q0 q1 q2 q3 q4 q5 q6 q7 q8 q11 q12 q13 q14 q15
   go_wp2_with (refine at_load (.tmp 2) ?_; refine Row.still (by first|exact Free.wanted_of rfl rfl rfl|rfl) (Hk.exec_mid 27 (.tmp 2) rfl W.heap.size 0 rfl cs _ HMC.out Tryz.underlying27 rfl HI.out) ?_; simp only [Act.put, Pt1, Pt2, Pt3])
   refine CN2.out.mono ?_
   rintro e wl ⟨rfl, hbl⟩
   have HBl := Lib.hid (HB5.out.trans (hbl.mono HB5.out.size))
   clear hbl CN2 HMC q9 q10
   cases P2 with
   | false =>
    have HF2 := Lib.hid (FIN.out wl false (by rw [HV3.out, HPW.out]; rfl) (HK.out wl HBl.out).2.2.2.2.2)
    clear FIN
    go_wp2_with fail
    exact HF2.out
   | true =>
   have HVe : Hid (clauseV c.con i k.1 = worthV c.holders.length c.units k.1) := Lib.hid (by rw [HV3.out, HPW.out]; rfl)
   clear HV3 HPW HB4 HB5
   obtain ⟨⟨k0, k1, k2, k3, k4, k5, k6⟩, _, hat, ⟨q0, q1, q2, q3, q4, q5, q6, q7, q8, q9, q10, q11, q12, q13, q14, q15⟩, _, hbW⟩ := HK.out wl HBl.out
   obtain ⟨fs, efs⟩ : ∃ fs : List Value, fs = [.int .i64 k.1.num, .int .i64 k.1.den] := ⟨_, rfl⟩
   have HQ : Hid (∀ w', Below wl.heap.size wl w' → ClsK w' W1.heap.size k.1 (.slice k.2.1 k.1.start.length k.2.2)) := Lib.hid fun w' hb => (HK.out w' (HBl.out.trans (hb.mono HBl.out.size))).2.2.2.1
   have HF5 : Hid (∀ w', Below wl.heap.size wl w' → w'.rangeAt W1.heap.size 11 fs) := Lib.hid fun w' hb => by rw [efs]; exact (HQ.out w' hb).rg
   have HIF := Lib.hid (info_ra fs (by rw [efs]; rfl))
   have EFS : Hid (Value.agg fs.toArray = .agg [.int .i64 k.1.num, .int .i64 k.1.den].toArray) := Lib.hid (by rw [efs])
   have CPO := Lib.hid (fun w => pos_any k.1.num k.1.den w)
   rw [show (#[.int .i64 k.1.num, .int .i64 k.1.den] : Array Value) = fs.toArray by rw [efs]] at CPO
   have HW : Hid (∀ w' v, v = worthV c.holders.length c.units k.1 → Below wl.heap.size wl w' → R (.returned (.bool v)) w') := Lib.hid fun w' v h hb => FIN.out w' v (by rw [HVe.out]; exact h) (HK.out w' (HBl.out.trans (hb.mono HBl.out.size))).2.2.2.2.2
   have HVw : Hid (worthV c.holders.length c.units k.1 = (if k.1.unit == -1 then ratO k.1.num k.1.den && (k.1.to == -1) else ((k.1.kind == 1) || (k.1.kind == 2)) && (decide (0 ≤ k.1.unit) && (decide (k.1.unit < (c.units.length : Int)) && (moneyV c.units k.1.unit && (posB k.1.num k.1.den && movB c.holders.length k.1.to)))))) := Lib.hid rfl
   clear FIN HVe efs k0 k1 k3 k4 k5 k6 q1 q2 q3 q4 q5 q6 q7 q8 q9 q10 q11 q12 q15 hbW
   by_cases u1 : k.1.unit = -1
   ·have y1 : (k.1.unit == -1) = true := by simpa using u1
    obtain ⟨Z, eZ⟩ : ∃ Z, Z = ratO k.1.num k.1.den := ⟨_, rfl⟩
    have EZ := Lib.hid eZ
    have HVz : Hid (worthV c.holders.length c.units k.1 = (Z && (k.1.to == -1))) := Lib.hid (by rw [HVw.out, y1, eZ]; rfl)
    clear u1 HVw eZ
    cases Z with
    | false =>
     have HG : Hid (∀ w', Below wl.heap.size wl w' → R (.returned (.bool false)) w') := Lib.hid fun w' hb => HW.out w' false (by rw [HVz.out]; rfl) hb
     clear HW
     go_wp2_with fail
     refine Free.wp_region_free 9 [(2, .det (.agg #[.int .i64 0, .int .i64 1]))] (fun w' => Below wl.heap.size wl w') (by kernel_rfl) (by kernel_rfl) (Free.mono_det (fun j mk r hf => by simp only [Free.find] at hf; repeat' (first | cases hf | split at hf))) (Below.refl _ _).drew (fun _ _ h g => h.trans (Below.mono g h.size)) ?_
     simp only [List.take_succ_cons, List.take_zero]
     iterate 1 (apply Free.chain_still (by first|exact Free.wanted_of rfl rfl rfl|rfl) rfl; (intro w' hB hA; cases HQ.out w' hB; clear hA; go_light; go_simp <;> rfl); (try simp only [Act.put, Pt1, Pt2, Pt3]))
     apply Free.chain_still (by first|exact Free.wanted_of rfl rfl rfl|rfl) rfl
     ·intro w' hB hA
      exact Hk.exec_mid 43 (.tmp 109) rfl W1.heap.size 11 rfl fs _ (HF5.out _ hB) Tryz.underlying43 rfl HIF.out
     simp only [Act.put, Pt1, Pt2, Pt3]
     apply Free.chain_det (by first|exact Free.wanted_of rfl rfl rfl|rfl) rfl
     ·intro w' hB hA
      refine Free.opRun_call (f := 125) (args := #[]) (by clear hB hA; go_simp <;> rfl) ?_
      refine (none_any _).mono ?_
      rintro e w3 ⟨rfl, hb3⟩
      exact ⟨_, rfl, hb3, rfl⟩
     simp only [Act.put, Pt1, Pt2, Pt3]
     apply Free.chain_still (by first|exact Free.wanted_of rfl rfl rfl|rfl) rfl
     ·intro w' hB hA
      exact exec_ratO rfl EFS.out rfl EZ.out
     simp only [Act.put, Pt1, Pt2, Pt3]
     iterate 1 (apply Free.chain_still (by first|exact Free.wanted_of rfl rfl rfl|rfl) rfl; (intro w' hB hA; cases HQ.out w' hB; clear hA; go_light; go_simp <;> rfl); (try simp only [Act.put, Pt1, Pt2, Pt3]))
     iterate 3 (apply Free.chain_skip (by first | exact unwanted2 rfl rfl rfl rfl | exact unwanted3 rfl rfl rfl); simp only [Act.put, Pt1, Pt2, Pt3])
     iterate 1 (apply Free.chain_still (by first|exact Free.wanted_of rfl rfl rfl|rfl) rfl; (intro w' hB hA; cases HQ.out w' hB; clear hA; go_light; go_simp <;> rfl); (try simp only [Act.put, Pt1, Pt2, Pt3]))
     apply Free.chain_nil
     intro w6 hw6 _ _
     simp only [List.drop_succ_cons, List.drop_zero]
     have HF2 := Lib.hid (HG.out w6 hw6)
     clear hw6 HG
     go_wp2_with fail
     exact HF2.out
    | true =>
     have HG : Hid (∀ w', Below wl.heap.size wl w' → R (.returned (.bool (k.1.to == -1))) w') := Lib.hid fun w' hb => HW.out w' (k.1.to == -1) (by rw [HVz.out]; rfl) hb
     clear HW
     go_wp2_with fail
     refine Free.wp_region_free 9 [(2, .det (.agg #[.int .i64 0, .int .i64 1]))] (fun w' => Below wl.heap.size wl w') (by kernel_rfl) (by kernel_rfl) (Free.mono_det (fun j mk r hf => by simp only [Free.find] at hf; repeat' (first | cases hf | split at hf))) (Below.refl _ _).drew (fun _ _ h g => h.trans (Below.mono g h.size)) ?_
     simp only [List.take_succ_cons, List.take_zero]
     iterate 1 (apply Free.chain_still (by first|exact Free.wanted_of rfl rfl rfl|rfl) rfl; (intro w' hB hA; cases HQ.out w' hB; clear hA; go_light; go_simp <;> rfl); (try simp only [Act.put, Pt1, Pt2, Pt3]))
     apply Free.chain_still (by first|exact Free.wanted_of rfl rfl rfl|rfl) rfl
     ·intro w' hB hA
      exact Hk.exec_mid 43 (.tmp 109) rfl W1.heap.size 11 rfl fs _ (HF5.out _ hB) Tryz.underlying43 rfl HIF.out
     simp only [Act.put, Pt1, Pt2, Pt3]
     apply Free.chain_det (by first|exact Free.wanted_of rfl rfl rfl|rfl) rfl
     ·intro w' hB hA
      refine Free.opRun_call (f := 125) (args := #[]) (by clear hB hA; go_simp <;> rfl) ?_
      refine (none_any _).mono ?_
      rintro e w3 ⟨rfl, hb3⟩
      exact ⟨_, rfl, hb3, rfl⟩
     simp only [Act.put, Pt1, Pt2, Pt3]
     apply Free.chain_still (by first|exact Free.wanted_of rfl rfl rfl|rfl) rfl
     ·intro w' hB hA
      exact exec_ratO rfl EFS.out rfl EZ.out
     simp only [Act.put, Pt1, Pt2, Pt3]
     iterate 5 (apply Free.chain_still (by first|exact Free.wanted_of rfl rfl rfl|rfl) rfl; (intro w' hB hA; cases HQ.out w' hB; clear hA; go_light; go_simp <;> rfl); (try simp only [Act.put, Pt1, Pt2, Pt3]))
     apply Free.chain_nil
     intro w6 hw6 _ _
     simp only [List.drop_succ_cons, List.drop_zero]
     have HF2 := Lib.hid (HG.out w6 hw6)
     clear hw6 HG
     go_wp2_with fail
     exact HF2.out
   have y1 : (k.1.unit == -1) = false := by simpa using u1
   have y1n : (k.1.unit != -1) = true := by simpa using u1
   clear u1
   by_cases g1 : k.1.kind = 1
   ·have z1 : (k.1.kind == 1) = true := by simpa using g1
    clear g1
    by_cases u2 : 0 ≤ k.1.unit
    rotate_left
    ·have y2 : decide (0 ≤ k.1.unit) = false := decide_eq_false u2
     have HF2 := Lib.hid (HW.out wl false (by rw [HVw.out]; simp [z1, y1, y2]) (Below.refl _ _))
     clear HW
     go_wp2_with fail
     exact HF2.out
    have y2 : decide (0 ≤ k.1.unit) = true := decide_eq_true u2
    by_cases u3 : k.1.unit < (c.units.length : Int)
    rotate_left
    ·have y3 : decide (k.1.unit < (c.units.length : Int)) = false := decide_eq_false u3
     have HF2 := Lib.hid (HW.out wl false (by rw [HVw.out]; simp [z1, y1, y3]) (Below.refl _ _))
     clear HW
     go_wp2_with fail
     exact HF2.out
    have y3 : decide (k.1.unit < (c.units.length : Int)) = true := decide_eq_true u3
    obtain ⟨n, hn⟩ : ∃ n : Nat, k.1.unit = (n : Int) := ⟨k.1.unit.toNat, by omega⟩
    obtain ⟨un, eun⟩ : ∃ x, c.units[n]? = some x := ⟨_, List.getElem?_eq_getElem (by omega)⟩
    have hU := hat.u
    obtain ⟨ub, uo, eU⟩ := sl_addr hU (by intro e; rw [e] at eun; simp at eun)
    rw [eU] at hU k2
    have hni : (n : Int) < (c.units.length : Int) := by omega
    have hn0 : (0 : Int) ≤ (n : Int) := by omega
    have cu : wl.cell? ⟨ub, uo + n * 5 + 1, none⟩ = some (.int .i64 un.kind) := (sl_range hU eun) 1 _ rfl
    have HMO : Hid (moneyV c.units k.1.unit = (un.kind == 2)) := Lib.hid (by unfold moneyV; rw [hn, Int.toNat_natCast, eun])
    rw [hn] at q13 y2 y3 y1 y1n
    have HVn : Hid (worthV c.holders.length c.units k.1 = ((un.kind == 2) && (posB k.1.num k.1.den && movB c.holders.length k.1.to))) := Lib.hid (by rw [HVw.out, HMO.out, hn, y1, y2, y3, z1]; simp)
    clear u2 u3 hn hU eU eun HMO
    by_cases u4 : un.kind = 2
    rotate_left
    ·have y4 : (un.kind == 2) = false := by simpa using u4
     have HF2 := Lib.hid (HW.out wl false (by rw [HVn.out]; simp [y4]) (Below.refl _ _))
     clear HW u4
     go_wp2_with fail
     exact HF2.out
    have y4 : (un.kind == 2) = true := by simpa using u4
    obtain ⟨PB, ePB⟩ : ∃ PB, PB = posB k.1.num k.1.den := ⟨_, rfl⟩
    have CPl := Lib.hid (CPO.out wl)
    rw [← ePB] at CPl HVn
    have HMR := Lib.hid (HF5.out wl (Below.refl _ _))
    clear u4 ePB
    go_wp2_with (refine at_load (.tmp 150) ?_; refine Row.still (by first|exact Free.wanted_of rfl rfl rfl|rfl) (Hk.exec_mid 43 (.tmp 150) rfl W1.heap.size 11 rfl fs _ HMR.out Tryz.underlying43 rfl HIF.out) ?_; simp only [Act.put, Pt1, Pt2, Pt3])
    refine CPl.out.mono ?_
    rintro e w7 ⟨rfl, hb7⟩
    have HB7 := Lib.hid hb7
    clear hb7 CPl HMR
    cases PB with
    | false =>
     have HF2 := Lib.hid (HW.out w7 false (by rw [HVn.out, y4]; rfl) HB7.out)
     clear HW
     go_wp2_with fail
     exact HF2.out
    | true =>
     have hb27 := HBl.out.trans (HB7.out.mono HBl.out.size)
     obtain ⟨_, hmc, _, ⟨q0, q1, q2, q3, q4, q5, q6, q7, q8, q9, q10, q11, q12, q13, q14, q15⟩, _, _⟩ := HK.out w7 hb27
     have HMC := Lib.hid hmc
     obtain ⟨MB, eMB⟩ : ∃ MB, MB = movB c.holders.length k.1.to := ⟨_, rfl⟩
     have CM7 := Lib.hid (CM.out k.1.to w7)
     rw [← eMB] at CM7 HVn
     clear hmc eMB hb27
     go_wp2_with (refine at_load (.tmp 2) ?_; refine Row.still (by first|exact Free.wanted_of rfl rfl rfl|rfl) (Hk.exec_mid 27 (.tmp 2) rfl W.heap.size 0 rfl cs _ HMC.out Tryz.underlying27 rfl HI.out) ?_; simp only [Act.put, Pt1, Pt2, Pt3])
     refine CM7.out.mono ?_
     rintro e w8 ⟨rfl, hb8⟩
     have HF2 := Lib.hid (HW.out w8 MB (by rw [HVn.out, y4]; rfl) (HB7.out.trans (hb8.mono HB7.out.size)))
     clear HW hb8 CM7
     go_wp2_with fail
     exact HF2.out
   have z1 : (k.1.kind == 1) = false := by simpa using g1
   by_cases g2 : k.1.kind = 2
   ·have z2 : (k.1.kind == 2) = true := by simpa using g2
    clear g1 g2
    by_cases u2 : 0 ≤ k.1.unit
    rotate_left
    ·have y2 : decide (0 ≤ k.1.unit) = false := decide_eq_false u2
     have HF2 := Lib.hid (HW.out wl false (by rw [HVw.out]; simp [z1, z2, y1, y2]) (Below.refl _ _))
     clear HW
     go_wp2_with fail
     exact HF2.out
    have y2 : decide (0 ≤ k.1.unit) = true := decide_eq_true u2
    by_cases u3 : k.1.unit < (c.units.length : Int)
    rotate_left
    ·have y3 : decide (k.1.unit < (c.units.length : Int)) = false := decide_eq_false u3
     have HF2 := Lib.hid (HW.out wl false (by rw [HVw.out]; simp [z1, z2, y1, y3]) (Below.refl _ _))
     clear HW
     go_wp2_with fail
     exact HF2.out
    have y3 : decide (k.1.unit < (c.units.length : Int)) = true := decide_eq_true u3
    obtain ⟨n, hn⟩ : ∃ n : Nat, k.1.unit = (n : Int) := ⟨k.1.unit.toNat, by omega⟩
    obtain ⟨un, eun⟩ : ∃ x, c.units[n]? = some x := ⟨_, List.getElem?_eq_getElem (by omega)⟩
    have hU := hat.u
    obtain ⟨ub, uo, eU⟩ := sl_addr hU (by intro e; rw [e] at eun; simp at eun)
    rw [eU] at hU k2
    have hni : (n : Int) < (c.units.length : Int) := by omega
    have hn0 : (0 : Int) ≤ (n : Int) := by omega
    have cu : wl.cell? ⟨ub, uo + n * 5 + 1, none⟩ = some (.int .i64 un.kind) := (sl_range hU eun) 1 _ rfl
    have HMO : Hid (moneyV c.units k.1.unit = (un.kind == 2)) := Lib.hid (by unfold moneyV; rw [hn, Int.toNat_natCast, eun])
    rw [hn] at q13 y2 y3 y1 y1n
    have HVn : Hid (worthV c.holders.length c.units k.1 = ((un.kind == 2) && (posB k.1.num k.1.den && movB c.holders.length k.1.to))) := Lib.hid (by rw [HVw.out, HMO.out, hn, y1, y2, y3, z1, z2]; simp)
    clear u2 u3 hn hU eU eun HMO
    by_cases u4 : un.kind = 2
    rotate_left
    ·have y4 : (un.kind == 2) = false := by simpa using u4
     have HF2 := Lib.hid (HW.out wl false (by rw [HVn.out]; simp [y4]) (Below.refl _ _))
     clear HW u4
     go_wp2_with fail
     exact HF2.out
    have y4 : (un.kind == 2) = true := by simpa using u4
    obtain ⟨PB, ePB⟩ : ∃ PB, PB = posB k.1.num k.1.den := ⟨_, rfl⟩
    have CPl := Lib.hid (CPO.out wl)
    rw [← ePB] at CPl HVn
    have HMR := Lib.hid (HF5.out wl (Below.refl _ _))
    clear u4 ePB
    go_wp2_with (refine at_load (.tmp 150) ?_; refine Row.still (by first|exact Free.wanted_of rfl rfl rfl|rfl) (Hk.exec_mid 43 (.tmp 150) rfl W1.heap.size 11 rfl fs _ HMR.out Tryz.underlying43 rfl HIF.out) ?_; simp only [Act.put, Pt1, Pt2, Pt3])
    refine CPl.out.mono ?_
    rintro e w7 ⟨rfl, hb7⟩
    have HB7 := Lib.hid hb7
    clear hb7 CPl HMR
    cases PB with
    | false =>
     have HF2 := Lib.hid (HW.out w7 false (by rw [HVn.out, y4]; rfl) HB7.out)
     clear HW
     go_wp2_with fail
     exact HF2.out
    | true =>
     have hb27 := HBl.out.trans (HB7.out.mono HBl.out.size)
     obtain ⟨_, hmc, _, ⟨q0, q1, q2, q3, q4, q5, q6, q7, q8, q9, q10, q11, q12, q13, q14, q15⟩, _, _⟩ := HK.out w7 hb27
     have HMC := Lib.hid hmc
     obtain ⟨MB, eMB⟩ : ∃ MB, MB = movB c.holders.length k.1.to := ⟨_, rfl⟩
     have CM7 := Lib.hid (CM.out k.1.to w7)
     rw [← eMB] at CM7 HVn
     clear hmc eMB hb27
     go_wp2_with (refine at_load (.tmp 2) ?_; refine Row.still (by first|exact Free.wanted_of rfl rfl rfl|rfl) (Hk.exec_mid 27 (.tmp 2) rfl W.heap.size 0 rfl cs _ HMC.out Tryz.underlying27 rfl HI.out) ?_; simp only [Act.put, Pt1, Pt2, Pt3])
     refine CM7.out.mono ?_
     rintro e w8 ⟨rfl, hb8⟩
     have HF2 := Lib.hid (HW.out w8 MB (by rw [HVn.out, y4]; rfl) (HB7.out.trans (hb8.mono HB7.out.size)))
     clear HW hb8 CM7
     go_wp2_with fail
     exact HF2.out
   have z2 : (k.1.kind == 2) = false := by simpa using g2
   clear g1 g2
   have HF2 := Lib.hid (HW.out wl false (by rw [HVw.out]; simp [z1, z2, y1]) (Below.refl _ _))
   clear HW
   go_wp2_with fail
   exact HF2.out
end Go.Proofs.YtekfoaenomgjgaaGreatDoor
