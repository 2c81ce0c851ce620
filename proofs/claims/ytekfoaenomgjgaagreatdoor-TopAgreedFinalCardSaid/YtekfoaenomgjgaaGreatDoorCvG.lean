/- Package contract: validKind. Condition: the contract lies in memory. -/
import Derived.Test.YtekfoaenomgjgaaGreatDoorCvF
set_option maxRecDepth 100000
set_option linter.unusedSimpArgs false
set_option linter.unusedVariables false
set_option linter.unnecessarySimpa false
namespace Go.Cv
open Go Go.Cs
def kindV (H : Nat) (acs : List AcT) (k : Cls) : Bool :=
 if k.kind == 4 then (k.role == -1) && ((k.need == 1) && ((k.grace == 0) && !k.fin))
 else if !movB H k.role || natB acs k.act then false
 else if k.kind == 1 then decide (1 ≤ k.need) && (decide (k.need ≤ 9) && (decide (0 ≤ k.grace) && decide (k.grace ≤ 400)))
 else if k.kind == 2 then (k.need == 1) && (k.grace == 0)
 else if k.kind == 3 then (k.need == 1) && ((k.grace == 0) && !k.fin)
 else false
end Go.Cv
namespace Go.Proofs.YtekfoaenomgjgaaGreatDoor
open Go.RowKit Go.W32 Go.Blk Go.Cs Go.Lib Go.Opn Go.Mg Go.Cv

/-- The cells of a clause. -/
structure ClsK (w : World) (b : Nat) (k : Cls) (st : Value) : Prop where
 q0 : w.cell? ⟨b, 0, none⟩ = some (.int .i64 k.kind)
 q1 : w.cell? ⟨b, 1, none⟩ = some (.int .i64 k.role)
 q2 : w.cell? ⟨b, 2, none⟩ = some (.int .i64 k.act)
 q3 : w.cell? ⟨b, 3, none⟩ = some (.int .i64 k.need)
 q4 : w.cell? ⟨b, 4, none⟩ = some st
 q5 : w.cell? ⟨b, 5, none⟩ = some (.int .i64 k.after)
 q6 : w.cell? ⟨b, 6, none⟩ = some (.int .i64 k.grace)
 q7 : w.cell? ⟨b, 7, none⟩ = some (.bool k.bus)
 q8 : w.cell? ⟨b, 8, none⟩ = some (.bool k.fin)
 q9 : w.cell? ⟨b, 9, none⟩ = some (.int .i64 k.pause)
 q10 : w.cell? ⟨b, 10, none⟩ = some (.int .i64 k.resume)
 q11 : w.cell? ⟨b, 11, none⟩ = some (.int .i64 k.num)
 q12 : w.cell? ⟨b, 12, none⟩ = some (.int .i64 k.den)
 q13 : w.cell? ⟨b, 13, none⟩ = some (.int .i64 k.unit)
 q14 : w.cell? ⟨b, 14, none⟩ = some (.int .i64 k.to)
 q15 : w.cell? ⟨b, 15, none⟩ = some (.bool k.waived)
theorem ClsK.of {w : World} {b : Nat} {T : TypeId} {k : Cls} {st : Value} (h : Row w b T (encCls k st)) : ClsK w b k st :=
 ⟨h.at rfl, h.at rfl, h.at rfl, h.at rfl, h.at rfl, h.at rfl, h.at rfl, h.at rfl, h.at rfl, h.at rfl, h.at rfl, h.at rfl, h.at rfl, h.at rfl, h.at rfl, h.at rfl⟩
theorem ClsK.ofKl {w : World} {b : Nat} {T : TypeId} {k : Kl} (h : Row w b T (encKl k)) : ClsK w b k.1 (.slice k.2.1 k.1.start.length k.2.2) := ClsK.of h
set_option maxHeartbeats 4000000 in
theorem kind_any (c : ConM) (k : Kl) (W : World) (hc : ConAt W c) : Calls Tryz.prog 123 #[.agg (encCon c).toArray, .agg (encKl k).toArray] W fun e w' => e = .returned (.bool (kindV c.holders.length c.acts k.1)) ∧ Below W.heap.size W w' := by
 obtain ⟨R, eR⟩ : ∃ R : Ending → World → Prop, R = fun e w' => e = .returned (.bool (kindV c.holders.length c.acts k.1)) ∧ Below W.heap.size W w' := ⟨_, rfl⟩
 rw [← eR]
 have FIN : Hid (∀ w' v, v = kindV c.holders.length c.acts k.1 → Below W.heap.size W w' → R (.returned (.bool v)) w') := Lib.hid fun w' v h hb => by rw [eR, h]; exact ⟨rfl, hb⟩
 clear eR
 obtain ⟨cs, ecs⟩ : ∃ cs, cs = encCon c := ⟨_, rfl⟩
 obtain ⟨ds, eds⟩ : ∃ ds, ds = encKl k := ⟨_, rfl⟩
 obtain ⟨hr1, hr2, hbw⟩ := two_boxes2 W 27 45 cs ds
 have CM0 := fun i w => mov_any c i w
 have CN0 : ∀ i w, Below W.heap.size W w → _ := fun i w hb => nat_any c i w (hc.below hb (Nat.le_refl _))
 rw [← ecs] at CM0 ⊢
 simp only [← ecs] at CN0
 rw [← eds]
 generalize eW : (W.alloc (.cells cs.toArray 27)).alloc (.cells ds.toArray 45) = W2 at *
 have E1 := Lib.hid eW
 have HQ : Hid (∀ w', Below W2.heap.size W2 w' → ClsK w' (W.heap.size + 1) k.1 (.slice k.2.1 k.1.start.length k.2.2)) := Lib.hid fun w' hb => ClsK.ofKl (T := 45) (by rw [← eds]; exact hr2.below hb hr2.lt)
 have HM : Hid (∀ w', Below W2.heap.size W2 w' → w'.rangeAt W.heap.size 0 cs) := Lib.hid fun w' hb => (hr1.below hb hr1.lt).rg
 have HI := Lib.hid (info_co cs (by rw [ecs]; rfl))
 have HB2 := Lib.hid hbw
 obtain ⟨RB, eRB⟩ : ∃ RB, RB = movB c.holders.length k.1.role := ⟨_, rfl⟩
 obtain ⟨NB, eNB⟩ : ∃ NB, NB = natB c.acts k.1.act := ⟨_, rfl⟩
 have CM := Lib.hid (CM0 k.1.role)
 have CN := Lib.hid (fun w hb => CN0 k.1.act w hb)
 rw [← eRB] at CM
 rw [← eNB] at CN
 have HV : Hid (kindV c.holders.length c.acts k.1 = (if k.1.kind == 4 then (k.1.role == -1) && ((k.1.need == 1) && ((k.1.grace == 0) && !k.1.fin))
  else if !RB || NB then false
  else if k.1.kind == 1 then decide (1 ≤ k.1.need) && (decide (k.1.need ≤ 9) && (decide (0 ≤ k.1.grace) && decide (k.1.grace ≤ 400)))
  else if k.1.kind == 2 then (k.1.need == 1) && (k.1.grace == 0)
  else if k.1.kind == 3 then (k.1.need == 1) && ((k.1.grace == 0) && !k.1.fin)
  else false)) := Lib.hid (by unfold kindV; rw [eRB, eNB])
 obtain ⟨q0, q1, q2, q3, q4, q5, q6, q7, q8, q9, q10, q11, q12, q13, q14, q15⟩ := HQ.out W2 (Below.refl _ _)
 have HMl := Lib.hid (HM.out W2 (Below.refl _ _))
 obtain ⟨⟨kind, role, act, need, start, after, grace, bus, fin, pause, resume, num, den, unit, dest, waived⟩, kA, kc⟩ := k
 simp only at q0 q1 q2 q3 q6 q8 HV FIN CM CN HQ
 clear ecs eds hr1 hr2 hbw CM0 CN0 eW eRB eNB q4 q5 q7 q9 q10 q11 q12 q13 q14 q15 hc
 by_cases h4 : kind = 4
 ·have b4 : (kind == 4) = true := by simpa using h4
  have HF : Hid (∀ v, v = ((role == -1) && ((need == 1) && ((grace == 0) && !fin))) → R (.returned (.bool v)) W2) := Lib.hid fun v h => FIN.out W2 v (by rw [HV.out, b4, h]; rfl) HB2.out
  clear FIN HV h4 CM CN
  by_cases h1 : role = -1
  ·have b1 : (role == -1) = true := by simpa using h1
   by_cases h2 : need = 1
   ·have b2 : (need == 1) = true := by simpa using h2
    by_cases h3 : grace = 0
    ·have b3 : (grace == 0) = true := by simpa using h3
     have HG := Lib.hid (HF.out (!fin) (by rw [b1, b2, b3]; rfl))
     clear h1 h2 h3 HF
     go_enter Tryz.func123, Tryz.ntmps123
     go_wp2_with (simp only [E1.out])
     exact HG.out
    ·have b3 : (grace == 0) = false := by simpa using h3
     have HG := Lib.hid (HF.out false (by rw [b3]; simp))
     clear h1 h2 h3 HF
     go_enter Tryz.func123, Tryz.ntmps123
     go_wp2_with (simp only [E1.out])
     exact HG.out
   ·have b2 : (need == 1) = false := by simpa using h2
    have HG := Lib.hid (HF.out false (by rw [b2]; simp))
    clear h1 h2 HF
    go_enter Tryz.func123, Tryz.ntmps123
    go_wp2_with (simp only [E1.out])
    exact HG.out
  ·have b1 : (role == -1) = false := by simpa using h1
   have HG := Lib.hid (HF.out false (by rw [b1]; simp))
   clear h1 HF
   go_enter Tryz.func123, Tryz.ntmps123
   go_wp2_with (simp only [E1.out])
   exact HG.out
 have b4 : (kind == 4) = false := by simpa using h4
 clear h4
 go_enter Tryz.func123, Tryz.ntmps123
 go_wp2_with (first
  | (simp only [E1.out])
  | (refine at_load (.tmp 2) ?_; refine Row.still (by first|exact Free.wanted_of rfl rfl rfl|rfl) (Hk.exec_mid 27 (.tmp 2) rfl W.heap.size 0 rfl cs _ HMl.out Tryz.underlying27 rfl HI.out) ?_; simp only [Act.put, Pt1, Pt2, Pt3]))
 refine (CM.out _).mono ?_
 rintro e w3 ⟨rfl, hb3⟩
 obtain ⟨q0, q1, q2, q3, q4, q5, q6, q7, q8, q9, q10, q11, q12, q13, q14, q15⟩ := HQ.out w3 hb3
 have HM3 := Lib.hid (HM.out w3 hb3)
 have HB3 := Lib.hid (HB2.out.trans (hb3.mono HB2.out.size))
 have HB23 := Lib.hid hb3
 clear hb3 CM HMl q4 q5 q7 q9 q10 q11 q12 q13 q14 q15
 cases RB with
 | false =>
  have HF := Lib.hid (FIN.out w3 false (by rw [HV.out, b4]; rfl) HB3.out)
  clear FIN HV
  go_wp2_with fail
  exact HF.out
 | true =>
 go_wp2_with (refine at_load (.tmp 2) ?_; refine Row.still (by first|exact Free.wanted_of rfl rfl rfl|rfl) (Hk.exec_mid 27 (.tmp 2) rfl W.heap.size 0 rfl cs _ HM3.out Tryz.underlying27 rfl HI.out) ?_; simp only [Act.put, Pt1, Pt2, Pt3])
 refine (CN.out w3 HB3.out).mono ?_
 rintro e w4 ⟨rfl, hb4⟩
 obtain ⟨q0, q1, q2, q3, q4, q5, q6, q7, q8, q9, q10, q11, q12, q13, q14, q15⟩ := HQ.out w4 (HB23.out.trans (hb4.mono HB23.out.size))
 have HB4 := Lib.hid (HB3.out.trans (hb4.mono HB3.out.size))
 clear hb4 CN HM3 q1 q2 q4 q5 q7 q9 q10 q11 q12 q13 q14 q15
 cases NB with
 | true =>
  have HF := Lib.hid (FIN.out w4 false (by rw [HV.out, b4]; rfl) HB4.out)
  clear FIN HV
  go_wp2_with fail
  exact HF.out
 | false =>
 have HF : Hid (∀ v, v = (if kind == 1 then decide (1 ≤ need) && (decide (need ≤ 9) && (decide (0 ≤ grace) && decide (grace ≤ 400)))
  else if kind == 2 then (need == 1) && (grace == 0) else if kind == 3 then (need == 1) && ((grace == 0) && !fin) else false) → R (.returned (.bool v)) w4) := Lib.hid fun v h => FIN.out w4 v (by rw [HV.out, b4, h]; rfl) HB4.out
 clear FIN HV HB3 HB4 HB23 HB2 HM HQ E1 HI
 by_cases k1 : kind = 1
 ·have b1 : (kind == 1) = true := by simpa using k1
  have HG : Hid (∀ v, v = (decide (1 ≤ need) && (decide (need ≤ 9) && (decide (0 ≤ grace) && decide (grace ≤ 400)))) → R (.returned (.bool v)) w4) := Lib.hid fun v h => HF.out v (by rw [b1, h]; rfl)
  clear k1 HF
  by_cases h1 : 1 ≤ need
  rotate_left
  ·have d1 : decide (1 ≤ need) = false := decide_eq_false h1
   have HH := Lib.hid (HG.out false (by rw [d1]; rfl))
   clear HG
   go_wp2_with fail
   exact HH.out
  have d1 : decide (1 ≤ need) = true := decide_eq_true h1
  by_cases h2 : need ≤ 9
  rotate_left
  ·have d2 : decide (need ≤ 9) = false := decide_eq_false h2
   have HH := Lib.hid (HG.out false (by rw [d2]; simp))
   clear HG
   go_wp2_with fail
   exact HH.out
  have d2 : decide (need ≤ 9) = true := decide_eq_true h2
  by_cases h3 : 0 ≤ grace
  rotate_left
  ·have d3 : decide (0 ≤ grace) = false := decide_eq_false h3
   have HH := Lib.hid (HG.out false (by rw [d3]; simp))
   clear HG
   go_wp2_with fail
   exact HH.out
  have d3 : decide (0 ≤ grace) = true := decide_eq_true h3
  have HH := Lib.hid (HG.out (decide (grace ≤ 400)) (by rw [d1, d2, d3]; rfl))
  clear HG
  by_cases h5 : grace ≤ 400
  ·have d5 : decide (grace ≤ 400) = true := decide_eq_true h5
   rw [d5] at HH
   go_wp2_with fail
   exact HH.out
  ·have d5 : decide (grace ≤ 400) = false := decide_eq_false h5
   rw [d5] at HH
   go_wp2_with fail
   exact HH.out
 have b1 : (kind == 1) = false := by simpa using k1
 by_cases k2 : kind = 2
 ·have b2 : (kind == 2) = true := by simpa using k2
  have HG : Hid (∀ v, v = ((need == 1) && (grace == 0)) → R (.returned (.bool v)) w4) := Lib.hid fun v h => HF.out v (by rw [b1, b2, h]; rfl)
  clear k1 k2 HF
  by_cases h2 : need = 1
  ·have c2 : (need == 1) = true := by simpa using h2
   have HH := Lib.hid (HG.out (grace == 0) (by rw [c2]; rfl))
   clear HG h2
   go_wp2_with fail
   exact HH.out
  ·have c2 : (need == 1) = false := by simpa using h2
   have HH := Lib.hid (HG.out false (by rw [c2]; rfl))
   clear HG h2
   go_wp2_with fail
   exact HH.out
 have b2 : (kind == 2) = false := by simpa using k2
 by_cases k3 : kind = 3
 ·have b3 : (kind == 3) = true := by simpa using k3
  have HG : Hid (∀ v, v = ((need == 1) && ((grace == 0) && !fin)) → R (.returned (.bool v)) w4) := Lib.hid fun v h => HF.out v (by rw [b1, b2, b3, h]; rfl)
  clear k1 k2 k3 HF
  by_cases h2 : need = 1
  ·have c2 : (need == 1) = true := by simpa using h2
   by_cases h3 : grace = 0
   ·have c3 : (grace == 0) = true := by simpa using h3
    have HH := Lib.hid (HG.out (!fin) (by rw [c2, c3]; rfl))
    clear HG h2 h3
    go_wp2_with fail
    exact HH.out
   ·have c3 : (grace == 0) = false := by simpa using h3
    have HH := Lib.hid (HG.out false (by rw [c3]; simp))
    clear HG h2 h3
    go_wp2_with fail
    exact HH.out
  ·have c2 : (need == 1) = false := by simpa using h2
   have HH := Lib.hid (HG.out false (by rw [c2]; rfl))
   clear HG h2
   go_wp2_with fail
   exact HH.out
 ·have b3 : (kind == 3) = false := by simpa using k3
  have HH := Lib.hid (HF.out false (by rw [b1, b2, b3]; rfl))
  clear k1 k2 k3 HF
  go_wp2_with fail
  exact HH.out
end Go.Proofs.YtekfoaenomgjgaaGreatDoor
