/- Package patch: the zero clause. Condition: none. -/
import Derived.Test.YtekfoaenomgjgaaGreatDoorCvV
set_option maxRecDepth 100000
set_option linter.unusedSimpArgs false
set_option linter.unusedVariables false
set_option linter.unnecessarySimpa false
namespace Go.Proofs.YtekfoaenomgjgaaGreatDoor
open Go.RowKit Go.W32 Go.Blk Go.Cs Go.Lib Go.Opn Go.Mg Go.Cv

theorem exec_ratZ {ρ : Operand → Value} {op : Oper} {w : World} {x y : Operand} {n d : Int} (ho : op.op = .binOp .eql 43 x y 43) (hx : ρ x = .agg [.int .i64 n, .int .i64 d].toArray) (hy : ρ y = .agg #[.int .i64 0, .int .i64 0]) :
  (execOp ρ op).run Tryz.prog w = .ok (.value (.bool ((n == 0) && (d == 0)))) w := by
 unfold execOp
 simp only [ho, hx, hy]
 by_cases h1 : n = 0 <;> by_cases h2 : d = 0 <;> (go_simp <;> simp [h1, h2])
set_option maxHeartbeats 20000000 in
theorem zero_any (k : Kl) (W : World) : Calls Tryz.prog 92 #[.agg (encKl k).toArray] W fun e w' => e = .returned (.bool (k.1.same Cls.zero)) ∧ Below W.heap.size W w' := by
 obtain ⟨R, eR⟩ : ∃ R : Ending → World → Prop, R = fun e w' => e = .returned (.bool (k.1.same Cls.zero)) ∧ Below W.heap.size W w' := ⟨_, rfl⟩
 rw [← eR]
 have FINF : Hid (∀ w', k.1 ≠ Cls.zero → Below W.heap.size W w' → R (.returned (.bool false)) w') := Lib.hid fun w' h hb => by
  have h1 : k.1.same Cls.zero = false := by
   cases hs : k.1.same Cls.zero with
   | false => rfl
   | true => exact absurd (Cls.same_iff.1 hs) h
  rw [eR, h1]; exact ⟨rfl, hb⟩
 have FINT : Hid (∀ w', k.1 = Cls.zero → Below W.heap.size W w' → R (.returned (.bool true)) w') := Lib.hid fun w' h hb => by
  rw [eR, Cls.same_iff.2 h]; exact ⟨rfl, hb⟩
 clear eR
 obtain ⟨ds, eds⟩ : ∃ ds, ds = encKl k := ⟨_, rfl⟩
 have hr1 : Row (W.alloc (.cells ds.toArray 45)) W.heap.size 45 ds := Row.new _ _ _
 have HB1 : Hid (Below W.heap.size W (W.alloc (.cells ds.toArray 45))) := Lib.hid ((Below.refl _ _).alloc (Nat.le_refl _) _)
 have hq := ClsK.ofKl (T := 45) (k := k) (by rw [← eds]; exact hr1)
 have hrg := hq.rg
 obtain ⟨q0, q1, q2, q3, q4, q5, q6, q7, q8, q9, q10, q11, q12, q13, q14, q15⟩ := hq
 rw [← eds]
 obtain ⟨⟨kind, role, act, need, start, after, grace, bus, fin, pause, resume, num, den, unit, dest, waived⟩, kA, kc⟩ := k
 simp only at q0 q1 q2 q3 q4 q5 q6 q7 q8 q9 q10 q11 q12 q13 q14 q15 hrg FINF FINT
 obtain ⟨fs, efs⟩ : ∃ fs : List Value, fs = [.int .i64 num, .int .i64 den] := ⟨_, rfl⟩
 rw [← efs] at hrg
 have HMF := Lib.hid hrg
 have HIF := Lib.hid (info_ra fs (by rw [efs]; rfl))
 obtain ⟨Z, eZ⟩ : ∃ Z, Z = ((num == 0) && (den == 0)) := ⟨_, rfl⟩
 have HRE : Hid (∀ {ρ : Operand → Value} {op : Oper} {x y : Operand} {w : World}, op.op = .binOp .eql 43 x y 43 → ρ x = .agg fs.toArray → ρ y = .agg #[.int .i64 0, .int .i64 0] → (execOp ρ op).run Tryz.prog w = .ok (.value (.bool Z)) w) := Lib.hid fun ho hx hy => by rw [eZ]; rw [efs] at hx; exact exec_ratZ ho hx hy
 have EZ := Lib.hid eZ
 clear eds hr1 hrg efs eZ q11 q12
 by_cases h0 : start.length = 0
 rotate_left
 ·have b0 : ((start.length : Int) == 0) = false := by simp; intro e; exact h0 (by rw [e]; rfl)
  have HF := Lib.hid (FINF.out _ (fun e => h0 (by rw [show start = [] from congrArg Cls.start e]; rfl)) HB1.out)
  clear h0
  go_enter Tryz.func92, Tryz.ntmps92
  go_wp2_with (first
   | (refine at_load (.tmp 58) ?_; refine Row.still (by first|exact Free.wanted_of rfl rfl rfl|rfl) (Hk.exec_mid 43 (.tmp 58) rfl W.heap.size 11 rfl fs _ HMF.out Tryz.underlying43 rfl HIF.out) ?_; simp only [Act.put, Pt1, Pt2, Pt3])
   | (refine at_eq 43 ?_; refine Row.still (by first|exact Free.wanted_of rfl rfl rfl|rfl) (HRE.out rfl rfl rfl) ?_; simp only [Act.put, Pt1, Pt2, Pt3]))
  exact HF.out
 have b0 : ((start.length : Int) == 0) = true := by simp; exact List.length_eq_zero_iff.1 h0
 by_cases h1 : kind = 0
 rotate_left
 ·have b1 : (kind == 0) = false := by simpa using h1
  have HF := Lib.hid (FINF.out _ (fun e => h1 (congrArg Cls.kind e)) HB1.out)
  clear h1
  go_enter Tryz.func92, Tryz.ntmps92
  go_wp2_with (first
   | (refine at_load (.tmp 58) ?_; refine Row.still (by first|exact Free.wanted_of rfl rfl rfl|rfl) (Hk.exec_mid 43 (.tmp 58) rfl W.heap.size 11 rfl fs _ HMF.out Tryz.underlying43 rfl HIF.out) ?_; simp only [Act.put, Pt1, Pt2, Pt3])
   | (refine at_eq 43 ?_; refine Row.still (by first|exact Free.wanted_of rfl rfl rfl|rfl) (HRE.out rfl rfl rfl) ?_; simp only [Act.put, Pt1, Pt2, Pt3]))
  exact HF.out
 have b1 : (kind == 0) = true := by simpa using h1
 by_cases h2 : role = 0
 rotate_left
 ·have b2 : (role == 0) = false := by simpa using h2
  have HF := Lib.hid (FINF.out _ (fun e => h2 (congrArg Cls.role e)) HB1.out)
  clear h2
  go_enter Tryz.func92, Tryz.ntmps92
  go_wp2_with (first
   | (refine at_load (.tmp 58) ?_; refine Row.still (by first|exact Free.wanted_of rfl rfl rfl|rfl) (Hk.exec_mid 43 (.tmp 58) rfl W.heap.size 11 rfl fs _ HMF.out Tryz.underlying43 rfl HIF.out) ?_; simp only [Act.put, Pt1, Pt2, Pt3])
   | (refine at_eq 43 ?_; refine Row.still (by first|exact Free.wanted_of rfl rfl rfl|rfl) (HRE.out rfl rfl rfl) ?_; simp only [Act.put, Pt1, Pt2, Pt3]))
  exact HF.out
 have b2 : (role == 0) = true := by simpa using h2
 by_cases h3 : act = 0
 rotate_left
 ·have b3 : (act == 0) = false := by simpa using h3
  have HF := Lib.hid (FINF.out _ (fun e => h3 (congrArg Cls.act e)) HB1.out)
  clear h3
  go_enter Tryz.func92, Tryz.ntmps92
  go_wp2_with (first
   | (refine at_load (.tmp 58) ?_; refine Row.still (by first|exact Free.wanted_of rfl rfl rfl|rfl) (Hk.exec_mid 43 (.tmp 58) rfl W.heap.size 11 rfl fs _ HMF.out Tryz.underlying43 rfl HIF.out) ?_; simp only [Act.put, Pt1, Pt2, Pt3])
   | (refine at_eq 43 ?_; refine Row.still (by first|exact Free.wanted_of rfl rfl rfl|rfl) (HRE.out rfl rfl rfl) ?_; simp only [Act.put, Pt1, Pt2, Pt3]))
  exact HF.out
 have b3 : (act == 0) = true := by simpa using h3
 by_cases h4 : need = 0
 rotate_left
 ·have b4 : (need == 0) = false := by simpa using h4
  have HF := Lib.hid (FINF.out _ (fun e => h4 (congrArg Cls.need e)) HB1.out)
  clear h4
  go_enter Tryz.func92, Tryz.ntmps92
  go_wp2_with (first
   | (refine at_load (.tmp 58) ?_; refine Row.still (by first|exact Free.wanted_of rfl rfl rfl|rfl) (Hk.exec_mid 43 (.tmp 58) rfl W.heap.size 11 rfl fs _ HMF.out Tryz.underlying43 rfl HIF.out) ?_; simp only [Act.put, Pt1, Pt2, Pt3])
   | (refine at_eq 43 ?_; refine Row.still (by first|exact Free.wanted_of rfl rfl rfl|rfl) (HRE.out rfl rfl rfl) ?_; simp only [Act.put, Pt1, Pt2, Pt3]))
  exact HF.out
 have b4 : (need == 0) = true := by simpa using h4
 by_cases h5 : after = 0
 rotate_left
 ·have b5 : (after == 0) = false := by simpa using h5
  have HF := Lib.hid (FINF.out _ (fun e => h5 (congrArg Cls.after e)) HB1.out)
  clear h5
  go_enter Tryz.func92, Tryz.ntmps92
  go_wp2_with (first
   | (refine at_load (.tmp 58) ?_; refine Row.still (by first|exact Free.wanted_of rfl rfl rfl|rfl) (Hk.exec_mid 43 (.tmp 58) rfl W.heap.size 11 rfl fs _ HMF.out Tryz.underlying43 rfl HIF.out) ?_; simp only [Act.put, Pt1, Pt2, Pt3])
   | (refine at_eq 43 ?_; refine Row.still (by first|exact Free.wanted_of rfl rfl rfl|rfl) (HRE.out rfl rfl rfl) ?_; simp only [Act.put, Pt1, Pt2, Pt3]))
  exact HF.out
 have b5 : (after == 0) = true := by simpa using h5
 by_cases h6 : grace = 0
 rotate_left
 ·have b6 : (grace == 0) = false := by simpa using h6
  have HF := Lib.hid (FINF.out _ (fun e => h6 (congrArg Cls.grace e)) HB1.out)
  clear h6
  go_enter Tryz.func92, Tryz.ntmps92
  go_wp2_with (first
   | (refine at_load (.tmp 58) ?_; refine Row.still (by first|exact Free.wanted_of rfl rfl rfl|rfl) (Hk.exec_mid 43 (.tmp 58) rfl W.heap.size 11 rfl fs _ HMF.out Tryz.underlying43 rfl HIF.out) ?_; simp only [Act.put, Pt1, Pt2, Pt3])
   | (refine at_eq 43 ?_; refine Row.still (by first|exact Free.wanted_of rfl rfl rfl|rfl) (HRE.out rfl rfl rfl) ?_; simp only [Act.put, Pt1, Pt2, Pt3]))
  exact HF.out
 have b6 : (grace == 0) = true := by simpa using h6
 by_cases h7 : bus = false
 rotate_left
 ·obtain rfl : bus = true := by simpa using h7
  have HF := Lib.hid (FINF.out _ (fun e => h7 (congrArg Cls.bus e)) HB1.out)
  clear h7
  go_enter Tryz.func92, Tryz.ntmps92
  go_wp2_with (first
   | (refine at_load (.tmp 58) ?_; refine Row.still (by first|exact Free.wanted_of rfl rfl rfl|rfl) (Hk.exec_mid 43 (.tmp 58) rfl W.heap.size 11 rfl fs _ HMF.out Tryz.underlying43 rfl HIF.out) ?_; simp only [Act.put, Pt1, Pt2, Pt3])
   | (refine at_eq 43 ?_; refine Row.still (by first|exact Free.wanted_of rfl rfl rfl|rfl) (HRE.out rfl rfl rfl) ?_; simp only [Act.put, Pt1, Pt2, Pt3]))
  exact HF.out
 subst h7
 by_cases h8 : fin = false
 rotate_left
 ·obtain rfl : fin = true := by simpa using h8
  have HF := Lib.hid (FINF.out _ (fun e => h8 (congrArg Cls.fin e)) HB1.out)
  clear h8
  go_enter Tryz.func92, Tryz.ntmps92
  go_wp2_with (first
   | (refine at_load (.tmp 58) ?_; refine Row.still (by first|exact Free.wanted_of rfl rfl rfl|rfl) (Hk.exec_mid 43 (.tmp 58) rfl W.heap.size 11 rfl fs _ HMF.out Tryz.underlying43 rfl HIF.out) ?_; simp only [Act.put, Pt1, Pt2, Pt3])
   | (refine at_eq 43 ?_; refine Row.still (by first|exact Free.wanted_of rfl rfl rfl|rfl) (HRE.out rfl rfl rfl) ?_; simp only [Act.put, Pt1, Pt2, Pt3]))
  exact HF.out
 subst h8
 by_cases h9 : pause = 0
 rotate_left
 ·have b9 : (pause == 0) = false := by simpa using h9
  have HF := Lib.hid (FINF.out _ (fun e => h9 (congrArg Cls.pause e)) HB1.out)
  clear h9
  go_enter Tryz.func92, Tryz.ntmps92
  go_wp2_with (first
   | (refine at_load (.tmp 58) ?_; refine Row.still (by first|exact Free.wanted_of rfl rfl rfl|rfl) (Hk.exec_mid 43 (.tmp 58) rfl W.heap.size 11 rfl fs _ HMF.out Tryz.underlying43 rfl HIF.out) ?_; simp only [Act.put, Pt1, Pt2, Pt3])
   | (refine at_eq 43 ?_; refine Row.still (by first|exact Free.wanted_of rfl rfl rfl|rfl) (HRE.out rfl rfl rfl) ?_; simp only [Act.put, Pt1, Pt2, Pt3]))
  exact HF.out
 have b9 : (pause == 0) = true := by simpa using h9
 by_cases h10 : resume = 0
 rotate_left
 ·have b10 : (resume == 0) = false := by simpa using h10
  have HF := Lib.hid (FINF.out _ (fun e => h10 (congrArg Cls.resume e)) HB1.out)
  clear h10
  go_enter Tryz.func92, Tryz.ntmps92
  go_wp2_with (first
   | (refine at_load (.tmp 58) ?_; refine Row.still (by first|exact Free.wanted_of rfl rfl rfl|rfl) (Hk.exec_mid 43 (.tmp 58) rfl W.heap.size 11 rfl fs _ HMF.out Tryz.underlying43 rfl HIF.out) ?_; simp only [Act.put, Pt1, Pt2, Pt3])
   | (refine at_eq 43 ?_; refine Row.still (by first|exact Free.wanted_of rfl rfl rfl|rfl) (HRE.out rfl rfl rfl) ?_; simp only [Act.put, Pt1, Pt2, Pt3]))
  exact HF.out
 have b10 : (resume == 0) = true := by simpa using h10
 by_cases h11 : num = 0 ∧ den = 0
 rotate_left
 ·obtain rfl : Z = false := by rw [EZ.out, Bool.eq_false_iff]; simpa using h11
  have HF := Lib.hid (FINF.out _ (fun e => h11 ⟨congrArg Cls.num e, congrArg Cls.den e⟩) HB1.out)
  clear h11
  go_enter Tryz.func92, Tryz.ntmps92
  go_wp2_with (first
   | (refine at_load (.tmp 58) ?_; refine Row.still (by first|exact Free.wanted_of rfl rfl rfl|rfl) (Hk.exec_mid 43 (.tmp 58) rfl W.heap.size 11 rfl fs _ HMF.out Tryz.underlying43 rfl HIF.out) ?_; simp only [Act.put, Pt1, Pt2, Pt3])
   | (refine at_eq 43 ?_; refine Row.still (by first|exact Free.wanted_of rfl rfl rfl|rfl) (HRE.out rfl rfl rfl) ?_; simp only [Act.put, Pt1, Pt2, Pt3]))
  exact HF.out
 obtain rfl : Z = true := by rw [EZ.out, h11.1, h11.2]; rfl
 by_cases h12 : unit = 0
 rotate_left
 ·have b12 : (unit == 0) = false := by simpa using h12
  have HF := Lib.hid (FINF.out _ (fun e => h12 (congrArg Cls.unit e)) HB1.out)
  clear h12
  go_enter Tryz.func92, Tryz.ntmps92
  go_wp2_with (first
   | (refine at_load (.tmp 58) ?_; refine Row.still (by first|exact Free.wanted_of rfl rfl rfl|rfl) (Hk.exec_mid 43 (.tmp 58) rfl W.heap.size 11 rfl fs _ HMF.out Tryz.underlying43 rfl HIF.out) ?_; simp only [Act.put, Pt1, Pt2, Pt3])
   | (refine at_eq 43 ?_; refine Row.still (by first|exact Free.wanted_of rfl rfl rfl|rfl) (HRE.out rfl rfl rfl) ?_; simp only [Act.put, Pt1, Pt2, Pt3]))
  exact HF.out
 have b12 : (unit == 0) = true := by simpa using h12
 by_cases h13 : dest = 0
 rotate_left
 ·have b13 : (dest == 0) = false := by simpa using h13
  have HF := Lib.hid (FINF.out _ (fun e => h13 (congrArg Cls.to e)) HB1.out)
  clear h13
  go_enter Tryz.func92, Tryz.ntmps92
  go_wp2_with (first
   | (refine at_load (.tmp 58) ?_; refine Row.still (by first|exact Free.wanted_of rfl rfl rfl|rfl) (Hk.exec_mid 43 (.tmp 58) rfl W.heap.size 11 rfl fs _ HMF.out Tryz.underlying43 rfl HIF.out) ?_; simp only [Act.put, Pt1, Pt2, Pt3])
   | (refine at_eq 43 ?_; refine Row.still (by first|exact Free.wanted_of rfl rfl rfl|rfl) (HRE.out rfl rfl rfl) ?_; simp only [Act.put, Pt1, Pt2, Pt3]))
  exact HF.out
 have b13 : (dest == 0) = true := by simpa using h13
 by_cases h14 : waived = false
 rotate_left
 ·obtain rfl : waived = true := by simpa using h14
  have HF := Lib.hid (FINF.out _ (fun e => h14 (congrArg Cls.waived e)) HB1.out)
  clear h14
  go_enter Tryz.func92, Tryz.ntmps92
  go_wp2_with (first
   | (refine at_load (.tmp 58) ?_; refine Row.still (by first|exact Free.wanted_of rfl rfl rfl|rfl) (Hk.exec_mid 43 (.tmp 58) rfl W.heap.size 11 rfl fs _ HMF.out Tryz.underlying43 rfl HIF.out) ?_; simp only [Act.put, Pt1, Pt2, Pt3])
   | (refine at_eq 43 ?_; refine Row.still (by first|exact Free.wanted_of rfl rfl rfl|rfl) (HRE.out rfl rfl rfl) ?_; simp only [Act.put, Pt1, Pt2, Pt3]))
  exact HF.out
 subst h14
 have HF := Lib.hid (FINT.out _ (by
  unfold Cls.zero
  rw [List.length_eq_zero_iff.1 h0, h1, h2, h3, h4, h5, h6, h9, h10, h11.1, h11.2, h12, h13]) HB1.out)
 clear h0 h1 h2 h3 h4 h5 h6 h9 h10 h11 h12 h13
 go_enter Tryz.func92, Tryz.ntmps92
 go_wp2_with (first
  | (refine at_load (.tmp 58) ?_; refine Row.still (by first|exact Free.wanted_of rfl rfl rfl|rfl) (Hk.exec_mid 43 (.tmp 58) rfl W.heap.size 11 rfl fs _ HMF.out Tryz.underlying43 rfl HIF.out) ?_; simp only [Act.put, Pt1, Pt2, Pt3])
  | (refine at_eq 43 ?_; refine Row.still (by first|exact Free.wanted_of rfl rfl rfl|rfl) (HRE.out rfl rfl rfl) ?_; simp only [Act.put, Pt1, Pt2, Pt3]))
 exact HF.out
end Go.Proofs.YtekfoaenomgjgaaGreatDoor
