/- Package contract: contracts in memory; small functions on them. Condition: the contract lies in memory. -/
import Derived.Test.YtekfoaenomgjgaaGreatDoorCvR
set_option maxRecDepth 100000
set_option linter.unusedSimpArgs false
set_option linter.unusedVariables false
namespace Go.Cv
open Go Go.Cs Go.Opn Go.RowKit
/-- An act type. -/
structure AcT where
 kind : Int
 role : Int
 give : Int
 dest : Int
 unit : Int
 num : Int
 den : Int
def encAc (a : AcT) : List Value := [.int .i64 a.kind, .int .i64 a.role, .int .i64 a.give, .int .i64 a.dest, .int .i64 a.unit, .int .i64 a.num, .int .i64 a.den]
/-- A clause and where its conditions lie. -/
abbrev Kl := Cls × (Option Addr × Nat)
def encKl (k : Kl) : List Value := encCls k.1 (.slice k.2.1 k.1.start.length k.2.2)
/-- A contract, as plain data. -/
structure Con where
 parties : Int
 holders : List Int
 units : List Un
 acts : List AcT
 cls : List Cls
 days : Int
 off : List Int
/-- A contract and where its lists lie. -/
structure ConM where
 parties : Int
 holders : List Int
 units : List Un
 acts : List AcT
 kls : List Kl
 days : Int
 off : List Int
 hA : Option Addr
 hc : Nat
 uA : Option Addr
 uc : Nat
 aA : Option Addr
 ac : Nat
 kA : Option Addr
 kc : Nat
 oA : Option Addr
 oc : Nat
def ConM.con (c : ConM) : Con := ⟨c.parties, c.holders, c.units, c.acts, c.kls.map Prod.fst, c.days, c.off⟩
def encCon (c : ConM) : List Value := [.int .i64 c.parties, .slice c.hA c.holders.length c.hc, .slice c.uA c.units.length c.uc, .slice c.aA c.acts.length c.ac, .slice c.kA c.kls.length c.kc, .int .i64 c.days, .slice c.oA c.off.length c.oc]
theorem encCon_one (c : ConM) : ∀ v ∈ encCon c, v.oneCell' = true := fun v hv => by
 simp only [encCon, List.mem_cons, List.not_mem_nil, or_false] at hv
 rcases hv with rfl | rfl | rfl | rfl | rfl | rfl | rfl <;> rfl
structure ConAt (w : World) (c : ConM) : Prop where
 h : SL w 1 Cs.encI c.hA c.holders
 u : SL w 5 encUn c.uA c.units
 a : SL w 7 encAc c.aA c.acts
 k : SL w 16 encKl c.kA c.kls
 o : SL w 1 Cs.encI c.oA c.off
 st : ∀ k ∈ c.kls, SL w 2 encCond k.2.1 k.1.start
theorem ConAt.below {w w' : World} {c : ConM} {B : Nat} (h : ConAt w c) (hb : Below B w w') (hB : w.heap.size ≤ B) : ConAt w' c :=
 ⟨h.h.below hb hB, h.u.below hb hB, h.a.below hb hB, h.k.below hb hB, h.o.below hb hB, fun k hk => (h.st k hk).below hb hB⟩
/-- The lengths of a contract's lists are lengths. -/
structure ConSz (c : ConM) : Prop where
 h : c.holders.length ≤ 9223372036854775807
 u : c.units.length ≤ 9223372036854775807
 a : c.acts.length ≤ 9223372036854775807
 k : c.kls.length ≤ 9223372036854775807
 o : c.off.length ≤ 9223372036854775807
 uc : c.units.length ≤ c.uc
 st : ∀ k ∈ c.kls, k.1.start.length ≤ 9223372036854775807
def movB (n : Nat) (i : Int) : Bool := decide (0 ≤ i) && decide (i < (n : Int))
def posB (num den : Int) : Bool := decide (0 < num) && ratV num den
def natB (acs : List AcT) (i : Int) : Bool := movB acs.length i && (match acs[i.toNat]? with | some a => decide (a.kind = 1) && decide (a.role = -1) | none => false)
end Go.Cv
namespace Go.Proofs.YtekfoaenomgjgaaGreatDoor
open Go.RowKit Go.W32 Go.Blk Go.Cs Go.Lib Go.Opn Go.Mg Go.Cv

/-- A contract boxed. -/
structure BoxC (W W1 : World) (c : ConM) (cs : List Value) : Prop where
 row : Row W1 W.heap.size 27 cs
 below : Below W.heap.size W W1
 e : W.alloc (.cells cs.toArray 27) = W1
 cs : cs = encCon c
theorem boxC (W : World) (c : ConM) : ∃ W1 cs, BoxC W W1 c cs := ⟨_, _, Row.new _ _ _, (Below.refl _ _).alloc (Nat.le_refl _) _, rfl, rfl⟩
/-- The cells of a boxed contract. -/
structure ConC (w : World) (b : Nat) (c : ConM) : Prop where
 k0 : w.cell? ⟨b, 0, none⟩ = some (.int .i64 c.parties)
 k1 : w.cell? ⟨b, 1, none⟩ = some (.slice c.hA c.holders.length c.hc)
 k2 : w.cell? ⟨b, 2, none⟩ = some (.slice c.uA c.units.length c.uc)
 k3 : w.cell? ⟨b, 3, none⟩ = some (.slice c.aA c.acts.length c.ac)
 k4 : w.cell? ⟨b, 4, none⟩ = some (.slice c.kA c.kls.length c.kc)
 k5 : w.cell? ⟨b, 5, none⟩ = some (.int .i64 c.days)
 k6 : w.cell? ⟨b, 6, none⟩ = some (.slice c.oA c.off.length c.oc)
theorem ConC.of {w : World} {b : Nat} {T : TypeId} {c : ConM} (h : Row w b T (encCon c)) : ConC w b c := ⟨h.at rfl, h.at rfl, h.at rfl, h.at rfl, h.at rfl, h.at rfl, h.at rfl⟩
theorem info_co (cs : List Value) (h : cs.length = 7) : (Tryz.prog.info? 27).map (·.size) = some cs.length := by rw [h]; kernel_rfl
theorem mov_any (c : ConM) (i : Int) (W : World) : Calls Tryz.prog 127 #[.agg (encCon c).toArray, .int .i64 i] W fun e w' => e = .returned (.bool (movB c.holders.length i)) ∧ Below W.heap.size W w' := by
 obtain ⟨R, eR⟩ : ∃ R : Ending → World → Prop, R = fun e w' => e = .returned (.bool (movB c.holders.length i)) ∧ Below W.heap.size W w' := ⟨_, rfl⟩
 rw [← eR]
 have FIN : Hid (∀ w' v, v = movB c.holders.length i → Below W.heap.size W w' → R (.returned (.bool v)) w') := Lib.hid fun w' v h hb => by rw [eR, h]; exact ⟨rfl, hb⟩
 clear eR
 obtain ⟨W1, cs, hx⟩ := boxC W c
 have hq := ConC.of (T := 27) (b := W.heap.size) (w := W1) (c := c) (by rw [← hx.cs]; exact hx.row)
 obtain ⟨k0, k1, k2, k3, k4, k5, k6⟩ := hq
 have E1 := Lib.hid hx.e
 have HB1 := Lib.hid hx.below
 rw [← hx.cs]
 clear hx k0 k2 k3 k4 k5 k6
 by_cases h : 0 ≤ i
 ·have hb : decide (0 ≤ i) = true := decide_eq_true h
  by_cases h2 : i < (c.holders.length : Int)
  ·have hb2 : decide (i < (c.holders.length : Int)) = true := decide_eq_true h2
   have HF := Lib.hid (FIN.out W1 true (by unfold movB; rw [hb, hb2]; rfl) HB1.out)
   clear FIN
   go_enter Tryz.func127, Tryz.ntmps127
   go_wp2_with (simp only [E1.out])
   exact HF.out
  ·have hb2 : decide (i < (c.holders.length : Int)) = false := decide_eq_false h2
   have HF := Lib.hid (FIN.out W1 false (by unfold movB; rw [hb, hb2]; rfl) HB1.out)
   clear FIN
   go_enter Tryz.func127, Tryz.ntmps127
   go_wp2_with (simp only [E1.out])
   exact HF.out
 ·have hb : decide (0 ≤ i) = false := decide_eq_false h
  have HF := Lib.hid (FIN.out W1 false (by unfold movB; rw [hb]; rfl) HB1.out)
  clear FIN
  go_enter Tryz.func127, Tryz.ntmps127
  go_wp2_with (simp only [E1.out])
  exact HF.out
theorem none_any (W : World) : Calls Tryz.prog 125 #[] W fun e w' => e = .returned (.agg #[.int .i64 0, .int .i64 1]) ∧ Below W.heap.size W w' := by
 go_enter Tryz.func125, Tryz.ntmps125
 go_wp2_with fail
 exact bodyPost_ret (v := .agg #[.int .i64 0, .int .i64 1]) (by simp [results, Tryz.results125, go_sem]) rfl ⟨rfl, (Below.refl _ _).alloc (Nat.le_refl _) _⟩
theorem pos_any (num den : Int) (W : World) : Calls Tryz.prog 126 #[.agg #[.int .i64 num, .int .i64 den]] W fun e w' => e = .returned (.bool (posB num den)) ∧ Below W.heap.size W w' := by
 obtain ⟨R, eR⟩ : ∃ R : Ending → World → Prop, R = fun e w' => e = .returned (.bool (posB num den)) ∧ Below W.heap.size W w' := ⟨_, rfl⟩
 rw [← eR]
 have FIN : Hid (∀ w' v, v = posB num den → Below W.heap.size W w' → R (.returned (.bool v)) w') := Lib.hid fun w' v h hb => by rw [eR, h]; exact ⟨rfl, hb⟩
 clear eR
 obtain ⟨fs, efs⟩ : ∃ fs : List Value, fs = [.int .i64 num, .int .i64 den] := ⟨_, rfl⟩
 obtain ⟨W1, e1⟩ : ∃ W1, W1 = W.alloc (.cells fs.toArray 43) := ⟨_, rfl⟩
 have hr1 : Row W1 W.heap.size 43 fs := by rw [e1]; exact Row.new _ _ _
 have HB1 : Hid (Below W.heap.size W W1) := Lib.hid (by rw [e1]; exact (Below.refl _ _).alloc (Nat.le_refl _) _)
 have E1 : Hid (W.alloc (.cells fs.toArray 43) = W1) := Lib.hid e1.symm
 have c0 := hr1.at (show fs[0]? = some (.int .i64 num) by rw [efs]; rfl)
 have HM := Lib.hid (hr1.range fun j v hj => (show fs[0 + j]? = some v by rw [Nat.zero_add]; exact hj))
 have HI := Lib.hid (info_ra fs (by rw [efs]; rfl))
 have CR := Lib.hid (rat_any num den W1)
 rw [show (#[.int .i64 num, .int .i64 den] : Array Value) = fs.toArray by rw [efs]] at CR ⊢
 obtain ⟨V, eV⟩ : ∃ V, V = ratV num den := ⟨_, rfl⟩
 have HV : Hid (posB num den = (decide (0 < num) && V)) := Lib.hid (by unfold posB; rw [eV])
 rw [← eV] at CR
 clear e1 hr1 efs eV
 by_cases h : 0 < num
 ·have HV2 : Hid (V = posB num den) := Lib.hid (by rw [HV.out, decide_eq_true h]; rfl)
  go_enter Tryz.func126, Tryz.ntmps126
  go_wp2_with (first
   | (simp only [E1.out])
   | (refine at_load (.tmp 1) ?_; refine Row.still (by first|exact Free.wanted_of rfl rfl rfl|rfl) (Hk.exec_mid 43 (.tmp 1) rfl W.heap.size 0 rfl fs _ HM.out Tryz.underlying43 rfl HI.out) ?_; simp only [Act.put, Pt1, Pt2, Pt3]))
  refine CR.out.mono ?_
  rintro e w2 ⟨rfl, hb2⟩
  have HF := Lib.hid (FIN.out w2 V HV2.out (HB1.out.trans (hb2.mono HB1.out.size)))
  clear hb2 CR FIN
  go_wp2_with fail
  exact HF.out
 ·have HF := Lib.hid (FIN.out W1 false (by rw [HV.out, decide_eq_false h]; rfl) HB1.out)
  clear FIN
  go_enter Tryz.func126, Tryz.ntmps126
  go_wp2_with (simp only [E1.out])
  exact HF.out
end Go.Proofs.YtekfoaenomgjgaaGreatDoor
