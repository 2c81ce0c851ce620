/- What the regions of the law of final agreements have come to. No condition. The law of final agreements. Condition: the contract and the letters lie in memory; the variables of digest and strconv hold their numbers. Opening a contract that is a law's argument. No condition. The law of final agreements, for its card. Condition: as VeQ. -/
import Derived.Test.YtekfoaenomgjgaaGreatDoorVeP
import Derived.Test.YtekfoaenomgjgaaGreatDoorFre6
import Derived.Test.YtekfoaenomgjgaaGreatDoorCvS
import Derived.Test.YtekfoaenomgjgaaGreatDoorYF
set_option maxRecDepth 100000
set_option linter.unusedSimpArgs false
set_option linter.unusedVariables false
set_option linter.unnecessarySimpa false
namespace Go.Proofs.YtekfoaenomgjgaaGreatDoor
open Go.RowKit Go.W32 Go.Blk Go.Cs Go.Lib Go.Opn Go.Mg Go.Cv

def fA : Value → Array Value
 | .tuple #[.agg a, _, _] => a
 | _ => #[]
def gB : Value → Value
 | .tuple #[_, b, _] => b
 | _ => undef
def gN : Value → Nat
 | .int _ n => n.toNat
 | _ => 0
/-- The letters of a day, in memory. -/
def UnF (l : List Rl) (y : Value) (w : World) : Prop := ∃ A k, y = .slice A l.length k ∧ SL w 25 encLet A l
/-- Amendments in memory. -/
def AgF (L : List Pr) (y : Value) (w : World) : Prop := ∃ A k am, y = .slice A am.length k ∧ SL w 22 encAm A am ∧ (∀ x ∈ am, PatAt w x.1.x.patch x.2) ∧ am.map Prod.fst = L ∧ am.length ≤ 4000
/-- What is in force, plainly. -/
def IfP (c : Con) (L : List Pr) (day kn : Int) (c' : ConM) (nums : List Int) : Prop :=
 (errA c L.length = 0 ∧ ∃ am pl, am.map Prod.fst = L ∧ Ord am pl ∧ (c'.con, nums) = forceF day (c, []) ((knownL kn pl).map Prod.fst)) ∨ (errA c L.length ≠ 0 ∧ c' = conZ ∧ nums = [])
/-- What is in force, in memory. -/
def IfR (c : Con) (L : List Pr) (day kn : Int) (y : Value) (w : World) : Prop :=
 ∃ c' v nums, y = .tuple #[.agg (encCon c').toArray, v, .int .i64 (errA c L.length)] ∧ IfP c L day kn c' nums ∧ ConOw 0 w c' ∧ w.ownsRow 0 3 1 v nums.length (nums.flatMap Cs.encI) ∧ nums.length ≤ 4000
theorem UnF.below {l : List Rl} {y : Value} {w w' : World} (h : UnF l y w) (hb : Below w.heap.size w w') : UnF l y w' := by
 obtain ⟨A, k, e, hs⟩ := h
 exact ⟨A, k, e, hs.below hb (Nat.le_refl _)⟩
theorem AgF.below {L : List Pr} {y : Value} {w w' : World} (h : AgF L y w) (hb : Below w.heap.size w w') : AgF L y w' := by
 obtain ⟨A, k, am, e, hs, hp, hm, hn⟩ := h
 exact ⟨A, k, am, e, hs.below hb (Nat.le_refl _), fun x hx => (hp x hx).below hb (Nat.le_refl _), hm, hn⟩
theorem IfR.keep {c : Con} {L : List Pr} {day kn : Int} {y : Value} {w w' : World} (h : IfR c L day kn y w) (hk : ∀ (g : Nat) (cs : Array Value) (t : TypeId), w.heap[g]? = some (Obj.cells cs t (0, 0)) → t ≠ 27 → w'.heap[g]? = w.heap[g]?) : IfR c L day kn y w' := by
 obtain ⟨c', v, nums, e, hp, ho, hr, hn⟩ := h
 refine ⟨c', v, nums, e, hp, ho.keep fun g T hg _ hT _ => ?_, owns_keep hr fun g hg => ?_, hn⟩
 ·obtain ⟨cs, t, rfl, hne⟩ := hT
  exact hk g cs t hg hne
 ·rcases hr.2 with ⟨rfl, _⟩ | ⟨g', cap, cur, rfl, _, hg', _⟩
  ·cases hg
  ·have : g' = g := Option.some.inj hg
   subst this
   exact hk _ _ _ hg' (by decide)
theorem IfR.below {c : Con} {L : List Pr} {day kn : Int} {y : Value} {w w' : World} (h : IfR c L day kn y w) (hb : Below w.heap.size w w') : IfR c L day kn y w' :=
 h.keep fun g _ _ hg _ => hb.block g (Array.getElem?_eq_some_iff.1 hg).1
theorem IfR.of {c : ConM} {am : List (Pr × Hd)} {L : List Pr} {day kn : Int} {W w : World} {e : Ending} (hm : am.map Prod.fst = L) (h : IfPost c am day kn W e w) : Below W.heap.size W w ∧ ∃ y, e = .returned y ∧ IfR c.con L day kn y w := by
 have hl : am.length = L.length := by rw [← hm, List.length_map]
 obtain ⟨hb, c', v, nums, rfl, hor⟩ := h
 rw [hl] at hor
 refine ⟨hb, _, rfl, c', v, nums, by rw [hl], ?_⟩
 rcases hor with ⟨h1, ⟨pl, ho, hf⟩, how, hn, hr⟩ | ⟨h1, rfl, rfl, rfl⟩
 ·exact ⟨.inl ⟨h1, am, pl, hm, ho, hf⟩, how.mono (Nat.zero_le _), owns_mono hr (Nat.zero_le _), hn⟩
 ·exact ⟨.inr ⟨h1, rfl, rfl⟩, ⟨World.ownsRow_nil _ _ _ _, World.ownsRow_nil _ _ _ _, World.ownsRow_nil _ _ _ _, World.ownsRow_nil _ _ _ _, World.ownsRow_nil _ _ _ _, fun _ h => (by cases h)⟩, World.ownsRow_nil _ _ _ _, Nat.zero_le _⟩
/-- How far a region has come: iu the letters, ia the amendments, ii what is in force, ib its box, is the store. -/
structure Cd (iu ia ii ib is_ base : Nat) (l : List Rl) (c : Con) (L : List Pr) (day kn : Int) (zs : List Value) (d : Nat → Option Value) (w : World) : Prop where
 bs : base ≤ w.heap.size
 ord : d is_ ≠ none → d ii ≠ none ∧ d ib ≠ none
 o2 : d ii ≠ none → d ia ≠ none
 un : ∀ y, d iu = some y → d is_ = none → UnF l y w
 ag : ∀ y, d ia = some y → d is_ = none → AgF L y w
 inf : ∀ y, d ii = some y → IfR c L day kn y w
 box : ∀ z, d ib = some z → base ≤ gN z ∧ (d is_ = none → Row w (gN z) 27 zs) ∧ (d is_ ≠ none → ∀ y, d ii = some y → Row w (gN z) 27 (fA y).toList)
section
variable {iu ia ii ib is_ base : Nat} {l : List Rl} {c : Con} {L : List Pr} {day kn : Int} {zs : List Value} {d : Nat → Option Value} {w w' : World}
theorem Cd.grow (h : Cd iu ia ii ib is_ base l c L day kn zs d w) (hb : Below w.heap.size w w') : Cd iu ia ii ib is_ base l c L day kn zs d w' :=
 ⟨Nat.le_trans h.bs hb.size, h.ord, h.o2, fun y e n => (h.un y e n).below hb, fun y e n => (h.ag y e n).below hb, fun y e => (h.inf y e).below hb, fun z e => ⟨(h.box z e).1, fun n => ((h.box z e).2.1 n).below hb ((h.box z e).2.1 n).lt, fun n y e2 => ((h.box z e).2.2 n y e2).below hb ((h.box z e).2.2 n y e2).lt⟩⟩
theorem upd_ne {d : Nat → Option Value} {k j : Nat} {x : Value} (h : j ≠ k) : Fre6.upd d k x j = d j := by unfold Fre6.upd; rw [if_neg h]
theorem upd_eq {d : Nat → Option Value} {k : Nat} {x : Value} : Fre6.upd d k x k = some x := by unfold Fre6.upd; rw [if_pos rfl]
theorem Cd.other (h : Cd iu ia ii ib is_ base l c L day kn zs d w) {k : Nat} {x : Value} (h1 : k ≠ iu) (h2 : k ≠ ia) (h3 : k ≠ ii) (h4 : k ≠ ib) (h5 : k ≠ is_) : Cd iu ia ii ib is_ base l c L day kn zs (Fre6.upd d k x) w := by
 refine ⟨h.bs, ?_, ?_, ?_, ?_, ?_, ?_⟩
 all_goals simp only [upd_ne h1.symm, upd_ne h2.symm, upd_ne h3.symm, upd_ne h4.symm, upd_ne h5.symm]
 ·exact h.ord
 ·exact h.o2
 ·exact h.un
 ·exact h.ag
 ·exact h.inf
 ·exact h.box
theorem Cd.putU (h : Cd iu ia ii ib is_ base l c L day kn zs d w) {x : Value} (hx : UnF l x w) (h2 : iu ≠ ia) (h3 : iu ≠ ii) (h4 : iu ≠ ib) (h5 : iu ≠ is_) : Cd iu ia ii ib is_ base l c L day kn zs (Fre6.upd d iu x) w := by
 refine ⟨h.bs, ?_, ?_, ?_, ?_, ?_, ?_⟩
 all_goals simp only [upd_eq, upd_ne h2.symm, upd_ne h3.symm, upd_ne h4.symm, upd_ne h5.symm]
 ·exact h.ord
 ·exact h.o2
 ·rintro y e _; cases e; exact hx
 ·exact h.ag
 ·exact h.inf
 ·exact h.box
theorem Cd.putA (h : Cd iu ia ii ib is_ base l c L day kn zs d w) {x : Value} (hx : AgF L x w) (h1 : ia ≠ iu) (h3 : ia ≠ ii) (h4 : ia ≠ ib) (h5 : ia ≠ is_) : Cd iu ia ii ib is_ base l c L day kn zs (Fre6.upd d ia x) w := by
 refine ⟨h.bs, ?_, ?_, ?_, ?_, ?_, ?_⟩
 all_goals simp only [upd_eq, upd_ne h1.symm, upd_ne h3.symm, upd_ne h4.symm, upd_ne h5.symm]
 ·exact h.ord
 ·intro _ n; cases n
 ·exact h.un
 ·rintro y e _; cases e; exact hx
 ·exact h.inf
 ·exact h.box
theorem Cd.early (h : Cd iu ia ii ib is_ base l c L day kn zs d w) (hd : d ii = none) : d is_ = none := by
 cases e : d is_ with
 | none => rfl
 | some x => exact absurd hd (h.ord (by rw [e]; simp)).1
theorem Cd.earlyA (h : Cd iu ia ii ib is_ base l c L day kn zs d w) (hd : d ia = none) : d is_ = none := by
 cases e : d is_ with
 | none => rfl
 | some x => exact absurd hd (h.o2 (h.ord (by rw [e]; simp)).1)
theorem Cd.early2 (h : Cd iu ia ii ib is_ base l c L day kn zs d w) (hd : d ib = none) : d is_ = none := by
 cases e : d is_ with
 | none => rfl
 | some x => exact absurd hd (h.ord (by rw [e]; simp)).2
theorem Cd.putI (h : Cd iu ia ii ib is_ base l c L day kn zs d w) {x : Value} (hd : d ii = none) (ha : d ia ≠ none) (hx : IfR c L day kn x w) (h1 : ii ≠ iu) (h2 : ii ≠ ia) (h4 : ii ≠ ib) (h5 : ii ≠ is_) : Cd iu ia ii ib is_ base l c L day kn zs (Fre6.upd d ii x) w := by
 have hs := h.early hd
 refine ⟨h.bs, ?_, ?_, ?_, ?_, ?_, ?_⟩
 all_goals simp only [upd_eq, upd_ne h1.symm, upd_ne h2.symm, upd_ne h4.symm, upd_ne h5.symm]
 ·intro n; exact absurd hs n
 ·intro _; exact ha
 ·exact h.un
 ·exact h.ag
 ·rintro y e; cases e; exact hx
 ·intro z e; exact ⟨(h.box z e).1, (h.box z e).2.1, fun n => absurd hs n⟩
theorem Cd.putB (h : Cd iu ia ii ib is_ base l c L day kn zs d w) {x : Value} (hd : d ib = none) (hx : base ≤ gN x) (hr : Row w (gN x) 27 zs) (h1 : ib ≠ iu) (h2 : ib ≠ ia) (h3 : ib ≠ ii) (h5 : ib ≠ is_) : Cd iu ia ii ib is_ base l c L day kn zs (Fre6.upd d ib x) w := by
 have hs := h.early2 hd
 refine ⟨h.bs, ?_, ?_, ?_, ?_, ?_, ?_⟩
 all_goals simp only [upd_eq, upd_ne h1.symm, upd_ne h2.symm, upd_ne h3.symm, upd_ne h5.symm]
 ·intro n; exact absurd hs n
 ·exact h.o2
 ·exact h.un
 ·exact h.ag
 ·exact h.inf
 ·rintro z e; cases e; exact ⟨hx, fun _ => hr, fun n => absurd hs n⟩
theorem Cd.putS (h : Cd iu ia ii ib is_ base l c L day kn zs d w) {x y z : Value} (hd : d is_ = none) (hi : d ii = some y) (hb : d ib = some z) (h2 : is_ ≠ ia) (h3 : is_ ≠ ii) (h4 : is_ ≠ ib) :
  Below base w (w.setRow (gN z) (fA y)) ∧ Cd iu ia ii ib is_ base l c L day kn zs (Fre6.upd d is_ x) (w.setRow (gN z) (fA y)) := by
 obtain ⟨b1, b2, _⟩ := h.box z hb
 have hr := b2 hd
 have hne : ∀ k, k ≠ gN z → (w.setRow (gN z) (fA y)).heap[k]? = w.heap[k]? := fun k hk => setRow_other hk
 refine ⟨⟨rfl, rfl, rfl, by simp [World.setRow], fun k hk => hne k (by omega)⟩, by have := h.bs; simp [World.setRow]; exact this, ?_, ?_, ?_, ?_, ?_, ?_⟩
 all_goals simp only [upd_eq, upd_ne h2.symm, upd_ne h3.symm, upd_ne h4.symm]
 ·intro _; rw [hi, hb]; simp
 ·exact h.o2
 ·intro _ _ n; cases n
 ·intro _ _ n; cases n
 ·intro y' e
  refine (h.inf y' e).keep fun g cs t hg ht => hne g fun e2 => ?_
  subst e2
  rw [show w.heap[gN z]? = _ from hr] at hg
  injection hg with hg
  injection hg with _ hg
  exact ht hg.symm
 ·intro z' e
  rw [hb] at e
  cases e
  refine ⟨b1, fun n => (by cases n), fun _ y' e => ?_⟩
  rw [hi] at e
  cases e
  have hh := setRow_heap _ _ _ (fA y) _ _ hr
  exact hh
end
end Go.Proofs.YtekfoaenomgjgaaGreatDoor

namespace Go.Proofs.YtekfoaenomgjgaaGreatDoor
open Go.RowKit Go.W32 Go.Blk Go.Cs Go.Lib Go.Opn Go.Mg Go.Cv

theorem small_start {m : Nat} {l : List Rl} (h : smallL m l = true) : ∀ r ∈ l, r.1.patch.new.start.length ≤ 1000000 := fun r hr => by
 unfold smallL at h
 simp only [Bool.and_eq_true, List.all_eq_true] at h
 have h2 := h.2 r hr
 unfold smallR smallP at h2
 simp only [Bool.and_eq_true, decide_eq_true_eq] at h2
 omega
theorem ifp_same {c : Con} {L : List Pr} {day kn : Int} {c1 c2 : ConM} {n1 n2 : List Int} (hr : L.Pairwise fun a b => a.num < b.num) (hL : L.length ≤ 60) (h1 : IfP c L day kn c1 n1) (h2 : IfP c (L.filter fun q => decide (q.known ≤ kn)) day kn c2 n2) :
  errA c L.length = errA c (L.filter fun q => decide (q.known ≤ kn)).length ∧ c1.con = c2.con ∧ n1 = n2 ∧ ConShort c1 := by
 have l2 := List.length_filter_le (fun q : Pr => decide (q.known ≤ kn)) L
 have ee : errA c L.length = errA c (L.filter fun q => decide (q.known ≤ kn)).length := by
  have l3 : (L.filter fun q => decide (q.known ≤ kn)).length ≤ 60 := by omega
  unfold errA; simp only [hL, l3, if_true]
 refine ⟨ee, ?_⟩
 rcases h1 with ⟨z1, am1, pl1, m1, o1, f1⟩ | ⟨z1, rfl, rfl⟩
 ·rcases h2 with ⟨z2, am2, pl2, m2, o2, f2⟩ | ⟨z2, _⟩
  ·have hk := known_eq (kn := kn) o1 o2 hr m1 m2
   rw [hk, ← f2] at f1
   have ec : c1.con = c2.con := congrArg Prod.fst f1
   have en : n1 = n2 := congrArg Prod.snd f1
   have hv : errC c1.con = 0 := by
    rw [ec]
    have := force_valid day ((knownL kn pl2).map Prod.fst) (c, []) (by
     have hz := z1
     unfold errA at hz
     by_cases hh : errC c = 0
     ·exact hh
     ·rw [if_neg hh] at hz; exact absurd hz (by decide))
    rw [← f2] at this; exact this
   exact ⟨ec, en, errC_short hv⟩
  ·exact absurd (ee ▸ z1) z2
 ·rcases h2 with ⟨z2, _⟩ | ⟨z2, rfl, rfl⟩
  ·exact absurd (ee.symm ▸ z2) z1
  ·exact ⟨rfl, rfl, ⟨by decide, by decide, by decide, by decide, by decide, fun _ h => (by cases h)⟩⟩
set_option maxHeartbeats 4000000 in
theorem topf_any (c : ConM) (A : Option Addr) (k : Nat) (l : List Rl) (day kn : Int) (W : World) (hT : HasT W) (hc : ConAt W c) (hz : ConSz c) (hl : SL W 25 encLet A l) (hn : l.length ≤ 9223372036854775807) (hok : smallL 20 l = true → LetsAt W A l) :
  Calls Tryz.prog 3 #[.agg (encCon c).toArray, .slice A l.length k, .int .i64 day, .int .i64 kn] W fun e w' => e = .returned (.bool true) ∧ Below W.heap.size W w' := by
 obtain ⟨R, eR⟩ : ∃ R : Ending → World → Prop, R = fun e w' => e = .returned (.bool true) ∧ Below W.heap.size W w' := ⟨_, rfl⟩
 rw [← eR]
 have FIN : Hid (∀ w', Below W.heap.size W w' → R (.returned (.bool true)) w') := Lib.hid fun w' hb => by rw [eR]; exact ⟨rfl, hb⟩
 clear eR
 obtain ⟨W1, cs, hx⟩ := boxC W c
 have E1 := Lib.hid hx.e
 have HB1 := Lib.hid hx.below
 have ECS := Lib.hid hx.cs
 have HR1 := Lib.hid hx.row
 have HIC := Lib.hid (info_co cs (by rw [hx.cs]; rfl))
 rw [← hx.cs]
 have CW := Lib.hid (w11_any W1 (hT.below hx.below (Nat.le_refl _)))
 have HT := Lib.hid hT
 have HC := Lib.hid hc
 have HZ := Lib.hid hz
 have HL := Lib.hid hl
 have HOK := Lib.hid hok
 clear hx hT hc hz hl hok
 go_enter Tryz.func3, Tryz.ntmps3
 go_wp2_with (simp only [E1.out])
 refine CW.out.mono ?_
 rintro e w2 ⟨rfl, hb2⟩
 have hr2 := HR1.out.below hb2 HR1.out.lt
 have HM2 := Lib.hid hr2.rg
 have hbw2 := HB1.out.trans (hb2.mono HB1.out.size)
 have CS := small15_any 12 c w2 (HC.out.below hbw2 (Nat.le_refl _)) HZ.out (by decide)
 rw [← ECS.out] at CS
 have CS := Lib.hid CS
 have HR2 := Lib.hid hr2
 have HBW2 := Lib.hid hbw2
 clear CW HR1 hb2 hr2 hbw2
 go_wp2_with (refine at_load (.tmp 4) ?_; refine wpList_load_mid rfl 27 (.tmp 4) rfl W.heap.size 0 rfl cs _ HM2.out Tryz.underlying27 rfl HIC.out ?_)
 refine CS.out.mono ?_
 rintro e w3 ⟨rfl, hb3⟩
 have HBW3 := Lib.hid (HBW2.out.trans (hb3.mono HBW2.out.size))
 have HR3 := Lib.hid (HR2.out.below hb3 HR2.out.lt)
 clear CS hb3 HM2 HR2 HBW2
 cases hsc : smallC 12 c with
 | false =>
  have HF := Lib.hid (FIN.out w3 HBW3.out)
  go_wp2_with fail
  exact HF.out
 | true =>
  have CL := Lib.hid (sl_any 20 A k l w3 (HL.out.below HBW3.out (Nat.le_refl _)) hn (by decide))
  have HSC := Lib.hid hsc
  clear hsc
  go_wp2_with fail
  refine CL.out.mono ?_
  rintro e w4 ⟨rfl, hb4⟩
  have HBW4 := Lib.hid (HBW3.out.trans (hb4.mono HBW3.out.size))
  have HR4 := Lib.hid (HR3.out.below hb4 HR3.out.lt)
  clear CL hb4 HR3 HBW3
  cases hsl : smallL 20 l with
  | false =>
   have HF := Lib.hid (FIN.out w4 HBW4.out)
   go_wp2_with fail
   exact HF.out
  | true =>
   have HLA := Lib.hid (HOK.out hsl)
   have HSL := Lib.hid hsl
   have HLN : Hid (l.length ≤ 4611686018427387903) := Lib.hid (by
    have h := hsl
    unfold smallL at h
    simp only [Bool.and_eq_true, decide_eq_true_eq] at h
    omega)
   clear hsl HOK
   go_wp2_with fail
   obtain ⟨L, eL⟩ : ∃ L, L = agreedF DG c.parties l := ⟨_, rfl⟩
   obtain ⟨zs, ezs⟩ : ∃ zs, zs = encCon conZ := ⟨_, rfl⟩
   obtain ⟨ec, eec⟩ : ∃ ec, ec = errA c.con L.length := ⟨_, rfl⟩
   have HZA : Hid ((#[.int .i64 0, .slice none 0 0, .slice none 0 0, .slice none 0 0, .slice none 0 0, .int .i64 0, .slice none 0 0] : Array Value) = zs.toArray) := Lib.hid (by rw [ezs]; rfl)
   have CF : Hid (∀ w', Below w4.heap.size w4 w' → w'.rangeAt W.heap.size 0 cs ∧ w'.cell? ⟨W.heap.size, 0, none⟩ = some (.int .i64 c.parties)) := Lib.hid fun w' hb => by
    have hr := HR4.out.below hb HR4.out.lt
    exact ⟨hr.rg, hr.at (by rw [ECS.out]; rfl)⟩
   have CBF : Hid (∀ w', Below w4.heap.size w4 w' → Below W.heap.size W w') := Lib.hid fun w' hb => HBW4.out.trans (hb.mono HBW4.out.size)
   have HAM : Hid (∀ am : List (Pr × Hd), am.map Prod.fst = L → ∀ x ∈ am, PatOk x.1.x.patch ∧ x.1.x.patch.new.start.length ≤ 1000000) := Lib.hid fun am hm x hx => by
    have hq : x.1 ∈ agreedF DG c.parties l := by rw [← eL, ← hm]; exact List.mem_map_of_mem hx
    obtain ⟨_, ⟨r, hr, _, h2, _⟩, _⟩ := agreed_mem DG c.parties hq
    rw [h2]
    exact ⟨(HLA.out.ok r hr).patch, small_start HSL.out r hr⟩
   have HEL := Lib.hid eL
   have HEZ := Lib.hid ezs
   have HEC := Lib.hid eec
   clear ezs eec
   letI : Fre2.Rel := ⟨fun w w' => Below w4.heap.size w w', fun w => Below.refl _ _, fun a b c h g => h.trans g⟩
   refine Fre6.wp_region_free 16 [(4, .ind (fun y => y) (fun _ _ => True)), (7, .ind (fun y => .tuple #[.agg (fA y), gB y, .int .i64 ec]) (fun _ _ => True)), (12, .ind (fun y => .pointer (some ⟨gN y, 0, none⟩)) (fun _ _ => True)), (13, .det undef)] (fun w2 => Below w4.heap.size w4 w2) (Cd 13 4 7 12 13 w4.heap.size l c.con L day kn zs) (by kernel_rfl) (by kernel_rfl) ?_ (Below.refl _ _).drew (fun _ _ h r => h.trans r)
    ⟨Nat.le_refl _, fun n => absurd rfl n, fun n => absurd rfl n, fun _ e => (by cases e), fun _ e => (by cases e), fun _ e => (by cases e), fun _ e => (by cases e)⟩ (fun k x d w hk hc => ?_) ?_
   ·intro j mk r hf x w1 w3 _ _
    simp only [Fre6.find] at hf
    repeat' split at hf
    all_goals first | (cases hf; done) | (cases hf; trivial)
   ·simp only [Fre6.find] at hk
    repeat' split at hk
    all_goals first | (cases hk; done) | skip
    exact hc.other (by omega) (by omega) (by omega) (by omega) (by omega)
   intro u
   simp only [List.take_succ_cons, List.take_zero]
   apply Fre6.chain_still (by first|exact Free.wanted_of rfl rfl rfl|rfl) rfl
   ·intro w' hB hA
    exact Hk.exec_mid 27 (.tmp 4) rfl W.heap.size 0 rfl cs _ (CF.out _ hB).1 Tryz.underlying27 rfl HIC.out
   simp only [Act.put, Pt1, Pt2, Pt3]
   iterate 3 (apply Fre6.chain_still (by first|exact Free.wanted_of rfl rfl rfl|rfl) rfl; (intro w' hB hA; have q1 := (CF.out _ hB).2; clear hA hB; go_light; go_simp <;> rfl); (try simp only [Act.put, Pt1, Pt2, Pt3]))
   apply Fre6.chain_ind (by first|exact Free.wanted_of rfl rfl rfl|rfl) rfl
   ·intro d w' hu hd hc hB hA
    refine Fre6.opRun_call (f := 10) (args := #[.int .i64 c.parties, .slice A l.length k]) (by clear hB hA hc hu hd; go_simp <;> rfl) ?_
    refine (ag_any c.parties A k l w' (HT.out.below (CBF.out _ hB) (Nat.le_refl _)) (HLA.out.below (CBF.out _ hB) (Nat.le_refl _)) HLN.out).mono ?_
    rintro e w9 ⟨hb9, A9, k9, am, rfl, s1, s2, s3, s4⟩
    exact ⟨_, rfl, hb9.mono hc.bs, _, rfl, trivial, (hc.grow hb9).putA ⟨A9, k9, am, rfl, s1, s2, by rw [s3, HEL.out], s4⟩ (by decide) (by decide) (by decide) (by decide)⟩
   simp only [Act.put, Pt1, Pt2, Pt3]
   iterate 2 (apply Fre6.chain_still (by first|exact Free.wanted_of rfl rfl rfl|rfl) rfl; (intro w' hB hA;  clear hA hB; go_light; go_simp <;> rfl); (try simp only [Act.put, Pt1, Pt2, Pt3]))
   apply Fre6.chain_ind (by first|exact Free.wanted_of rfl rfl rfl|rfl) rfl
   ·intro d w' hu hd hc hB hA
    obtain ⟨A2, k2, am, e4, s1, s2, s3, s4⟩ := hc.ag _ (hu.2 4 (by decide) (by kernel_rfl)) (hc.early hd)
    rw [e4]
    refine Fre6.opRun_call (f := 9) (args := #[.agg cs.toArray, .slice A2 am.length k2, .int .i64 day, .int .i64 kn]) (by clear hB hA hc hu hd e4 s1 s2 s3 s4; go_simp <;> rfl) ?_
    have CI := inforce_any c A2 k2 am day kn w' (HC.out.below (CBF.out _ hB) (Nat.le_refl _)) HZ.out s1 s2 (HAM.out am s3) s4
    rw [← ECS.out] at CI
    refine CI.mono ?_
    intro e w9 hp
    obtain ⟨hb9, y, rfl, hy⟩ := IfR.of s3 hp
    obtain ⟨c', v, nums, ey, _⟩ := id hy
    exact ⟨y, rfl, hb9.mono hc.bs, y, by rw [ey, HEC.out]; rfl, trivial, (hc.grow hb9).putI hd (by rw [hu.2 4 (by decide) (by kernel_rfl)]; simp) hy (by decide) (by decide) (by decide) (by decide)⟩
   simp only [Act.put, Pt1, Pt2, Pt3]
   iterate 4 (apply Fre6.chain_still (by first|exact Free.wanted_of rfl rfl rfl|rfl) rfl; (intro w' hB hA;  clear hA hB; go_light; go_simp <;> rfl); (try simp only [Act.put, Pt1, Pt2, Pt3]))
   apply Fre6.chain_ind (by first|exact Free.wanted_of rfl rfl rfl|rfl) rfl
   ·intro d w' hu hd hc hB hA
    have hbn : Below w'.heap.size w' (w'.alloc (.cells zs.toArray 27)) := (Below.refl _ _).alloc (Nat.le_refl _) _
    refine Fre6.opRun_of (v := .pointer (some ⟨w'.heap.size, 0, none⟩)) (w' := w'.alloc (.cells zs.toArray 27)) (by rw [← HZA.out]; clear hB hA hc hu hd hbn; go_light; go_simp <;> rfl) ⟨hbn.mono hc.bs, .int .i64 (w'.heap.size : Int), rfl, trivial, (hc.grow hbn).putB hd hc.bs (Row.new w' 27 zs) (by decide) (by decide) (by decide) (by decide)⟩
   simp only [Act.put, Pt1, Pt2, Pt3]
   apply Fre6.chain_det (by first|exact Free.wanted_of rfl rfl rfl|rfl) rfl
   ·intro d w' hu hd hc hB hA
    have d7 := hu.2 7 (by decide) (by kernel_rfl)
    have d12 := hu.2 12 (by decide) (by kernel_rfl)
    have hrow := (hc.box _ d12).2.1 hd
    obtain ⟨c', v, nums, ey, _⟩ := hc.inf _ d7
    have hfa : fA (u 7) = (encCon c').toArray := by rw [ey]; rfl
    refine Fre6.opRun_skip (exec_store_row 27 (.tmp 10) (.tmp 35) rfl (gN (u 12)) (fA (u 7)) rfl rfl 27 zs.toArray hrow (by rw [hfa, info_co (encCon c') rfl]; simp) (by rw [hfa, HEZ.out]; rfl) (by rw [hfa]; exact all_oneCell_toArray (encCon_one _))) ⟨(hc.putS (x := undef) hd d7 d12 (by decide) (by decide) (by decide)).1, fun z => (hc.putS (x := z) hd d7 d12 (by decide) (by decide) (by decide)).2, rfl⟩
   simp only [Act.put, Pt1, Pt2, Pt3]
   iterate 2 (apply Fre6.chain_still (by first|exact Free.wanted_of rfl rfl rfl|rfl) rfl; (intro w' hB hA;  clear hA hB; go_light; go_simp <;> rfl); (try simp only [Act.put, Pt1, Pt2, Pt3]))
   apply Fre6.chain_nil
   intro w6 hB6 hC6 _ _
   simp only [List.drop_succ_cons, List.drop_zero, List.drop_nil]
   have j1 := hC6.inf _ (rfl : _ = some (u 7))
   have b1 := (hC6.box _ (rfl : _ = some (u 12))).2.2 (by simp) _ (rfl : _ = some (u 7))
   obtain ⟨c1, v1, n1, ey1, p1, ow1, r1, ln1⟩ := j1
   have hfa : fA (u 7) = (encCon c1).toArray := by rw [ey1]; rfl
   have hgb : gB (u 7) = v1 := by rw [ey1]; rfl
   obtain ⟨g1, eg1⟩ : ∃ g, g = gN (u 12) := ⟨_, rfl⟩
   rw [hfa, ← eg1] at b1
   obtain ⟨es, ees⟩ : ∃ es, es = encCon c1 := ⟨_, rfl⟩
   have b1' : Row w6 g1 27 es := by rw [ees]; exact b1
   rw [hfa, hgb, ← eg1, ← ees]
   obtain ⟨A1, k1, rfl⟩ := owns_form2 r1
   have HB1R := Lib.hid b1'
   have HP1 := Lib.hid p1
   have HOW1 := Lib.hid ow1
   have HR1N := Lib.hid r1
   have HLN1 := Lib.hid ln1
   have EES := Lib.hid ees
   have HBW6 := Lib.hid (CBF.out _ hB6)
   have HR6 := Lib.hid (HR4.out.below hB6 HR4.out.lt)
   clear hB6 hC6 b1 ey1 p1 ow1 r1 ln1 hfa hgb eg1 ees b1' CF CBF HAM
   go_wp2_with fail
   obtain ⟨l2, el2⟩ : ∃ l2, l2 = Cs.early kn l := ⟨_, rfl⟩
   obtain ⟨L2, eL2⟩ : ∃ L2, L2 = agreedF DG c.parties l2 := ⟨_, rfl⟩
   obtain ⟨ec2, eec2⟩ : ∃ ec2, ec2 = errA c.con L2.length := ⟨_, rfl⟩
   have hll : l.length ≤ 20 := by
    have h := HSL.out
    unfold smallL at h
    simp only [Bool.and_eq_true, decide_eq_true_eq] at h
    exact h.1
   have hll2 : l2.length ≤ l.length := by rw [el2]; exact early_len kn l
   have hmem : ∀ r ∈ l2, r ∈ l := fun r hr => by rw [el2] at hr; exact (List.mem_filter.1 hr).1
   have CF : Hid (∀ w', Below w6.heap.size w6 w' → w'.rangeAt W.heap.size 0 cs ∧ w'.cell? ⟨W.heap.size, 0, none⟩ = some (.int .i64 c.parties)) := Lib.hid fun w' hb => by
    have hr := HR6.out.below hb HR6.out.lt
    exact ⟨hr.rg, hr.at (by rw [ECS.out]; rfl)⟩
   have CBF : Hid (∀ w', Below w6.heap.size w6 w' → Below W.heap.size W w') := Lib.hid fun w' hb => HBW6.out.trans (hb.mono HBW6.out.size)
   have HAM : Hid (∀ am : List (Pr × Hd), am.map Prod.fst = L2 → ∀ x ∈ am, PatOk x.1.x.patch ∧ x.1.x.patch.new.start.length ≤ 1000000) := Lib.hid fun am hm x hx => by
    have hq : x.1 ∈ agreedF DG c.parties l2 := by rw [← eL2, ← hm]; exact List.mem_map_of_mem hx
    obtain ⟨_, ⟨r, hr, _, h2, _⟩, _⟩ := agreed_mem DG c.parties hq
    rw [h2]
    exact ⟨(HLA.out.ok r (hmem r hr)).patch, small_start HSL.out r (hmem r hr)⟩
   have HLA2 : Hid (∀ w' A', Below W.heap.size W w' → SL w' 25 encLet A' l2 → LetsAt w' A' l2) := Lib.hid fun w' A' hb hs => ⟨hs, fun r hr => (HLA.out.pat r (hmem r hr)).below hb (Nat.le_refl _), fun r hr => HLA.out.ok r (hmem r hr)⟩
   have CU : Hid (∀ w', Below W.heap.size W w' → Calls Tryz.prog 11 #[.slice A l.length k, .int .i64 kn] w' fun e w9 => Below w'.heap.size w' w9 ∧ ∃ A' k', e = .returned (.slice A' l2.length k') ∧ SL w9 25 encLet A' l2) := Lib.hid fun w' hb => by
    rw [el2]
    exact until_any A k l kn w' (HL.out.below hb (Nat.le_refl _)) (by omega)
   have HL2 : Hid (l2.length ≤ 20) := Lib.hid (by omega)
   have HLL : Hid (l.length ≤ 20) := Lib.hid hll
   have EL2 := Lib.hid el2
   have HEL2 := Lib.hid eL2
   have HEC2 := Lib.hid eec2
   clear eec2 el2 hll hll2 hmem
   letI : Fre2.Rel := ⟨fun w w' => Below w6.heap.size w w', fun w => Below.refl _ _, fun a b c h g => h.trans g⟩
   refine Fre6.wp_region_free 18 [(5, .ind (fun y => y) (fun _ _ => True)), (6, .ind (fun y => y) (fun _ _ => True)), (9, .ind (fun y => .tuple #[.agg (fA y), gB y, .int .i64 ec2]) (fun _ _ => True)), (14, .ind (fun y => .pointer (some ⟨gN y, 0, none⟩)) (fun _ _ => True)), (15, .det undef)] (fun w2 => Below w6.heap.size w6 w2) (Cd 5 6 9 14 15 w6.heap.size l2 c.con L2 day kn zs) (by kernel_rfl) (by kernel_rfl) ?_ (Below.refl _ _).drew (fun _ _ h r => h.trans r)
    ⟨Nat.le_refl _, fun n => absurd rfl n, fun n => absurd rfl n, fun _ e => (by cases e), fun _ e => (by cases e), fun _ e => (by cases e), fun _ e => (by cases e)⟩ (fun k x d w hk hc => ?_) ?_
   ·intro j mk r hf x w1 w3 _ _
    simp only [Fre6.find] at hf
    repeat' split at hf
    all_goals first | (cases hf; done) | (cases hf; trivial)
   ·simp only [Fre6.find] at hk
    repeat' split at hk
    all_goals first | (cases hk; done) | skip
    exact hc.other (by omega) (by omega) (by omega) (by omega) (by omega)
   intro u
   simp only [List.take_succ_cons, List.take_zero]
   apply Fre6.chain_still (by first|exact Free.wanted_of rfl rfl rfl|rfl) rfl
   ·intro w' hB hA
    exact Hk.exec_mid 27 (.tmp 4) rfl W.heap.size 0 rfl cs _ (CF.out _ hB).1 Tryz.underlying27 rfl HIC.out
   simp only [Act.put, Pt1, Pt2, Pt3]
   iterate 4 (apply Fre6.chain_still (by first|exact Free.wanted_of rfl rfl rfl|rfl) rfl; (intro w' hB hA; have q1 := (CF.out _ hB).2; clear hA hB; go_light; go_simp <;> rfl); (try simp only [Act.put, Pt1, Pt2, Pt3]))
   apply Fre6.chain_ind (by first|exact Free.wanted_of rfl rfl rfl|rfl) rfl
   ·intro d w' hu hd hc hB hA
    refine Fre6.opRun_call (f := 11) (args := #[.slice A l.length k, .int .i64 kn]) (by clear hB hA hc hu hd; go_simp <;> rfl) ?_
    refine (CU.out w' (CBF.out _ hB)).mono ?_
    rintro e w9 ⟨hb9, A9, k9, rfl, s1⟩
    exact ⟨_, rfl, hb9.mono hc.bs, _, rfl, trivial, (hc.grow hb9).putU ⟨A9, k9, rfl, s1⟩ (by decide) (by decide) (by decide) (by decide)⟩
   simp only [Act.put, Pt1, Pt2, Pt3]
   apply Fre6.chain_ind (by first|exact Free.wanted_of rfl rfl rfl|rfl) rfl
   ·intro d w' hu hd hc hB hA
    obtain ⟨A5, k5, e5, s5⟩ := hc.un _ (hu.2 5 (by decide) (by kernel_rfl)) (hc.earlyA hd)
    rw [e5]
    refine Fre6.opRun_call (f := 10) (args := #[.int .i64 c.parties, .slice A5 l2.length k5]) (by clear hB hA hc hu hd e5 s5; go_simp <;> rfl) ?_
    refine (ag_any c.parties A5 k5 l2 w' (HT.out.below (CBF.out _ hB) (Nat.le_refl _)) (HLA2.out w' A5 (CBF.out _ hB) s5) (by have := HL2.out; omega)).mono ?_
    rintro e w9 ⟨hb9, A9, k9, am, rfl, s1, s2, s3, s4⟩
    exact ⟨_, rfl, hb9.mono hc.bs, _, rfl, trivial, (hc.grow hb9).putA ⟨A9, k9, am, rfl, s1, s2, by rw [s3, HEL2.out], s4⟩ (by decide) (by decide) (by decide) (by decide)⟩
   simp only [Act.put, Pt1, Pt2, Pt3]
   iterate 2 (apply Fre6.chain_still (by first|exact Free.wanted_of rfl rfl rfl|rfl) rfl; (intro w' hB hA;  clear hA hB; go_light; go_simp <;> rfl); (try simp only [Act.put, Pt1, Pt2, Pt3]))
   apply Fre6.chain_ind (by first|exact Free.wanted_of rfl rfl rfl|rfl) rfl
   ·intro d w' hu hd hc hB hA
    obtain ⟨A2, k2, am, e4, s1, s2, s3, s4⟩ := hc.ag _ (hu.2 6 (by decide) (by kernel_rfl)) (hc.early hd)
    rw [e4]
    refine Fre6.opRun_call (f := 9) (args := #[.agg cs.toArray, .slice A2 am.length k2, .int .i64 day, .int .i64 kn]) (by clear hB hA hc hu hd e4 s1 s2 s3 s4; go_simp <;> rfl) ?_
    have CI := inforce_any c A2 k2 am day kn w' (HC.out.below (CBF.out _ hB) (Nat.le_refl _)) HZ.out s1 s2 (HAM.out am s3) s4
    rw [← ECS.out] at CI
    refine CI.mono ?_
    intro e w9 hp
    obtain ⟨hb9, y, rfl, hy⟩ := IfR.of s3 hp
    obtain ⟨c', v, nums, ey, _⟩ := id hy
    exact ⟨y, rfl, hb9.mono hc.bs, y, by rw [ey, HEC2.out]; rfl, trivial, (hc.grow hb9).putI hd (by rw [hu.2 6 (by decide) (by kernel_rfl)]; simp) hy (by decide) (by decide) (by decide) (by decide)⟩
   simp only [Act.put, Pt1, Pt2, Pt3]
   iterate 4 (apply Fre6.chain_still (by first|exact Free.wanted_of rfl rfl rfl|rfl) rfl; (intro w' hB hA;  clear hA hB; go_light; go_simp <;> rfl); (try simp only [Act.put, Pt1, Pt2, Pt3]))
   apply Fre6.chain_ind (by first|exact Free.wanted_of rfl rfl rfl|rfl) rfl
   ·intro d w' hu hd hc hB hA
    have hbn : Below w'.heap.size w' (w'.alloc (.cells zs.toArray 27)) := (Below.refl _ _).alloc (Nat.le_refl _) _
    refine Fre6.opRun_of (v := .pointer (some ⟨w'.heap.size, 0, none⟩)) (w' := w'.alloc (.cells zs.toArray 27)) (by rw [← HZA.out]; clear hB hA hc hu hd hbn; go_light; go_simp <;> rfl) ⟨hbn.mono hc.bs, .int .i64 (w'.heap.size : Int), rfl, trivial, (hc.grow hbn).putB hd hc.bs (Row.new w' 27 zs) (by decide) (by decide) (by decide) (by decide)⟩
   simp only [Act.put, Pt1, Pt2, Pt3]
   apply Fre6.chain_det (by first|exact Free.wanted_of rfl rfl rfl|rfl) rfl
   ·intro d w' hu hd hc hB hA
    have d7 := hu.2 9 (by decide) (by kernel_rfl)
    have d12 := hu.2 14 (by decide) (by kernel_rfl)
    have hrow := (hc.box _ d12).2.1 hd
    obtain ⟨c', v, nums, ey, _⟩ := hc.inf _ d7
    have hfa : fA (u 9) = (encCon c').toArray := by rw [ey]; rfl
    refine Fre6.opRun_skip (exec_store_row 27 (.tmp 13) (.tmp 49) rfl (gN (u 14)) (fA (u 9)) rfl rfl 27 zs.toArray hrow (by rw [hfa, info_co (encCon c') rfl]; simp) (by rw [hfa, HEZ.out]; rfl) (by rw [hfa]; exact all_oneCell_toArray (encCon_one _))) ⟨(hc.putS (x := undef) hd d7 d12 (by decide) (by decide) (by decide)).1, fun z => (hc.putS (x := z) hd d7 d12 (by decide) (by decide) (by decide)).2, rfl⟩
   simp only [Act.put, Pt1, Pt2, Pt3]
   iterate 2 (apply Fre6.chain_still (by first|exact Free.wanted_of rfl rfl rfl|rfl) rfl; (intro w' hB hA;  clear hA hB; go_light; go_simp <;> rfl); (try simp only [Act.put, Pt1, Pt2, Pt3]))
   apply Fre6.chain_nil
   intro w8 hB8 hC8 _ _
   simp only [List.drop_succ_cons, List.drop_zero, List.drop_nil]
   have j2 := hC8.inf _ (rfl : _ = some (u 9))
   have b2 := (hC8.box _ (rfl : _ = some (u 14))).2.2 (by simp) _ (rfl : _ = some (u 9))
   obtain ⟨c2, v2, n2, ey2, p2, ow2, r2, ln2⟩ := j2
   have hfa : fA (u 9) = (encCon c2).toArray := by rw [ey2]; rfl
   have hgb : gB (u 9) = v2 := by rw [ey2]; rfl
   obtain ⟨g2, eg2⟩ : ∃ g, g = gN (u 14) := ⟨_, rfl⟩
   rw [hfa, ← eg2] at b2
   obtain ⟨fs, efs⟩ : ∃ fs, fs = encCon c2 := ⟨_, rfl⟩
   have b2' : Row w8 g2 27 fs := by rw [efs]; exact b2
   rw [hfa, hgb, ← eg2, ← efs]
   obtain ⟨A2, k2, rfl⟩ := owns_form2 r2
   have hearly := agreed_early DG c.parties kn l (by have := HLL.out; omega)
   have hL2 : L2 = L.filter fun q => decide (q.known ≤ kn) := by rw [HEL2.out, EL2.out, hearly, HEL.out]
   obtain ⟨ee, econ, en, hsh⟩ := ifp_same (L := L) (by rw [HEL.out]; exact agreed_rising DG c.parties l) (by rw [HEL.out]; have := agreed_len DG c.parties l; have := HLL.out; omega) HP1.out (by rw [← hL2]; exact p2)
   have hec : ec2 = ec := by rw [HEC2.out, HEC.out, hL2]; exact ee.symm
   subst en
   rw [hec]
   have q1 : Row w8 g1 27 es := HB1R.out.below hB8 HB1R.out.lt
   have ow1 : ConOw 0 w8 c1 := HOW1.out.keepAll fun g _ hg => hB8.block g hg
   have r1 := owns_keep HR1N.out fun g hg => hB8.block _ (owns_lt HR1N.out hg).2
   have CSC := scn_yes c1 c2 w8 ow1.at ow2.at econ hsh
   rw [← EES.out, ← efs] at CSC
   have CSC := Lib.hid CSC
   have CIN : Hid (∀ w', Below w8.heap.size w8 w' → Calls Tryz.prog 13 #[.slice A1 n1.length k1, .slice A2 n1.length k2] w' fun e w9 => e = .returned (.bool true) ∧ Below w'.heap.size w' w9) := Lib.hid fun w' hb => by
    have h := ints_any A1 k1 n1 A2 k2 n1 w' ((sl_of_owns (ec := Cs.encI) (fun _ => rfl) r1).below hb (Nat.le_refl _)) ((sl_of_owns (ec := Cs.encI) (fun _ => rfl) r2).below hb (Nat.le_refl _)) (by omega) (by omega)
    rw [decide_eq_true rfl] at h
    exact h
   have HM1 := Lib.hid q1.rg
   have HM2 := Lib.hid b2'.rg
   have HIE := Lib.hid (info_co es (by rw [EES.out]; rfl))
   have HIFS := Lib.hid (info_co fs (by rw [efs]; rfl))
   have HBW8 := Lib.hid (HBW6.out.trans (hB8.mono HBW6.out.size))
   clear hB8 hC8 b2 ey2 p2 ow2 r2 ln2 hfa hgb eg2 efs b2' hearly hL2 ee econ hsh hec q1 ow1 r1
   go_wp2_with (first
    | (refine at_load (.tmp 10) ?_; refine Row.still (by first|exact Free.wanted_of rfl rfl rfl|rfl) (Hk.exec_mid 27 (.tmp 10) rfl g1 0 rfl es _ HM1.out Tryz.underlying27 rfl HIE.out) ?_; simp only [Act.put, Pt1, Pt2, Pt3])
    | (refine at_load (.tmp 13) ?_; refine Row.still (by first|exact Free.wanted_of rfl rfl rfl|rfl) (Hk.exec_mid 27 (.tmp 13) rfl g2 0 rfl fs _ HM2.out Tryz.underlying27 rfl HIFS.out) ?_; simp only [Act.put, Pt1, Pt2, Pt3]))
   refine CSC.out.mono ?_
   rintro e w9 ⟨rfl, hb9⟩
   have C9 := Lib.hid (CIN.out w9 hb9)
   have HB9 := Lib.hid hb9
   clear hb9 CIN CSC
   go_wp2_with fail
   refine C9.out.mono ?_
   rintro e w10 ⟨rfl, hb10⟩
   have HF := Lib.hid (FIN.out w10 (HBW8.out.trans ((HB9.out.trans (hb10.mono HB9.out.size)).mono HBW8.out.size)))
   clear hb10
   go_wp2_with fail
   exact HF.out
end Go.Proofs.YtekfoaenomgjgaaGreatDoor

namespace Go.Proofs.YtekfoaenomgjgaaGreatDoor
open Go.RowKit Go.W32 Go.Blk Go.Cs Go.Lib Go.Opn Go.Mg Go.Cv Go.ChangeShapes Go.WideShapes Go.Deep Go.OpenShut

instance : Inhabited Un := ⟨⟨⟨#[]⟩, 0, 0, 0, 0⟩⟩
instance : Inhabited Kl := ⟨(Cls.zero, none, 0)⟩
instance : Inhabited AcT := ⟨⟨0, 0, 0, 0, 0, 0, 0⟩⟩
theorem cells_un : Tryz.prog.cellsOf 96 = 5 := by kernel_rfl
theorem cells_ac : Tryz.prog.cellsOf 98 = 7 := by kernel_rfl
theorem cells_kl : Tryz.prog.cellsOf 45 = 16 := by kernel_rfl
theorem cells_co : Tryz.prog.cellsOf 27 = 7 := by kernel_rfl
theorem un_of {H : Type} {enc : TypeId × Value → H} {w : World} {base : Nat} {spare : Nat → Bool} {held : Bool} {fuel : Nat} {cs : List Value} {x : DataW H × List MemPlace} (hf : DataW.trod enc Tryz.prog w base spare held fuel 96 cs = some x) : ∃ a : Un, True ∧ ∀ (p : Nat) u, (encUn a)[p]? = some u → cs[p]? = some u := by
 obtain ⟨a0, h0, _⟩ := leaf_string (f := 5) (p := 0) Tryz.underlying9 (by kernel_rfl) hf
 obtain ⟨a1, h1, _⟩ := leaf_int (f := 5) (p := 1) Tryz.underlying3 (by kernel_rfl) hf
 obtain ⟨a2, h2, _⟩ := leaf_int (f := 5) (p := 2) Tryz.underlying3 (by kernel_rfl) hf
 obtain ⟨a3, h3, _⟩ := leaf_int (f := 5) (p := 3) Tryz.underlying3 (by kernel_rfl) hf
 obtain ⟨a4, h4, _⟩ := leaf_int (f := 5) (p := 4) Tryz.underlying3 (by kernel_rfl) hf
 refine ⟨⟨a0, a1, a2, a3, a4⟩, trivial, fun p u hu => ?_⟩
 match p, hu with
 | 0, hu => cases hu; exact h0
 | 1, hu => cases hu; exact h1
 | 2, hu => cases hu; exact h2
 | 3, hu => cases hu; exact h3
 | 4, hu => cases hu; exact h4
 | p + 5, hu => simp [encUn] at hu
theorem ac_of {H : Type} {enc : TypeId × Value → H} {w : World} {base : Nat} {spare : Nat → Bool} {held : Bool} {fuel : Nat} {cs : List Value} {x : DataW H × List MemPlace} (hf : DataW.trod enc Tryz.prog w base spare held fuel 98 cs = some x) : ∃ a : AcT, True ∧ ∀ (p : Nat) u, (encAc a)[p]? = some u → cs[p]? = some u := by
 obtain ⟨a0, h0, _⟩ := leaf_int (f := 5) (p := 0) Tryz.underlying3 (by kernel_rfl) hf
 obtain ⟨a1, h1, _⟩ := leaf_int (f := 5) (p := 1) Tryz.underlying3 (by kernel_rfl) hf
 obtain ⟨a2, h2, _⟩ := leaf_int (f := 5) (p := 2) Tryz.underlying3 (by kernel_rfl) hf
 obtain ⟨a3, h3, _⟩ := leaf_int (f := 5) (p := 3) Tryz.underlying3 (by kernel_rfl) hf
 obtain ⟨a4, h4, _⟩ := leaf_int (f := 5) (p := 4) Tryz.underlying3 (by kernel_rfl) hf
 obtain ⟨a5, h5, _⟩ := leaf_int (f := 5) (p := 5) Tryz.underlying3 (by kernel_rfl) hf
 obtain ⟨a6, h6, _⟩ := leaf_int (f := 5) (p := 6) Tryz.underlying3 (by kernel_rfl) hf
 refine ⟨⟨a0, a1, a2, a3, a4, a5, a6⟩, trivial, fun p u hu => ?_⟩
 match p, hu with
 | 0, hu => cases hu; exact h0
 | 1, hu => cases hu; exact h1
 | 2, hu => cases hu; exact h2
 | 3, hu => cases hu; exact h3
 | 4, hu => cases hu; exact h4
 | 5, hu => cases hu; exact h5
 | 6, hu => cases hu; exact h6
 | p + 7, hu => simp [encAc] at hu
theorem kl_of {H : Type} {enc : TypeId × Value → H} {w : World} {base : Nat} {spare : Nat → Bool} {held : Bool} {fuel : Nat} {cs : List Value} {x : DataW H × List MemPlace} (hf : DataW.trod enc Tryz.prog w base spare held fuel 45 cs = some x) : ∃ a : Kl, (SL w 2 encCond a.2.1 a.1.start ∧ a.1.start.length ≤ 9223372036854775807) ∧ ∀ (p : Nat) u, (encKl a)[p]? = some u → cs[p]? = some u := by
 obtain ⟨a0, h0, _⟩ := leaf_int (f := 5) (p := 0) Tryz.underlying3 (by kernel_rfl) hf
 obtain ⟨a1, h1, _⟩ := leaf_int (f := 5) (p := 1) Tryz.underlying3 (by kernel_rfl) hf
 obtain ⟨a2, h2, _⟩ := leaf_int (f := 5) (p := 2) Tryz.underlying3 (by kernel_rfl) hf
 obtain ⟨a3, h3, _⟩ := leaf_int (f := 5) (p := 3) Tryz.underlying3 (by kernel_rfl) hf
 obtain ⟨a5, h5, _⟩ := leaf_int (f := 5) (p := 5) Tryz.underlying3 (by kernel_rfl) hf
 obtain ⟨a6, h6, _⟩ := leaf_int (f := 5) (p := 6) Tryz.underlying3 (by kernel_rfl) hf
 obtain ⟨a9, h9, _⟩ := leaf_int (f := 5) (p := 9) Tryz.underlying3 (by kernel_rfl) hf
 obtain ⟨a10, h10, _⟩ := leaf_int (f := 5) (p := 10) Tryz.underlying3 (by kernel_rfl) hf
 obtain ⟨a11, h11, _⟩ := leaf_int (f := 5) (p := 11) Tryz.underlying3 (by kernel_rfl) hf
 obtain ⟨a12, h12, _⟩ := leaf_int (f := 5) (p := 12) Tryz.underlying3 (by kernel_rfl) hf
 obtain ⟨a13, h13, _⟩ := leaf_int (f := 5) (p := 13) Tryz.underlying3 (by kernel_rfl) hf
 obtain ⟨a14, h14, _⟩ := leaf_int (f := 5) (p := 14) Tryz.underlying3 (by kernel_rfl) hf
 obtain ⟨B, d, m, h4, g1, g2, g3, g4⟩ := leaf_list (α := Int × Int) (ec := encCond) (K := fun a => i64P a.1 ∧ i64P a.2) (f := 5) (p := 4) Tryz.underlying41 (by rw [cells_cond2]; decide) (fun f cs x h => cond_of h) (by kernel_rfl) hf
 rw [cells_cond2] at g3
 obtain ⟨a7, h7⟩ := leaf_bool (f := 5) (p := 7) Tryz.underlying4 (by kernel_rfl) hf
 obtain ⟨a8, h8⟩ := leaf_bool (f := 5) (p := 8) Tryz.underlying4 (by kernel_rfl) hf
 obtain ⟨a15, h15⟩ := leaf_bool (f := 5) (p := 15) Tryz.underlying4 (by kernel_rfl) hf
 refine ⟨(⟨a0, a1, a2, a3, m, a5, a6, a7, a8, a9, a10, a11, a12, a13, a14, a15⟩, (B, d)), ⟨g3, g1⟩, fun p u hu => ?_⟩
 match p, hu with
 | 0, hu => cases hu; exact h0
 | 1, hu => cases hu; exact h1
 | 2, hu => cases hu; exact h2
 | 3, hu => cases hu; exact h3
 | 4, hu => cases hu; exact h4
 | 5, hu => cases hu; exact h5
 | 6, hu => cases hu; exact h6
 | 7, hu => cases hu; exact h7
 | 8, hu => cases hu; exact h8
 | 9, hu => cases hu; exact h9
 | 10, hu => cases hu; exact h10
 | 11, hu => cases hu; exact h11
 | 12, hu => cases hu; exact h12
 | 13, hu => cases hu; exact h13
 | 14, hu => cases hu; exact h14
 | 15, hu => cases hu; exact h15
 | p + 16, hu => simp [encKl, encCls] at hu
theorem con_of {H : Type} {enc : TypeId × Value → H} {w : World} {base : Nat} {spare : Nat → Bool} {held : Bool} {fuel : Nat} {cs : List Value} {x : DataW H × List MemPlace} (hf : DataW.trod enc Tryz.prog w base spare held fuel 27 cs = some x) : ∃ c : ConM, (ConAt w c ∧ ConSz c) ∧ ∀ (p : Nat) u, (encCon c)[p]? = some u → cs[p]? = some u := by
 obtain ⟨a0, h0, _⟩ := leaf_int (f := 5) (p := 0) Tryz.underlying3 (by kernel_rfl) hf
 obtain ⟨a5, h5, _⟩ := leaf_int (f := 5) (p := 5) Tryz.underlying3 (by kernel_rfl) hf
 obtain ⟨A1, k1, l1, h1, b1, c1, s1, _⟩ := leaf_list (α := Int) (ec := Cs.encI) (K := i64P) (f := 5) (p := 1) Tryz.underlying22 (by rw [cells_int1]; decide) (fun f cs x h => int_of h) (by kernel_rfl) hf
 rw [cells_int1] at s1
 obtain ⟨A2, k2, l2, h2, b2, c2, s2, _⟩ := leaf_list (α := Un) (ec := encUn) (K := fun _ => True) (f := 5) (p := 2) Tryz.underlying23 (by rw [cells_un]; decide) (fun f cs x h => un_of h) (by kernel_rfl) hf
 rw [cells_un] at s2
 obtain ⟨A3, k3, l3, h3, b3, c3, s3, _⟩ := leaf_list (α := AcT) (ec := encAc) (K := fun _ => True) (f := 5) (p := 3) Tryz.underlying24 (by rw [cells_ac]; decide) (fun f cs x h => ac_of h) (by kernel_rfl) hf
 rw [cells_ac] at s3
 obtain ⟨A4, k4, l4, h4, b4, c4, s4, q4⟩ := leaf_list (α := Kl) (ec := encKl) (K := fun a => SL w 2 encCond a.2.1 a.1.start ∧ a.1.start.length ≤ 9223372036854775807) (f := 5) (p := 4) Tryz.underlying25 (by rw [cells_kl]; decide) (fun f cs x h => kl_of h) (by kernel_rfl) hf
 rw [cells_kl] at s4
 obtain ⟨A6, k6, l6, h6, b6, c6, s6, _⟩ := leaf_list (α := Int) (ec := Cs.encI) (K := i64P) (f := 5) (p := 6) Tryz.underlying22 (by rw [cells_int1]; decide) (fun f cs x h => int_of h) (by kernel_rfl) hf
 rw [cells_int1] at s6
 refine ⟨⟨a0, l1, l2, l3, l4, a5, l6, A1, k1, A2, k2, A3, k3, A4, k4, A6, k6⟩, ⟨⟨s1, s2, s3, s4, s6, fun k hk => (q4 k hk).1⟩, ⟨b1, b2, b3, b4, b6, c2, fun k hk => (q4 k hk).2⟩⟩, fun p u hu => ?_⟩
 match p, hu with
 | 0, hu => cases hu; exact h0
 | 1, hu => cases hu; exact h1
 | 2, hu => cases hu; exact h2
 | 3, hu => cases hu; exact h3
 | 4, hu => cases hu; exact h4
 | 5, hu => cases hu; exact h5
 | 6, hu => cases hu; exact h6
 | p + 7, hu => simp [encCon] at hu
theorem open_con {H : Type} {enc : TypeId × Value → H} {w : World} {base : Nat} {spare : Nat → Bool} {held : Bool} {v : Value} {d : DataW H} {ps : List MemPlace} {r : Reach} {b0 : Nat} (hv : Value.okWide Tryz.prog w r b0 27 v) (h : DataW.Trod enc Tryz.prog w base spare held 27 v d ps) :
  ∃ c : ConM, v = .agg (encCon c).toArray ∧ ConAt w c ∧ ConSz c := by
 obtain ⟨cs, rfl, hsz⟩ := okWide_struct Tryz.underlying27 hv
 rw [cells_co] at hsz
 obtain ⟨fuel, hf⟩ := h
 obtain ⟨c, ⟨ha, hz⟩, hcs⟩ := con_of hf
 refine ⟨c, ?_, ha, hz⟩
 congr 1
 apply Array.ext'
 show cs.toList = encCon c
 apply List.ext_getElem?
 intro i
 by_cases hi : i < 7
 ·obtain ⟨u, hu⟩ : ∃ u, (encCon c)[i]? = some u := ⟨_, List.getElem?_eq_getElem (by show i < 7; exact hi)⟩
  rw [hu]; exact hcs i u hu
 ·rw [List.getElem?_eq_none (by simp; omega), List.getElem?_eq_none (by show 7 ≤ i; omega)]
end Go.Proofs.YtekfoaenomgjgaaGreatDoor

namespace Go.Proofs.YtekfoaenomgjgaaGreatDoor
open Go.RowKit Go.W32 Go.Blk Go.Cs Go.Lib Go.Opn Go.Mg Go.Cv
theorem topfinal_any (c : ConM) (A : Option Addr) (k : Nat) (l : List Rl) (day kn : Int) (W : World) (hT : HasT W) (hc : ConAt W c) (hz : ConSz c) (hl : LetsW W A l) (hn : l.length ≤ 9223372036854775807) :
  Calls Tryz.prog 3 #[.agg (encCon c).toArray, .slice A l.length k, .int .i64 day, .int .i64 kn] W fun e w' => e = .returned (.bool true) ∧ Below W.heap.size W w' :=
 topf_any c A k l day kn W hT hc hz hl.sl hn (fun h => hl.ok h)
end Go.Proofs.YtekfoaenomgjgaaGreatDoor
