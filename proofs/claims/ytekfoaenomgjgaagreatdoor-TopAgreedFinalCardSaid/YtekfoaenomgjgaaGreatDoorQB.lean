/- The reference of layer 30: letters until a day. No condition. The reference of layer 15: small contracts. Condition: the contract lies in memory. The reference of layer 24: equal lists of clauses. Condition: they are equal and lie in memory. The reference of layer 24: equal contracts. Condition: they are equal and lie in memory. Package version: the amendments that are known by a day are the same whether later letters are there or not. No condition. The check of the law of agreed spans: its plain values. No condition. -/
import Derived.Test.YtekfoaenomgjgaaGreatDoorYF
import Derived.Test.YtekfoaenomgjgaaGreatDoorQA
import Derived.Test.YtekfoaenomgjgaaGreatDoorQD
import Derived.Test.YtekfoaenomgjgaaGreatDoorVeH
set_option maxRecDepth 100000
set_option linter.unusedSimpArgs false
set_option linter.unusedVariables false
set_option linter.unnecessarySimpa false
namespace Go.Cs
theorem empty_eq : (⟨#[]⟩ : ByteArray) = ByteArray.empty := rfl
end Go.Cs
namespace Go.Proofs.YtekfoaenomgjgaaGreatDoor
open Go.RowKit Go.W32 Go.Blk Go.Cs Go.Lib Go.Opn Go.Mg

theorem early_more {l : List Rl} {day : Int} {k : Nat} {r : Rl} (hr : l[k]? = some r) : Cs.early day (l.take (k + 1)) = if r.1.sent ≤ day then Cs.early day (l.take k) ++ [r] else Cs.early day (l.take k) := by
 unfold Cs.early
 rw [List.take_add_one, hr, Option.toList_some, List.filter_append]
 by_cases h1 : r.1.sent ≤ day <;> simp [h1, List.filter_cons]
theorem early_len (day : Int) (l : List Rl) : (Cs.early day l).length ≤ l.length := List.length_filter_le _ _
/-- What a loop over the letters has taken. -/
structure UnIs (W : World) (l : List Rl) (day : Int) (k : Nat) (v : Value) (w : World) : Prop where
 out : w.ownsRow W.heap.size 49 25 v (Cs.early day (l.take k)).length ((Cs.early day (l.take k)).flatMap encLet)
 below : Below W.heap.size W w
theorem UnIs.grow {W w w' : World} {l : List Rl} {day : Int} {k : Nat} {v : Value} (h : UnIs W l day k v w) (hb : Below w.heap.size w w') : UnIs W l day k v w' :=
 ⟨owns_keep h.out fun g hg => hb.block _ (owns_lt h.out hg).2, h.below.trans (hb.mono h.below.size)⟩
def UnPost (W : World) (l : List Rl) (day : Int) (e : Ending) (w' : World) : Prop := Below W.heap.size W w' ∧ ∃ A c, e = .returned (.slice A (Cs.early day l).length c) ∧ SL w' 25 encLet A (Cs.early day l)
set_option maxHeartbeats 2000000 in
theorem until_any (A : Option Addr) (c : Nat) (l : List Rl) (day : Int) (W : World) (hl : SL W 25 encLet A l) (hn : l.length ≤ 4000) :
  Calls Tryz.prog 11 #[.slice A l.length c, .int .i64 day] W (UnPost W l day) := by
 obtain ⟨R, eR⟩ : ∃ R, R = UnPost W l day := ⟨_, rfl⟩
 rw [← eR]
 have ER : Hid (∀ e w', UnPost W l day e w' → R e w') := Lib.hid fun e w' h => by rw [eR]; exact h
 clear eR
 have HL := Lib.hid hl
 have HIL : Hid ((Tryz.prog.info? 49).map (·.size) = some 25) := by show _ = _; kernel_rfl
 clear hl
 go_enter Tryz.func11, Tryz.ntmps11
 go_wp2_with fail
 go_loopw [5, 6] (fun u v wr => ∃ (k : Nat) (x : Value), x = u ∧ v = .int .i64 (k : Int) ∧ k ≤ l.length ∧ UnIs W l day k x wr) (fun _ v _ => (l.length : Int).toNat - (RowKit.intOf v).toNat)
 case atStart => exact ⟨0, _, rfl, rfl, Nat.zero_le _, World.ownsRow_nil _ _ _ _, Below.refl _ _⟩
 case round =>
  obtain ⟨k, x, rfl, rfl, hk, hra⟩ := hrel
  rcases Nat.lt_or_eq_of_le hk with hkl | hkl
  ·have hki : (k : Int) < (l.length : Int) := by omega
   obtain ⟨ba, oa, rfl⟩ := sl_addr HL.out (by rintro rfl; simp at hkl)
   obtain ⟨r, er⟩ : ∃ x, l[k]? = some x := ⟨_, List.getElem?_eq_getElem hkl⟩
   have hrg := sl_range (HL.out.below hra.below (Nat.le_refl _)) er
   obtain ⟨cs, ecs⟩ : ∃ cs, cs = encLet r := ⟨_, rfl⟩
   have c3 : wr.cell? ⟨ba, oa + k * 25 + 3, none⟩ = some (.int .i64 r.1.sent) := hrg 3 _ rfl
   have HC : Hid (wr.rangeAt ba (oa + k * 25) cs) := Lib.hid (by rw [ecs]; exact hrg)
   have hcl : cs.length = 25 := by rw [ecs]; rfl
   have hc1 : ∀ v ∈ cs, v.oneCell' = true := by rw [ecs]; exact encLet_one r
   have HIC : Hid ((Tryz.prog.info? 49).map (·.size) = some cs.length) := by show _ = _; rw [hcl]; exact HIL.out
   have HM := Lib.hid (early_more (day := day) er)
   have H0 := Lib.hid hra
   have ECS := Lib.hid ecs
   have HCL := Lib.hid hcl
   have HC1 := Lib.hid hc1
   clear hrg er ecs hcl hc1 hra hk
   by_cases hb : ¬ r.1.sent ≤ day
   ·have hskip : UnIs W l day (k + 1) x wr := by
     have h := H0.out
     refine ⟨?_, h.below⟩
     rw [HM.out, if_neg hb]; exact h.out
    have HS := Lib.hid hskip
    clear hskip
    go_wp2_with fail
    go_roundw
    case rel => exact ⟨k + 1, _, rfl, rfl, hkl, HS.out⟩
    case measure => simp [RowKit.intOf]; omega
   ·obtain ⟨W8, e8⟩ : ∃ W8, W8 = wr.alloc (.cells cs.toArray 49) := ⟨_, rfl⟩
    have hb8 : Below wr.heap.size wr W8 := by rw [e8]; exact (Below.refl _ _).alloc (Nat.le_refl _) _
    have hr8 : Row W8 wr.heap.size 49 cs := by rw [e8]; exact Row.new _ _ _
    have h8 := H0.out.grow hb8
    obtain ⟨i1, hi1, hz1, hs1, hy1⟩ := info_of info_let
    have hwl := early_len day (l.take k)
    rw [List.length_take] at hwl
    have HBS : Hid ((Instr.buildSlice 28 1 #[(0, .agg cs.toArray)]).run Tryz.prog wr = .ok (.slice (some ⟨wr.heap.size, 0, none⟩) 1 1) W8) := Lib.hid (by
     rw [e8]
     exact Apk.run_slice_one (P := Tryz.prog) wr 28 49 i1 _ Tryz.underlying28 hi1 hz1 cs.toArray (by rw [List.size_toArray, HCL.out, hs1]) (by rw [hs1]; decide) (by rw [hs1]; decide))
    have HAP : Hid (∀ (Q : Exit → Act → World → Prop) (ops : Array Oper) (rs : List Oper) (o : Oper) (a : Act), o.guard = none → o.op = .call { callee := .builtin .append, args := #[.tmp 20, .tmp 25], argTypes := #[28, 28] } → a.eval (.tmp 20) = x → a.eval (.tmp 25) = .slice (some ⟨wr.heap.size, 0, none⟩) 1 1 → (∀ u w9, Hid (UnIs W l day (k + 1) u w9) → wpList Tryz.prog ops Q rs (a.put o.dst u) w9) → wpList Tryz.prog ops Q (o :: rs) a W8) := Lib.hid (by
     intro Q ops rs o a hgd ho hx hy hk
     refine wpList_append_own_at W8 hgd (.tmp 20) (.tmp 25) 28 ho W.heap.size 49 i1 _ 25 232 Tryz.underlying28 hi1 hz1 hs1 hy1 rfl (by decide) x _ _ hx h8.out ⟨wr.heap.size, 0, none⟩ 1 1 cs hy (by rw [HCL.out]) (fun j u hj => by rw [Blk.addr_add, Nat.zero_add]; exact hr8.at hj) HC1.out (by unfold maxLen; omega) (by omega) h8.below.size ?_
     intro u w9 ho9 hg9 _ _
     refine hk u w9 (Lib.hid ⟨?_, h8.below.trans (below_grown hg9 (fun g hg => (owns_lt h8.out hg).1) h8.below.size)⟩)
     rw [HM.out, if_pos (Decidable.not_not.1 hb), List.length_append, List.flatMap_append, List.flatMap_singleton, ← ECS.out]
     exact ho9)
    clear e8 hb8 hr8 h8 hi1 hz1 hs1 hy1 H0 hwl
    have h1 : r.1.sent ≤ day := Decidable.not_not.1 hb
    clear hb
    go_wp2_with (first
     | (refine at_load (.tmp 23) ?_; refine wpList_load_mid rfl 49 (.tmp 23) rfl ba (oa + k * 25) rfl cs _ HC.out Tryz.underlying49 rfl HIC.out ?_)
     | (refine at_bs (.tmp 24) ?_; refine Row.moved rfl (Apl.exec_slice rfl HBS.out) ?_; simp only [Act.put, Pt1, Pt2, Pt3])
     | (refine at_app (.tmp 20) (.tmp 25) ?_; refine HAP.out _ _ _ _ _ rfl rfl rfl rfl ?_; intro u w9 H9; simp only [Act.put, Pt1, Pt2, Pt3]))
    go_roundw
    case rel => exact ⟨k + 1, _, rfl, rfl, hkl, H9.out⟩
    case measure => simp [RowKit.intOf]; omega
  ·have hki : ¬ (k : Int) < (l.length : Int) := by omega
   have HF : Hid (UnPost W l day (.returned x) wr) := Lib.hid (by
    have h := hra.out
    rw [List.take_of_length_le (by omega)] at h
    obtain ⟨A', c', e'⟩ := owns_form2 h
    refine ⟨hra.below, A', c', by rw [e'], ?_⟩
    rw [e'] at h
    exact sl_of_owns (ec := encLet) (fun _ => rfl) h)
   clear hra
   go_wp2_with fail
   exact ER.out _ _ HF.out
end Go.Proofs.YtekfoaenomgjgaaGreatDoor

namespace Go.Cv
open Go Go.Cs
/-- A contract has few parts. -/
def smallC (m : Nat) (c : ConM) : Bool := !(decide (20 < c.holders.length) || decide (30 < c.units.length) || decide (70 < c.acts.length) || decide (m < c.kls.length) || decide (100 < c.off.length)) && c.kls.all fun q => decide (q.1.start.length ≤ 20)
end Go.Cv
namespace Go.Proofs.YtekfoaenomgjgaaGreatDoor
open Go.RowKit Go.W32 Go.Blk Go.Cs Go.Lib Go.Opn Go.Mg Go.Cv

set_option maxHeartbeats 2000000 in
theorem small15_any (m : Nat) (c : ConM) (W : World) (hc : ConAt W c) (hz : ConSz c) (hm : m ≤ 1000) : Calls Tryz.prog 7 #[.agg (encCon c).toArray, .int .i64 (m : Int)] W fun e w' => e = .returned (.bool (smallC m c)) ∧ Below W.heap.size W w' := by
 obtain ⟨R, eR⟩ : ∃ R : Ending → World → Prop, R = fun e w' => e = .returned (.bool (smallC m c)) ∧ Below W.heap.size W w' := ⟨_, rfl⟩
 rw [← eR]
 have FIN : Hid (∀ w' v, smallC m c = v → Below W.heap.size W w' → R (.returned (.bool v)) w') := Lib.hid fun w' v h hb => by rw [eR, h]; exact ⟨rfl, hb⟩
 clear eR
 obtain ⟨W1, cs, hx⟩ := boxC W c
 have E1 := Lib.hid hx.e
 have HB1 := Lib.hid hx.below
 have f1 := hx.row.at (show cs[1]? = some (.slice c.hA c.holders.length c.hc) by rw [hx.cs]; rfl)
 have f2 := hx.row.at (show cs[2]? = some (.slice c.uA c.units.length c.uc) by rw [hx.cs]; rfl)
 have f3 := hx.row.at (show cs[3]? = some (.slice c.aA c.acts.length c.ac) by rw [hx.cs]; rfl)
 have f4 := hx.row.at (show cs[4]? = some (.slice c.kA c.kls.length c.kc) by rw [hx.cs]; rfl)
 have f6 := hx.row.at (show cs[6]? = some (.slice c.oA c.off.length c.oc) by rw [hx.cs]; rfl)
 rw [← hx.cs]
 have HK := Lib.hid (hc.k.below hx.below (Nat.le_refl _))
 have hkz := hz.k
 clear hx hc hz
 go_enter Tryz.func7, Tryz.ntmps7
 by_cases h1 : 20 < c.holders.length
 ·have q1 : decide ((20 : Int) < (c.holders.length : Int)) = true := decide_eq_true (by omega)
  have HF := Lib.hid (FIN.out W1 false (by unfold smallC; simp [h1]) HB1.out)
  clear h1
  go_wp2_with (simp only [E1.out])
  exact HF.out
 have q1 : decide ((20 : Int) < (c.holders.length : Int)) = false := decide_eq_false (by omega)
 by_cases h2 : 30 < c.units.length
 ·have q2 : decide ((30 : Int) < (c.units.length : Int)) = true := decide_eq_true (by omega)
  have HF := Lib.hid (FIN.out W1 false (by unfold smallC; simp [h2]) HB1.out)
  clear h1 h2
  go_wp2_with (simp only [E1.out])
  exact HF.out
 have q2 : decide ((30 : Int) < (c.units.length : Int)) = false := decide_eq_false (by omega)
 by_cases h3 : 70 < c.acts.length
 ·have q3 : decide ((70 : Int) < (c.acts.length : Int)) = true := decide_eq_true (by omega)
  have HF := Lib.hid (FIN.out W1 false (by unfold smallC; simp [h3]) HB1.out)
  clear h1 h2 h3
  go_wp2_with (simp only [E1.out])
  exact HF.out
 have q3 : decide ((70 : Int) < (c.acts.length : Int)) = false := decide_eq_false (by omega)
 by_cases h4 : m < c.kls.length
 ·have q4 : decide (m < c.kls.length) = true := decide_eq_true h4
  have HF := Lib.hid (FIN.out W1 false (by unfold smallC; simp [h4]) HB1.out)
  clear h1 h2 h3 h4
  go_wp2_with (simp only [E1.out])
  exact HF.out
 have q4 : decide (m < c.kls.length) = false := decide_eq_false h4
 by_cases h5 : 100 < c.off.length
 ·have q5 : decide ((100 : Int) < (c.off.length : Int)) = true := decide_eq_true (by omega)
  have HF := Lib.hid (FIN.out W1 false (by unfold smallC; simp [h5]) HB1.out)
  clear h1 h2 h3 h4 h5
  go_wp2_with (simp only [E1.out])
  exact HF.out
 have q5 : decide ((100 : Int) < (c.off.length : Int)) = false := decide_eq_false (by omega)
 have HS : Hid (smallC m c = c.kls.all fun q => decide (q.1.start.length ≤ 20)) := Lib.hid (by unfold smallC; simp [h1, h2, h3, h4, h5])
 have hk12 : c.kls.length ≤ 1000 := by omega
 clear h1 h2 h3 h4 h5
 go_wp2_with (simp only [E1.out])
 go_loopw [5] (fun v wr => ∃ (k : Nat), v = .int .i64 (k : Int) ∧ k ≤ c.kls.length ∧ wr = W1 ∧ Hid ((c.kls.take k).all (fun q => decide (q.1.start.length ≤ 20)) = true)) (fun v _ => (c.kls.length : Int).toNat - (RowKit.intOf v).toNat)
 case atStart => exact ⟨0, rfl, Nat.zero_le _, rfl, Lib.hid (by simp)⟩
 case round =>
  obtain ⟨k, rfl, hk, rfl, HA⟩ := hrel
  rcases Nat.lt_or_eq_of_le hk with hkl | hkl
  ·have hki : (k : Int) < (c.kls.length : Int) := by omega
   obtain ⟨ba, oa, ea⟩ := sl_addr HK.out (by intro e; rw [e] at hkl; simp at hkl)
   obtain ⟨x, ex⟩ : ∃ x, c.kls[k]? = some x := ⟨_, List.getElem?_eq_getElem hkl⟩
   have hsl := HK.out
   rw [ea] at hsl f4
   have d4 := sl_range hsl ex 4 (.slice x.2.1 x.1.start.length x.2.2) rfl
   clear hsl
   by_cases hs : x.1.start.length ≤ 20
   ·have q6 : decide ((20 : Int) < (x.1.start.length : Int)) = false := decide_eq_false (by omega)
    have HM := Lib.hid (all_more ex HA.out (decide_eq_true hs))
    clear hs ex ea
    go_wp2_with fail
    go_roundw
    case rel => exact ⟨k + 1, rfl, hkl, (by first | rfl | trivial), HM⟩
    case measure => simp [RowKit.intOf]; omega
   ·have q6 : decide ((20 : Int) < (x.1.start.length : Int)) = true := decide_eq_true (by omega)
    have HF := Lib.hid (FIN.out wr false (by rw [HS.out]; exact all_less ex (decide_eq_false hs)) HB1.out)
    clear hs ex ea
    go_wp2_with fail
    exact HF.out
  ·have hki : ¬ (k : Int) < (c.kls.length : Int) := by omega
   have HF := Lib.hid (FIN.out wr true (by have h := HA.out; rw [List.take_of_length_le (by omega)] at h; rw [HS.out]; exact h) HB1.out)
   go_wp2_with fail
   exact HF.out
end Go.Proofs.YtekfoaenomgjgaaGreatDoor

namespace Go.Proofs.YtekfoaenomgjgaaGreatDoor
open Go.RowKit Go.W32 Go.Blk Go.Cs Go.Lib Go.Opn Go.Mg Go.Cv

set_option maxHeartbeats 2000000 in
theorem scs_yes (A : Option Addr) (c : Nat) (us : List Kl) (B : Option Addr) (d : Nat) (bs : List Kl) (W : World) (ha : SL W 16 encKl A us) (hb : SL W 16 encKl B bs) (he : us.map Prod.fst = bs.map Prod.fst) (hn : us.length ≤ 400)
  (hia : ∀ x ∈ us, SL W 2 encCond x.2.1 x.1.start ∧ x.1.start.length ≤ 8) (hib : ∀ x ∈ bs, SL W 2 encCond x.2.1 x.1.start) :
  Calls Tryz.prog 37 #[.slice A us.length c, .slice B bs.length d] W fun e w' => e = .returned (.bool true) ∧ Below W.heap.size W w' := by
 obtain ⟨R, eR⟩ : ∃ R : Ending → World → Prop, R = fun e w' => e = .returned (.bool true) ∧ Below W.heap.size W w' := ⟨_, rfl⟩
 rw [← eR]
 have FIN : Hid (∀ w', Below W.heap.size W w' → R (.returned (.bool true)) w') := Lib.hid fun w' hb => by rw [eR]; exact ⟨rfl, hb⟩
 clear eR
 have hl : us.length = bs.length := by have h := congrArg List.length he; simpa using h
 have HA := Lib.hid ha
 have HB := Lib.hid hb
 have HIA := Lib.hid hia
 have HIB := Lib.hid hib
 have HE := Lib.hid he
 have HIP : Hid ((Tryz.prog.info? 45).map (·.size) = some 16) := by show _ = _; kernel_rfl
 clear ha hb hia hib he
 go_enter Tryz.func37, Tryz.ntmps37
 have hli : (us.length : Int) = (bs.length : Int) := by omega
 go_wp2_with fail
 go_loopw [5] (fun v wr => ∃ k : Nat, v = .int .i64 (k : Int) ∧ k ≤ us.length ∧ Below W.heap.size W wr) (fun v _ => (us.length : Int).toNat - (RowKit.intOf v).toNat)
 case atStart => exact ⟨0, rfl, Nat.zero_le _, Below.refl _ _⟩
 case round =>
  obtain ⟨k, rfl, hk, hbw⟩ := hrel
  rcases Nat.lt_or_eq_of_le hk with hkl | hkl
  ·have hki : (k : Int) < (us.length : Int) := by omega
   have hkj : (k : Int) < (bs.length : Int) := by omega
   obtain ⟨ba, oa, rfl⟩ := sl_addr HA.out (by rintro rfl; simp at hkl)
   obtain ⟨bb, ob, rfl⟩ := sl_addr HB.out (fun e => by have h := congrArg List.length e; rw [List.length_nil] at h; omega)
   obtain ⟨x, ex⟩ : ∃ x, us[k]? = some x := ⟨_, List.getElem?_eq_getElem hkl⟩
   obtain ⟨y, ey⟩ : ∃ y, bs[k]? = some y := ⟨_, List.getElem?_eq_getElem (by omega)⟩
   have hxy : x.1 = y.1 := by
    have h := congrArg (fun l => l[k]?) HE.out
    simp only [List.getElem?_map, ex, ey, Option.map_some] at h
    exact Option.some.inj h
   obtain ⟨cs, ecs⟩ : ∃ cs, cs = encKl x := ⟨_, rfl⟩
   obtain ⟨ds, eds⟩ : ∃ ds, ds = encKl y := ⟨_, rfl⟩
   have HC : Hid (∀ w', Below wr.heap.size wr w' → w'.rangeAt ba (oa + k * 16) cs ∧ w'.rangeAt bb (ob + k * 16) ds) := Lib.hid fun w' hb => by
    have h2 := hbw.trans (hb.mono hbw.size)
    exact ⟨by rw [ecs]; exact sl_range (HA.out.below h2 (Nat.le_refl _)) ex, by rw [eds]; exact sl_range (HB.out.below h2 (Nat.le_refl _)) ey⟩
   have HI1 : Hid ((Tryz.prog.info? 45).map (·.size) = some cs.length) := by show _ = _; rw [ecs]; exact HIP.out
   have HI2 : Hid ((Tryz.prog.info? 45).map (·.size) = some ds.length) := by show _ = _; rw [eds]; exact HIP.out
   have CV : Hid (∀ w', Below wr.heap.size wr w' → Calls Tryz.prog 72 #[.agg cs.toArray, .agg ds.toArray] w' fun e w'' => e = .returned (.bool true) ∧ Below w'.heap.size w' w'') := Lib.hid fun w' hb => by
    have h2 := hbw.trans (hb.mono hbw.size)
    have hx := HIA.out x (List.mem_of_getElem? ex)
    have hy := HIB.out y (List.mem_of_getElem? ey)
    rw [ecs, eds]
    have h := sc_any x.1 y.1 x.2.1 x.2.2 y.2.1 y.2.2 w' (hx.1.below h2 (Nat.le_refl _)) (hy.below h2 (Nat.le_refl _)) (by omega) (by rw [← hxy]; omega)
    rw [show x.1.same y.1 = true from Cls.same_iff.2 hxy] at h
    exact h
   have HBX := Lib.hid hbw
   clear ex ey hbw hk ecs eds hxy
   go_wp2_with fail
   refine Free.wp_region_free 10 [(8, .det (.bool true))] (fun w2 => Below wr.heap.size wr w2) (by kernel_rfl) (by kernel_rfl) (Free.mono_det (fun j mk r hf => by simp only [Free.find] at hf; repeat' (first | cases hf | split at hf))) (Below.refl _ _).drew (fun _ _ h g => h.trans (Below.mono g h.size)) ?_
   simp only [List.take_succ_cons, List.take_zero]
   iterate 3 (apply Free.chain_still (by first|exact Free.wanted_of rfl rfl rfl|rfl) rfl; (intro w' hB hA; obtain qB := hB; clear hA ; go_light; go_simp <;> rfl); (try simp only [Act.put, Pt1, Pt2, Pt3]))
   apply Free.chain_still (by first|exact Free.wanted_of rfl rfl rfl|rfl) rfl
   ·intro w' hB hA
    exact Hk.exec_mid 45 (.tmp 19) rfl ba (oa + k * 16) rfl cs _ (HC.out _ hB).1 Tryz.underlying45 rfl HI1.out
   simp only [Act.put, Pt1, Pt2, Pt3]
   iterate 3 (apply Free.chain_still (by first|exact Free.wanted_of rfl rfl rfl|rfl) rfl; (intro w' hB hA; obtain qB := hB; clear hA ; go_light; go_simp <;> rfl); (try simp only [Act.put, Pt1, Pt2, Pt3]))
   apply Free.chain_still (by first|exact Free.wanted_of rfl rfl rfl|rfl) rfl
   ·intro w' hB hA
    exact Hk.exec_mid 45 (.tmp 23) rfl bb (ob + k * 16) rfl ds _ (HC.out _ hB).2 Tryz.underlying45 rfl HI2.out
   simp only [Act.put, Pt1, Pt2, Pt3]
   apply Free.chain_det (by first|exact Free.wanted_of rfl rfl rfl|rfl) rfl
   ·intro w' hB hA
    refine Free.opRun_call (f := 72) (args := #[.agg cs.toArray, .agg ds.toArray]) (by clear hB hA; go_simp <;> rfl) ?_
    refine (CV.out w' hB).mono ?_
    rintro e w3 ⟨rfl, hb3⟩
    exact ⟨_, rfl, hb3, rfl⟩
   simp only [Act.put, Pt1, Pt2, Pt3]
   iterate 1 (apply Free.chain_still (by first|exact Free.wanted_of rfl rfl rfl|rfl) rfl; (intro w' hB hA; obtain qB := hB; clear hA ; go_light; go_simp <;> rfl); (try simp only [Act.put, Pt1, Pt2, Pt3]))
   apply Free.chain_nil
   intro w6 hw6 _ _
   simp only [List.drop_succ_cons, List.drop_zero]
   have HB6 := Lib.hid (HBX.out.trans (hw6.mono HBX.out.size))
   clear hw6 HC CV
   go_wp2_with fail
   go_roundw
   case rel => exact ⟨k + 1, rfl, hkl, HB6.out⟩
   case measure => simp [RowKit.intOf]; omega
  ·have hki : ¬ (k : Int) < (us.length : Int) := by omega
   have HF := Lib.hid (FIN.out wr hbw)
   clear hbw
   go_wp2_with fail
   exact HF.out
end Go.Proofs.YtekfoaenomgjgaaGreatDoor

namespace Go.Proofs.YtekfoaenomgjgaaGreatDoor
open Go.RowKit Go.W32 Go.Blk Go.Cs Go.Lib Go.Opn Go.Mg Go.Cv

theorem neq_un {ρ : Operand → Value} {op : Oper} {w : World} {u : Un} {x y : Operand} (ho : op.op = .binOp .neq 96 x y 96) (hx : ρ x = .agg (encUn u).toArray) (hy : ρ y = .agg (encUn u).toArray) : (execOp ρ op).run Tryz.prog w = .ok (.value (.bool false)) w := by
 unfold execOp
 simp only [ho, hx, hy]
 unfold encUn
 go_simp
theorem neq_ac {ρ : Operand → Value} {op : Oper} {w : World} {u : AcT} {x y : Operand} (ho : op.op = .binOp .neq 98 x y 98) (hx : ρ x = .agg (encAc u).toArray) (hy : ρ y = .agg (encAc u).toArray) : (execOp ρ op).run Tryz.prog w = .ok (.value (.bool false)) w := by
 unfold execOp
 simp only [ho, hx, hy]
 unfold encAc
 go_simp
/-- Two equal contracts in boxes. -/
structure Two (n : Nat) (c d : ConM) (w : World) : Prop where
 f0 : w.cell? ⟨n, 0, none⟩ = some (.int .i64 c.parties)
 f1 : w.cell? ⟨n, 1, none⟩ = some (.slice c.hA c.holders.length c.hc)
 f2 : w.cell? ⟨n, 2, none⟩ = some (.slice c.uA c.units.length c.uc)
 f3 : w.cell? ⟨n, 3, none⟩ = some (.slice c.aA c.acts.length c.ac)
 f4 : w.cell? ⟨n, 4, none⟩ = some (.slice c.kA c.kls.length c.kc)
 f5 : w.cell? ⟨n, 5, none⟩ = some (.int .i64 c.days)
 f6 : w.cell? ⟨n, 6, none⟩ = some (.slice c.oA c.off.length c.oc)
 g0 : w.cell? ⟨n + 1, 0, none⟩ = some (.int .i64 c.parties)
 g1 : w.cell? ⟨n + 1, 1, none⟩ = some (.slice d.hA c.holders.length d.hc)
 g2 : w.cell? ⟨n + 1, 2, none⟩ = some (.slice d.uA c.units.length d.uc)
 g3 : w.cell? ⟨n + 1, 3, none⟩ = some (.slice d.aA c.acts.length d.ac)
 g4 : w.cell? ⟨n + 1, 4, none⟩ = some (.slice d.kA c.kls.length d.kc)
 g5 : w.cell? ⟨n + 1, 5, none⟩ = some (.int .i64 c.days)
 g6 : w.cell? ⟨n + 1, 6, none⟩ = some (.slice d.oA c.off.length d.oc)
theorem Two.grow {n : Nat} {c d : ConM} {w w' : World} (hT : Two n c d w) (hb : Below w.heap.size w w') : Two n c d w' :=
 ⟨cell_grow hT.f0 hb, cell_grow hT.f1 hb, cell_grow hT.f2 hb, cell_grow hT.f3 hb, cell_grow hT.f4 hb, cell_grow hT.f5 hb, cell_grow hT.f6 hb, cell_grow hT.g0 hb, cell_grow hT.g1 hb, cell_grow hT.g2 hb, cell_grow hT.g3 hb, cell_grow hT.g4 hb, cell_grow hT.g5 hb, cell_grow hT.g6 hb⟩
set_option maxHeartbeats 4000000 in
theorem scn_yes (c d : ConM) (W : World) (hc : ConAt W c) (hd : ConAt W d) (he : c.con = d.con) (hs : ConShort c) :
  Calls Tryz.prog 12 #[.agg (encCon c).toArray, .agg (encCon d).toArray] W fun e w' => e = .returned (.bool true) ∧ Below W.heap.size W w' := by
 obtain ⟨R, eR⟩ : ∃ R : Ending → World → Prop, R = fun e w' => e = .returned (.bool true) ∧ Below W.heap.size W w' := ⟨_, rfl⟩
 rw [← eR]
 have FIN : Hid (∀ w', Below W.heap.size W w' → R (.returned (.bool true)) w') := Lib.hid fun w' hb => by rw [eR]; exact ⟨rfl, hb⟩
 clear eR
 obtain ⟨cs, ecs⟩ : ∃ cs, cs = encCon c := ⟨_, rfl⟩
 obtain ⟨ds, eds⟩ : ∃ ds, ds = encCon d := ⟨_, rfl⟩
 have e0 : d.parties = c.parties := (congrArg Con.parties he).symm
 have e1 : d.holders = c.holders := (congrArg Con.holders he).symm
 have e2 : d.units = c.units := (congrArg Con.units he).symm
 have e3 : d.acts = c.acts := (congrArg Con.acts he).symm
 have e4 : c.kls.map Prod.fst = d.kls.map Prod.fst := congrArg Con.cls he
 have e5 : d.days = c.days := (congrArg Con.days he).symm
 have e6 : d.off = c.off := (congrArg Con.off he).symm
 have e4l : d.kls.length = c.kls.length := by have h := congrArg List.length e4; simpa using h.symm
 obtain ⟨hr1, hr2, hbw⟩ := two_boxes W 27 cs ds
 generalize eW : (W.alloc (.cells cs.toArray 27)).alloc (.cells ds.toArray 27) = W2 at *
 have hT : Two W.heap.size c d W2 := ⟨hr1.at (by rw [ecs]; rfl), hr1.at (by rw [ecs]; rfl), hr1.at (by rw [ecs]; rfl), hr1.at (by rw [ecs]; rfl), hr1.at (by rw [ecs]; rfl), hr1.at (by rw [ecs]; rfl), hr1.at (by rw [ecs]; rfl),
  hr2.at (by rw [eds, ← e0]; rfl), hr2.at (by rw [eds, ← e1]; rfl), hr2.at (by rw [eds, ← e2]; rfl), hr2.at (by rw [eds, ← e3]; rfl), hr2.at (by rw [eds, ← e4l]; rfl), hr2.at (by rw [eds, ← e5]; rfl), hr2.at (by rw [eds, ← e6]; rfl)⟩
 have HG : Hid (∀ w', Below W2.heap.size W2 w' → Two W.heap.size c d w') := Lib.hid fun w' hb => hT.grow hb
 have HC := Lib.hid hc
 have HD := Lib.hid hd
 have HSH := Lib.hid hs
 have CI1 : Hid (Calls Tryz.prog 13 #[.slice c.hA c.holders.length c.hc, .slice d.hA c.holders.length d.hc] W2 fun e w' => e = .returned (.bool true) ∧ Below W2.heap.size W2 w') := Lib.hid (by
  have h := ints_any c.hA c.hc c.holders d.hA d.hc c.holders W2 (hc.h.below hbw (Nat.le_refl _)) (by rw [← e1]; exact hd.h.below hbw (Nat.le_refl _)) (by have := hs.h; omega) (by have := hs.h; omega)
  rw [decide_eq_true rfl] at h; exact h)
 have CI2 : Hid (∀ w2, Below W2.heap.size W2 w2 → Calls Tryz.prog 13 #[.slice c.oA c.off.length c.oc, .slice d.oA c.off.length d.oc] w2 fun e w' => e = .returned (.bool true) ∧ Below w2.heap.size w2 w') := Lib.hid fun w2 hb2 => by
  have h2 := hbw.trans (hb2.mono hbw.size)
  have h := ints_any c.oA c.oc c.off d.oA d.oc c.off w2 (hc.o.below h2 (Nat.le_refl _)) (by rw [← e6]; exact hd.o.below h2 (Nat.le_refl _)) (by have := hs.o; omega) (by have := hs.o; omega)
  rw [decide_eq_true rfl] at h; exact h
 have CC : Hid (∀ w2, Below W.heap.size W w2 → Calls Tryz.prog 37 #[.slice c.kA c.kls.length c.kc, .slice d.kA c.kls.length d.kc] w2 fun e w' => e = .returned (.bool true) ∧ Below w2.heap.size w2 w') := Lib.hid fun w2 hb2 => by
  have h := scs_yes c.kA c.kc c.kls d.kA d.kc d.kls w2 (hc.k.below hb2 (Nat.le_refl _)) (hd.k.below hb2 (Nat.le_refl _)) e4 hs.k (fun x hx => ⟨(hc.st x hx).below hb2 (Nat.le_refl _), hs.st x hx⟩) (fun x hx => (hd.st x hx).below hb2 (Nat.le_refl _))
  rw [e4l] at h; exact h
 have HU : Hid (SL W 5 encUn d.uA c.units) := Lib.hid (by rw [← e2]; exact hd.u)
 have HAC : Hid (SL W 7 encAc d.aA c.acts) := Lib.hid (by rw [← e3]; exact hd.a)
 have HBW := Lib.hid hbw
 have EW := Lib.hid eW
 obtain ⟨f0, f1, f2, f3, f4, f5, f6, g0, g1, g2, g3, g4, g5, g6⟩ := hT
 rw [← ecs, ← eds]
 clear ecs eds e0 e1 e2 e3 e4 e5 e6 e4l hr1 hr2 hbw eW hc hd he hs
 go_enter Tryz.func12, Tryz.ntmps12
 go_wp2_with (first | (simp only [EW.out]))
 refine CI1.out.mono ?_
 rintro e w3 ⟨rfl, hb3⟩
 obtain ⟨f0, f1, f2, f3, f4, f5, f6, g0, g1, g2, g3, g4, g5, g6⟩ := HG.out w3 hb3
 have C2 := Lib.hid (CI2.out w3 hb3)
 have HB3 := Lib.hid hb3
 clear CI1 CI2 hb3
 go_wp2_with fail
 refine C2.out.mono ?_
 rintro e w4 ⟨rfl, hb4⟩
 have hb24 := HB3.out.trans (hb4.mono HB3.out.size)
 obtain ⟨f0, f1, f2, f3, f4, f5, f6, g0, g1, g2, g3, g4, g5, g6⟩ := HG.out w4 hb24
 have HB4 := Lib.hid (HBW.out.trans (hb24.mono HBW.out.size))
 have HT4 := Lib.hid (HG.out w4 hb24)
 clear C2 HB3 hb4 hb24 HG
 go_wp2_with fail
 have hub : c.units.length ≤ 20 := HSH.out.u
 have hab : c.acts.length ≤ 60 := HSH.out.a
 go_loopw [5] (fun v wr => ∃ k : Nat, v = .int .i64 (k : Int) ∧ k ≤ c.units.length ∧ Below W.heap.size W wr ∧ Two W.heap.size c d wr) (fun v _ => (c.units.length : Int).toNat - (RowKit.intOf v).toNat)
 case atStart => exact ⟨0, rfl, Nat.zero_le _, HB4.out, HT4.out⟩
 case round =>
  clear f0 f1 f2 f3 f4 f5 f6 g0 g1 g2 g3 g4 g5 g6 HB4 HT4
  obtain ⟨k, rfl, hk, hbw, ht⟩ := hrel
  rcases Nat.lt_or_eq_of_le hk with hkl | hkl
  ·have hki : (k : Int) < (c.units.length : Int) := by omega
   obtain ⟨ba, oa, ea⟩ := sl_addr HC.out.u (by intro e; rw [e] at hkl; simp at hkl)
   obtain ⟨bb, ob, eb⟩ := sl_addr HU.out (by intro e; rw [e] at hkl; simp at hkl)
   obtain ⟨x, ex⟩ : ∃ x, c.units[k]? = some x := ⟨_, List.getElem?_eq_getElem hkl⟩
   obtain ⟨f0, f1, f2, f3, f4, f5, f6, g0, g1, g2, g3, g4, g5, g6⟩ := ht
   have HT := Lib.hid (⟨f0, f1, f2, f3, f4, f5, f6, g0, g1, g2, g3, g4, g5, g6⟩ : Two W.heap.size c d wr)
   rw [ea] at f2
   rw [eb] at g2
   obtain ⟨cs, ecs⟩ : ∃ cs, cs = encUn x := ⟨_, rfl⟩
   have hR : Hid (∀ w', Below wr.heap.size wr w' → w'.rangeAt ba (oa + k * 5) cs ∧ w'.rangeAt bb (ob + k * 5) cs) := Lib.hid fun w' hb => by
    have h2 := hbw.trans (hb.mono hbw.size)
    have h1 := HC.out.u.below h2 (Nat.le_refl _)
    rw [ea] at h1
    have h3 := HU.out.below h2 (Nat.le_refl _)
    rw [eb] at h3
    exact ⟨by rw [ecs]; exact sl_range h1 ex, by rw [ecs]; exact sl_range h3 ex⟩
   have HI1 : Hid ((Tryz.prog.info? 96).map (·.size) = some cs.length) := by show _ = _; rw [ecs]; kernel_rfl
   have ECS := Lib.hid ecs
   have HBX := Lib.hid hbw
   clear ex ea eb hbw hk ecs f0 f1 f5 f6 g0 g1 g5 g6
   go_wp2_with fail
   refine Free.wp_region_free 11 [] (fun w2 => Below wr.heap.size wr w2 ∧ w2.cell? ⟨W.heap.size, 2, none⟩ = some (.slice (some ⟨ba, oa, none⟩) c.units.length c.uc) ∧ w2.cell? ⟨W.heap.size + 1, 2, none⟩ = some (.slice (some ⟨bb, ob, none⟩) c.units.length d.uc)) (by kernel_rfl) (by kernel_rfl) (Free.mono_det (fun j mk r hf => by simp only [Free.find] at hf; repeat' (first | cases hf | split at hf))) ⟨(Below.refl _ _).drew, f2, g2⟩ (fun _ _ h g => ⟨h.1.trans (Below.mono g h.1.size), cell_grow h.2.1 g, cell_grow h.2.2 g⟩) ?_
   simp only [List.take_succ_cons, List.take_zero]
   iterate 4 (apply Free.chain_still (by first|exact Free.wanted_of rfl rfl rfl|rfl) rfl; (intro w' hB hA; obtain ⟨qB, q1, q2⟩ := hB; clear hA  qB; go_light; go_simp <;> rfl); (try simp only [Act.put, Pt1, Pt2, Pt3]))
   apply Free.chain_still (by first|exact Free.wanted_of rfl rfl rfl|rfl) rfl
   ·intro w' hB hA
    exact Hk.exec_mid 96 (.tmp 63) rfl ba (oa + k * 5) rfl cs _ (hR.out _ hB.1).1 Tryz.underlying96 rfl HI1.out
   simp only [Act.put, Pt1, Pt2, Pt3]
   iterate 4 (apply Free.chain_still (by first|exact Free.wanted_of rfl rfl rfl|rfl) rfl; (intro w' hB hA; obtain ⟨qB, q1, q2⟩ := hB; clear hA  qB; go_light; go_simp <;> rfl); (try simp only [Act.put, Pt1, Pt2, Pt3]))
   apply Free.chain_still (by first|exact Free.wanted_of rfl rfl rfl|rfl) rfl
   ·intro w' hB hA
    exact Hk.exec_mid 96 (.tmp 68) rfl bb (ob + k * 5) rfl cs _ (hR.out _ hB.1).2 Tryz.underlying96 rfl HI1.out
   simp only [Act.put, Pt1, Pt2, Pt3]
   apply Free.chain_still (by first|exact Free.wanted_of rfl rfl rfl|rfl) rfl
   ·intro w' hB hA
    exact neq_un (u := x) rfl (by rw [← ECS.out]; rfl) (by rw [← ECS.out]; rfl)
   simp only [Act.put, Pt1, Pt2, Pt3]
   apply Free.chain_nil
   intro w6 hw6 _ _
   simp only [List.drop_succ_cons, List.drop_zero]
   have HB6 := Lib.hid (HBX.out.trans (hw6.1.mono HBX.out.size))
   have HT6 := Lib.hid (HT.out.grow hw6.1)
   clear hw6 hR f2 f3 f4 g2 g3 g4
   go_wp2_with fail
   go_roundw
   case rel => exact ⟨k + 1, rfl, hkl, HB6.out, HT6.out⟩
   case measure => simp [RowKit.intOf]; omega
  ·have hki : ¬ (k : Int) < (c.units.length : Int) := by omega
   have HT := Lib.hid ht
   have HBX := Lib.hid hbw
   obtain ⟨f0, f1, f2, f3, f4, f5, f6, g0, g1, g2, g3, g4, g5, g6⟩ := ht
   clear hbw hk
   go_wp2_with fail
   go_loopw [6] (fun v wr => ∃ k : Nat, v = .int .i64 (k : Int) ∧ k ≤ c.acts.length ∧ Below W.heap.size W wr ∧ Two W.heap.size c d wr) (fun v _ => (c.acts.length : Int).toNat - (RowKit.intOf v).toNat)
   case atStart => exact ⟨0, rfl, Nat.zero_le _, HBX.out, HT.out⟩
   case round =>
    clear f0 f1 f2 f3 f4 f5 f6 g0 g1 g2 g3 g4 g5 g6 HBX HT hki hkl
    obtain ⟨k, rfl, hk, hbw, ht⟩ := hrel
    rcases Nat.lt_or_eq_of_le hk with hkl | hkl
    ·have hki : (k : Int) < (c.acts.length : Int) := by omega
     obtain ⟨ba, oa, ea⟩ := sl_addr HC.out.a (by intro e; rw [e] at hkl; simp at hkl)
     obtain ⟨bb, ob, eb⟩ := sl_addr HAC.out (by intro e; rw [e] at hkl; simp at hkl)
     obtain ⟨x, ex⟩ : ∃ x, c.acts[k]? = some x := ⟨_, List.getElem?_eq_getElem hkl⟩
     obtain ⟨f0, f1, f2, f3, f4, f5, f6, g0, g1, g2, g3, g4, g5, g6⟩ := ht
     have HT := Lib.hid (⟨f0, f1, f2, f3, f4, f5, f6, g0, g1, g2, g3, g4, g5, g6⟩ : Two W.heap.size c d wr)
     rw [ea] at f3
     rw [eb] at g3
     obtain ⟨cs, ecs⟩ : ∃ cs, cs = encAc x := ⟨_, rfl⟩
     have hR : Hid (∀ w', Below wr.heap.size wr w' → w'.rangeAt ba (oa + k * 7) cs ∧ w'.rangeAt bb (ob + k * 7) cs) := Lib.hid fun w' hb => by
      have h2 := hbw.trans (hb.mono hbw.size)
      have h1 := HC.out.a.below h2 (Nat.le_refl _)
      rw [ea] at h1
      have h3 := HAC.out.below h2 (Nat.le_refl _)
      rw [eb] at h3
      exact ⟨by rw [ecs]; exact sl_range h1 ex, by rw [ecs]; exact sl_range h3 ex⟩
     have HI1 : Hid ((Tryz.prog.info? 98).map (·.size) = some cs.length) := by show _ = _; rw [ecs]; kernel_rfl
     have ECS := Lib.hid ecs
     have HBX := Lib.hid hbw
     clear ex ea eb hbw hk ecs f0 f1 f5 f6 g0 g1 g5 g6
     go_wp2_with fail
     refine Free.wp_region_free 11 [] (fun w2 => Below wr.heap.size wr w2 ∧ w2.cell? ⟨W.heap.size, 3, none⟩ = some (.slice (some ⟨ba, oa, none⟩) c.acts.length c.ac) ∧ w2.cell? ⟨W.heap.size + 1, 3, none⟩ = some (.slice (some ⟨bb, ob, none⟩) c.acts.length d.ac)) (by kernel_rfl) (by kernel_rfl) (Free.mono_det (fun j mk r hf => by simp only [Free.find] at hf; repeat' (first | cases hf | split at hf))) ⟨(Below.refl _ _).drew, f3, g3⟩ (fun _ _ h g => ⟨h.1.trans (Below.mono g h.1.size), cell_grow h.2.1 g, cell_grow h.2.2 g⟩) ?_
     simp only [List.take_succ_cons, List.take_zero]
     iterate 4 (apply Free.chain_still (by first|exact Free.wanted_of rfl rfl rfl|rfl) rfl; (intro w' hB hA; obtain ⟨qB, q1, q2⟩ := hB; clear hA  qB; go_light; go_simp <;> rfl); (try simp only [Act.put, Pt1, Pt2, Pt3]))
     apply Free.chain_still (by first|exact Free.wanted_of rfl rfl rfl|rfl) rfl
     ·intro w' hB hA
      exact Hk.exec_mid 98 (.tmp 81) rfl ba (oa + k * 7) rfl cs _ (hR.out _ hB.1).1 Tryz.underlying98 rfl HI1.out
     simp only [Act.put, Pt1, Pt2, Pt3]
     iterate 4 (apply Free.chain_still (by first|exact Free.wanted_of rfl rfl rfl|rfl) rfl; (intro w' hB hA; obtain ⟨qB, q1, q2⟩ := hB; clear hA  qB; go_light; go_simp <;> rfl); (try simp only [Act.put, Pt1, Pt2, Pt3]))
     apply Free.chain_still (by first|exact Free.wanted_of rfl rfl rfl|rfl) rfl
     ·intro w' hB hA
      exact Hk.exec_mid 98 (.tmp 86) rfl bb (ob + k * 7) rfl cs _ (hR.out _ hB.1).2 Tryz.underlying98 rfl HI1.out
     simp only [Act.put, Pt1, Pt2, Pt3]
     apply Free.chain_still (by first|exact Free.wanted_of rfl rfl rfl|rfl) rfl
     ·intro w' hB hA
      exact neq_ac (u := x) rfl (by rw [← ECS.out]; rfl) (by rw [← ECS.out]; rfl)
     simp only [Act.put, Pt1, Pt2, Pt3]
     apply Free.chain_nil
     intro w6 hw6 _ _
     simp only [List.drop_succ_cons, List.drop_zero]
     have HB6 := Lib.hid (HBX.out.trans (hw6.1.mono HBX.out.size))
     have HT6 := Lib.hid (HT.out.grow hw6.1)
     clear hw6 hR f2 f3 f4 g2 g3 g4
     go_wp2_with fail
     go_roundw
     case rel => exact ⟨k + 1, rfl, hkl, HB6.out, HT6.out⟩
     case measure => simp [RowKit.intOf]; omega
    ·have hki : ¬ (k : Int) < (c.acts.length : Int) := by omega
     obtain ⟨f0, f1, f2, f3, f4, f5, f6, g0, g1, g2, g3, g4, g5, g6⟩ := ht
     have CL := Lib.hid (CC.out _ hbw)
     have HBX := Lib.hid hbw
     clear hbw hk CC
     go_wp2_with fail
     refine CL.out.mono ?_
     rintro e w9 ⟨rfl, hb9⟩
     have HF := Lib.hid (FIN.out w9 (HBX.out.trans (hb9.mono HBX.out.size)))
     go_wp2_with fail
     exact HF.out
end Go.Proofs.YtekfoaenomgjgaaGreatDoor

namespace Go.Proofs.YtekfoaenomgjgaaGreatDoor
open Go.RowKit Go.W32 Go.Blk Go.Cs Go.Lib Go.Opn Go.Mg Go.Cv

theorem rising_inj : ∀ {L : List Pr}, L.Pairwise (fun a b => a.num < b.num) → ∀ a ∈ L, ∀ b ∈ L, a.num = b.num → a = b
 | [], _, a, ha, _, _, _ => by cases ha
 | x :: L, h, a, ha, b, hb, e => by
  rw [List.pairwise_cons] at h
  rcases List.mem_cons.1 ha with q1 | q1 <;> rcases List.mem_cons.1 hb with q2 | q2
  ·rw [q1, q2]
  ·have := h.1 b q2; rw [← q1] at this; omega
  ·have := h.1 a q1; rw [← q2] at this; omega
  ·exact rising_inj h.2 a q1 b q2 e
def leP (a b : Pr) : Prop := ¬ (b.x.day < a.x.day ∨ (b.x.day = a.x.day ∧ b.x.number < a.x.number))
theorem pls_fst (l : List (Pr × Hd)) : (pls l).map (·.1) = l := by
 unfold pls
 rw [List.map_map]
 exact (List.map_congr_left fun _ _ => rfl).trans (List.zipIdx_map_fst 0 l)
theorem known_map (kn : Int) (pl : List Pl) : (knownL kn pl).map Prod.fst = ((pl.map (·.1)).map Prod.fst).filter fun q => decide (q.known ≤ kn) := by
 unfold knownL
 simp only [List.filter_map, List.map_map, Function.comp_def]
theorem known_perm {kn : Int} {am : List (Pr × Hd)} {pl : List Pl} (h : Ord am pl) : ((knownL kn pl).map Prod.fst).Perm ((am.map Prod.fst).filter fun q => decide (q.known ≤ kn)) := by
 rw [known_map]
 have h1 := h.1.map (·.1)
 rw [pls_fst] at h1
 exact (h1.map Prod.fst).filter _
theorem known_sorted {kn : Int} {am : List (Pr × Hd)} {pl : List Pl} (h : Ord am pl) : ((knownL kn pl).map Prod.fst).Pairwise leP := by
 unfold knownL
 refine List.Pairwise.map _ (fun a b hab => hab) (List.Pairwise.filter _ (List.Pairwise.map (R := fun a b : Pl => ¬ b.lt a) (S := fun a b : Pr × Hd => leP a.1 b.1) _ (fun a b hab => ?_) h.2))
 intro hh
 refine hab ?_
 unfold Pl.lt
 rcases hh with hh | ⟨h1, h2⟩
 ·exact .inl hh
 ·exact .inr ⟨h1, .inl h2⟩
/-- The amendments that are known by a day, in their order. -/
theorem known_eq {kn : Int} {am1 am2 : List (Pr × Hd)} {pl1 pl2 : List Pl} {L : List Pr} (h1 : Ord am1 pl1) (h2 : Ord am2 pl2) (hr : L.Pairwise fun a b => a.num < b.num) (e1 : am1.map Prod.fst = L) (e2 : am2.map Prod.fst = L.filter fun q => decide (q.known ≤ kn)) :
  (knownL kn pl1).map Prod.fst = (knownL kn pl2).map Prod.fst := by
 have p1 := known_perm (kn := kn) h1
 have p2 := known_perm (kn := kn) h2
 rw [e1] at p1
 rw [e2, List.filter_filter] at p2
 have e3 : (L.filter fun a => decide (a.known ≤ kn) && decide (a.known ≤ kn)) = L.filter fun a => decide (a.known ≤ kn) := List.filter_congr fun _ _ => Bool.and_self _
 rw [e3] at p2
 refine List.Perm.eq_of_pairwise (le := leP) (fun a b ha hb hab hba => ?_) (known_sorted h1) (known_sorted h2) (p1.trans p2.symm)
 have ma : a ∈ L := (List.mem_filter.1 (p1.mem_iff.1 ha)).1
 have mb : b ∈ L := (List.mem_filter.1 (p2.mem_iff.1 hb)).1
 refine rising_inj hr a ma b mb ?_
 unfold leP at hab hba
 show a.x.number = b.x.number
 omega
/-- What is in force is valid. -/
theorem force_valid (day : Int) : ∀ (l : List Pr) (s : Con × List Int), errC s.1 = 0 → errC (forceF day s l).1 = 0
 | [], _, h => h
 | a :: r, s, h => by
  unfold forceF
  split
  ·exact h
  ·refine force_valid day r _ ?_
   cases e : applyP s.1 a.x.patch with
   | none => exact h
   | some c =>
    unfold applyP at e
    split at e
    ·cases e
    ·split at e
     ·rename_i hh
      injection e with e
      subst e
      exact hh.2.2.2
     ·cases e
end Go.Proofs.YtekfoaenomgjgaaGreatDoor

namespace Go.Cv
open Go Go.Cs
def spanP : Pat := ⟨5, [0], Cls.zero, 5⟩
def x11 : Let := ⟨1, 0, 1, 1, 2, spanP, ⟨#[]⟩⟩
def y11 (D : ByteArray) : Let := ⟨2, 1, 1, 1, 0, Pat.zero, D⟩
def duK (a : Int) : Cls := ⟨1, 0, 0, 1, [], a, 0, false, true, -1, -1, 0, 1, -1, -1, false⟩
def duC (a : Int) : Con := ⟨2, [0, 1], [], [⟨1, 0, 0, -1, -1, 0, 1⟩], [duK a], 6, []⟩
theorem cnt_x (k : Int) : counts k 2 x11 = decide (k = 1) := by
 by_cases hk : k = 1
 ·subst hk
  unfold counts Let.formed Let.base
  simp [x11, spanP, Pat.small, Cls.zero, empty_eq]
 ·simp [counts, x11, hk, eq_comm]
theorem cnt_y (D : ByteArray) (k : Int) : counts k 2 (y11 D) = decide (k = 2) := by
 by_cases hk : k = 2
 ·subst hk
  unfold counts Let.formed Let.base
  simp [y11, Pat.same, Cls.same]
 ·simp [counts, y11, hk, eq_comm]
theorem errC_3 : errC (duC 3) = 0 := by decide +kernel
theorem errC_5 : errC (duC 5) = 0 := by decide +kernel
theorem apply_11 : applyP (duC 3) spanP = some (duC 5) := by
 have e : (duC 3).after spanP = duC 5 := rfl
 show (match effOf spanP.kind with | none => none | some e => if errC (duC 3) = 0 ∧ fitsB (duC 3).cls.length spanP e = true ∧ ¬ (spanP.kind = 1 ∧ (duC 3).cls.length = 400) ∧ errC ((duC 3).after spanP) = 0 then some ((duC 3).after spanP) else none) = _
 rw [show effOf spanP.kind = some ⟨1, 400, false, true⟩ from rfl]
 simp only
 rw [if_pos ⟨errC_3, by decide, by decide, by rw [e]; exact errC_5⟩, e]
section
variable (D : Let → ByteArray) (h1 h2 : Hd)
theorem ag_11 : agreedF D 2 [(x11, h1), (y11 (D x11), h2)] = [⟨x11, h1, D x11, 1⟩] := by
 have e1 := cnt_x
 have e2 := cnt_y (D x11)
 have e3 : (y11 (D x11)).slot = (1, 1) ∧ (y11 (D x11)).sum = D x11 ∧ (y11 (D x11)).sent = 1 := ⟨rfl, rfl, rfl⟩
 have hk : knownOn 2 [(((1, 1), D x11), 1)] ⟨x11, h1, D x11, 0⟩ = 1 := by
  simp [knownOn, knUpto, knStep, List.range, List.range.loop, x11, Mk.get]
 have ha : accs 2 [(x11, h1), (y11 (D x11), h2)] = [(((1, 1), D x11), 1)] := by
  simp [accs, acStep, Mk.get, Mk.put, e1, e2, e3]
 have hp : prs D 2 [(x11, h1), (y11 (D x11), h2)] = [⟨x11, h1, D x11, 1⟩] := by
  unfold prs
  rw [ha]
  simp [props, prStep, Mk.get, Mk.put, e1, e2, setKnown, hk]
 have hw : wds 2 [(x11, h1), (y11 (D x11), h2)] = [] := by
  simp [wds, groups, grp, Mk.get, Mk.put, e1, e2]
 unfold agreedF best cands
 rw [show okParties 2 [(x11, h1), (y11 (D x11), h2)] = true by simp [okParties], hp, hw]
 simp [isBest, isort, ins, valid, Mk.get]
end
theorem force_1 (h : Hd) (D : ByteArray) : forceF 1 (duC 3, []) [⟨x11, h, D, 1⟩] = (duC 3, []) := rfl
theorem force_2 (h : Hd) (D : ByteArray) : forceF 2 (duC 3, []) [⟨x11, h, D, 1⟩] = (duC 5, [1]) := by
 show (if (2 : Int) < 2 then ((duC 3, []) : Con × List Int) else forceF 2 (match applyP (duC 3) spanP with | some c => (c, [] ++ [x11.number]) | none => (duC 3, [])) []) = _
 rw [if_neg (Int.lt_irrefl 2), apply_11]; rfl
end Go.Cv
namespace Go.Proofs.YtekfoaenomgjgaaGreatDoor
open Go.RowKit Go.W32 Go.Blk Go.Cs Go.Lib Go.Opn Go.Mg Go.Cv
theorem agreed_len (D : Let → ByteArray) (parties : Int) (l : List Rl) : (agreedF D parties l).length ≤ l.length := by
 unfold agreedF
 split
 ·have hi : ∀ (b : List Pr), (isort Pr.num b).length = b.length := fun b => by
   induction b with
   | nil => rfl
   | cons x r ih =>
    have hn : ∀ (y : Pr) (s : List Pr), (ins Pr.num y s).length = s.length + 1 := fun y s => by
     induction s with
     | nil => rfl
     | cons z t ih2 => rw [ins]; split <;> simp [ih2]
    rw [isort, hn, ih]; rfl
  rw [hi]
  unfold best cands
  refine Nat.le_trans (List.length_filter_le _ _) (Nat.le_trans (List.length_filter_le _ _) ?_)
  unfold prs
  rw [List.length_map]
  exact props_len D parties l
 ·exact Nat.zero_le _
/-- A list of one amendment. -/
theorem ord_one {x : Pr × Hd} {pl : List Pl} {kn : Int} (h : Ord [x] pl) (hk : x.1.known ≤ kn) : (knownL kn pl).map Prod.fst = [x.1] := by
 have h1 := known_perm (kn := kn) h
 rw [show ([x].map Prod.fst).filter (fun q => decide (q.known ≤ kn)) = [x.1] by simp [hk]] at h1
 exact List.perm_singleton.1 h1
end Go.Proofs.YtekfoaenomgjgaaGreatDoor
