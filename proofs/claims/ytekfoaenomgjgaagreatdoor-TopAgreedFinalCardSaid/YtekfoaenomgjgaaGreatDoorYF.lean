/- The reference of layer 24: lists of numbers, clauses and patches compared. No condition. The reference of layer 30: lists of pairs compared. No condition. The references of layers 24 and 30: patches, amendments and their lists compared. No condition. The reference of layer 30: amendments, their lists, and lists of pairs compared. No condition. The references of layers 24 and 30: small letters, letters without those of a party, lists of pairs. No condition. Law 30: a patch that waives a clause; what two parties agree on by two letters and a further one. Condition: the variables of digest and strconv hold their numbers. Law 30: what two parties agree on by two letters and a further one. Condition: the variables of digest and strconv hold their numbers. The head of law 30: its digests. No condition. Law 30: what two parties agree on, in the cases of the head. Condition: the variables of digest and strconv hold their numbers. Law 30: its head is true. Condition: the variables of digest and strconv hold their numbers. Slices opened to lists, as arguments and as parts of structs. No condition. Letters opened, as arguments. Condition: the arguments are readable. -/
import Derived.Test.YtekfoaenomgjgaaGreatDoorYE
import Derived.Test.YtekfoaenomgjgaaGreatDoorYA
import Derived.Great.BuildSlice
import Derived.Test.YtekfoaenomgjgaaGreatDoorYC
import Derived.Lib.SmallJoins
set_option maxRecDepth 100000
set_option linter.unusedSimpArgs false
set_option linter.unusedVariables false
namespace Go.Proofs.YtekfoaenomgjgaaGreatDoor
open Go.RowKit Go.W32 Go.Blk Go.Cs Go.Lib Go.Opn Go.Mg

theorem sl_cell1 {w : World} {b off k : Nat} {l : List Int} {x : Int} (h : SL w 1 Cs.encI (some ⟨b, off, none⟩) l) (hk : l[k]? = some x) : w.cell? ⟨b, off + k, none⟩ = some (.int .i64 x) := by
 obtain ⟨b', o', e, hc⟩ := h.at_ hk
 injection e with e
 injection e with e1 e2
 subst e1 e2
 have := hc 0 (.int .i64 x) rfl
 rwa [show off + (k * 1 + 0) = off + k by omega] at this
theorem sl_range2 {w : World} {b off k : Nat} {l : List (Int × Int)} {x : Int × Int} (h : SL w 2 encCond (some ⟨b, off, none⟩) l) (hk : l[k]? = some x) : w.rangeAt b (off + k * 2) [.int .i64 x.1, .int .i64 x.2] := fun j v hj => by
 obtain ⟨b', o', e, hc⟩ := h.at_ hk
 injection e with e
 injection e with e1 e2
 subst e1 e2
 have := hc j v hj
 rw [← Nat.add_assoc] at this
 exact this
theorem sl_addr {α : Type} {ec : α → List Value} {sz : Nat} {w : World} {A : Option Addr} {l : List α} (h : SL w sz ec A l) (hne : l ≠ []) : ∃ b off, A = some ⟨b, off, none⟩ := by
 obtain ⟨b, off, e, _⟩ := h.cells hne
 exact ⟨b, off, e⟩
theorem take_more {α : Type} {a b : List α} {k : Nat} {x y : α} (ha : a[k]? = some x) (hb : b[k]? = some y) (h : a.take k = b.take k) (e : x = y) : a.take (k + 1) = b.take (k + 1) := by
 rw [List.take_add_one, List.take_add_one, ha, hb, h, e]
theorem ne_at {α : Type} {a b : List α} {k : Nat} {x y : α} (ha : a[k]? = some x) (hb : b[k]? = some y) (e : x ≠ y) : a ≠ b := fun h => by
 rw [h, hb] at ha
 exact e (Option.some.inj ha.symm)
set_option maxHeartbeats 1000000 in
theorem ints_any (A : Option Addr) (c : Nat) (a : List Int) (B : Option Addr) (d : Nat) (b : List Int) (W : World) (ha : SL W 1 Cs.encI A a) (hb : SL W 1 Cs.encI B b) (hn : a.length ≤ 4611686018427387903) (hm : b.length ≤ 4611686018427387903) :
  Calls Tryz.prog 13 #[.slice A a.length c, .slice B b.length d] W fun e w' => e = .returned (.bool (decide (a = b))) ∧ Below W.heap.size W w' := by
 obtain ⟨R, eR⟩ : ∃ R : Ending → World → Prop, R = fun e w' => e = .returned (.bool (decide (a = b))) ∧ Below W.heap.size W w' := ⟨_, rfl⟩
 rw [← eR]
 have FIN : Hid (∀ w' v, v = decide (a = b) → Below W.heap.size W w' → R (.returned (.bool v)) w') := Lib.hid fun w' v h hb => by rw [eR, h]; exact ⟨rfl, hb⟩
 clear eR
 have HA := Lib.hid ha
 have HB := Lib.hid hb
 clear ha hb
 go_enter Tryz.func13, Tryz.ntmps13
 by_cases hl : a.length = b.length
 ·have hli : (a.length : Int) = (b.length : Int) := by omega
  go_wp2_with fail
  go_loopw [5] (fun v wr => ∃ k : Nat, v = .int .i64 (k : Int) ∧ k ≤ a.length ∧ a.take k = b.take k ∧ Below W.heap.size W wr) (fun v _ => (a.length : Int).toNat - (RowKit.intOf v).toNat)
  case atStart => exact ⟨0, rfl, Nat.zero_le _, rfl, Below.refl _ _⟩
  case round =>
   obtain ⟨k, rfl, hk, ht, hbw⟩ := hrel
   rcases Nat.lt_or_eq_of_le hk with hkl | hkl
   ·have hki : (k : Int) < (a.length : Int) := by omega
    have hkj : (k : Int) < (b.length : Int) := by omega
    obtain ⟨ba, oa, rfl⟩ := sl_addr HA.out (by rintro rfl; simp at hkl)
    obtain ⟨bb, ob, rfl⟩ := sl_addr HB.out (fun e => by have h := congrArg List.length e; rw [List.length_nil] at h; omega)
    obtain ⟨x, ex⟩ : ∃ x, a[k]? = some x := ⟨_, List.getElem?_eq_getElem hkl⟩
    obtain ⟨y, ey⟩ : ∃ y, b[k]? = some y := ⟨_, List.getElem?_eq_getElem (by omega)⟩
    have HC : Hid (wr.drew.cell? ⟨ba, oa + k, none⟩ = some (.int .i64 x) ∧ wr.drew.cell? ⟨bb, ob + k, none⟩ = some (.int .i64 y)) := Lib.hid ⟨sl_cell1 ((HA.out.below hbw (Nat.le_refl _)).drew) ex, sl_cell1 ((HB.out.below hbw (Nat.le_refl _)).drew) ey⟩
    have HT := Lib.hid ht
    have EX := Lib.hid ex
    have EY := Lib.hid ey
    have HBW := Lib.hid hbw.drew
    clear ht ex ey hbw hk
    by_cases hxy : x = y
    ·subst hxy
     go_wp2_with fail
     refine Fre3.wp_region_staged 9 [] (fun _ w' => w' = wr.drew) (by kernel_rfl) (by kernel_rfl) (by kernel_rfl) rfl ?_
     simp only [List.take_succ_cons, List.take_zero]
     iterate 9 (apply Fre3.chain_still (by first|exact Free.wanted_of rfl rfl rfl|rfl) rfl; (intro s w' hB; have hB : w' = wr.drew := hB; subst hB; obtain ⟨hc1, hc2⟩ := HC.out; go_light; go_simp <;> rfl); (try simp only [Act.put, Pt1, Pt2, Pt3]))
     apply Fre3.chain_nil
     intro wz hB
     have hB : wz = wr.drew := hB
     subst hB
     simp only [List.drop_succ_cons, List.drop_zero]
     go_wp2_with fail
     go_roundw
     case rel => exact ⟨k + 1, rfl, hkl, take_more EX.out EY.out HT.out rfl, HBW.out⟩
     case measure => simp [RowKit.intOf]; omega
    ·have HF := Lib.hid (FIN.out wr.drew false (decide_eq_false (ne_at EX.out EY.out hxy)).symm HBW.out)
     go_wp2_with fail
     refine Fre3.wp_region_staged 9 [] (fun _ w' => w' = wr.drew) (by kernel_rfl) (by kernel_rfl) (by kernel_rfl) rfl ?_
     simp only [List.take_succ_cons, List.take_zero]
     iterate 9 (apply Fre3.chain_still (by first|exact Free.wanted_of rfl rfl rfl|rfl) rfl; (intro s w' hB; have hB : w' = wr.drew := hB; subst hB; obtain ⟨hc1, hc2⟩ := HC.out; go_light; go_simp <;> rfl); (try simp only [Act.put, Pt1, Pt2, Pt3]))
     apply Fre3.chain_nil
     intro wz hB
     have hB : wz = wr.drew := hB
     subst hB
     simp only [List.drop_succ_cons, List.drop_zero]
     go_wp2_with fail
     exact HF.out
   ·have hki : ¬ (k : Int) < (a.length : Int) := by omega
    have hF := FIN.out wr true (decide_eq_true (by
     have h1 := ht
     rw [List.take_of_length_le (by omega), List.take_of_length_le (by omega)] at h1
     exact h1)).symm hbw
    have HF := Lib.hid hF
    clear hF ht hbw
    go_wp2_with fail
    exact HF.out
 ·have hli : ¬ (a.length : Int) = (b.length : Int) := by omega
  have HF := Lib.hid (FIN.out W false (decide_eq_false (fun e => hl (by rw [e]))).symm (Below.refl _ _))
  go_wp2_with fail
  exact HF.out
set_option maxHeartbeats 4000000 in
theorem sc_any (x y : Cls) (A : Option Addr) (c : Nat) (B : Option Addr) (d : Nat) (W : World) (hx : SL W 2 encCond A x.start) (hy : SL W 2 encCond B y.start) (hn : x.start.length ≤ 4611686018427387903) (hm : y.start.length ≤ 4611686018427387903) :
  Calls Tryz.prog 72 #[.agg (encCls x (.slice A x.start.length c)).toArray, .agg (encCls y (.slice B y.start.length d)).toArray] W fun e w' => e = .returned (.bool (x.same y)) ∧ Below W.heap.size W w' := by
 obtain ⟨R, eR⟩ : ∃ R : Ending → World → Prop, R = fun e w' => e = .returned (.bool (x.same y)) ∧ Below W.heap.size W w' := ⟨_, rfl⟩
 rw [← eR]
 have FINF : Hid (∀ w', x ≠ y → Below W.heap.size W w' → R (.returned (.bool false)) w') := Lib.hid fun w' h hb => by
  have h1 : x.same y = false := by
   cases hs : x.same y with
   | false => rfl
   | true => exact absurd (Cls.same_iff.1 hs) h
  rw [eR, h1]; exact ⟨rfl, hb⟩
 have FINT : Hid (∀ w', x = y → Below W.heap.size W w' → R (.returned (.bool true)) w') := Lib.hid fun w' h hb => by
  rw [eR, Cls.same_iff.2 h]; exact ⟨rfl, hb⟩
 clear eR
 have HA := Lib.hid hx
 have HB := Lib.hid hy
 clear hx hy
 have HIC : Hid ((Tryz.prog.info? 133).map (·.size) = some 2) := by show _ = _; kernel_rfl
 obtain ⟨xkind, xrole, xact, xneed, xstart, xafter, xgrace, xbus, xfin, xpause, xresume, xnum, xden, xunit, xto, xwaived⟩ := x
 obtain ⟨ykind, yrole, yact, yneed, ystart, yafter, ygrace, ybus, yfin, ypause, yresume, ynum, yden, yunit, yto, ywaived⟩ := y
 obtain ⟨STx, eSx⟩ : ∃ STx, STx = Value.slice A xstart.length c := ⟨_, rfl⟩
 obtain ⟨STy, eSy⟩ : ∃ STy, STy = Value.slice B ystart.length d := ⟨_, rfl⟩
 obtain ⟨cs, ecs⟩ : ∃ cs : List Value, cs = [.int .i64 xkind, .int .i64 xrole, .int .i64 xact, .int .i64 xneed, STx, .int .i64 xafter, .int .i64 xgrace, .bool xbus, .bool xfin, .int .i64 xpause, .int .i64 xresume, .int .i64 xnum, .int .i64 xden, .int .i64 xunit, .int .i64 xto, .bool xwaived] := ⟨_, rfl⟩
 obtain ⟨ds, eds⟩ : ∃ ds : List Value, ds = [.int .i64 ykind, .int .i64 yrole, .int .i64 yact, .int .i64 yneed, STy, .int .i64 yafter, .int .i64 ygrace, .bool ybus, .bool yfin, .int .i64 ypause, .int .i64 yresume, .int .i64 ynum, .int .i64 yden, .int .i64 yunit, .int .i64 yto, .bool ywaived] := ⟨_, rfl⟩
 have ARG : Hid (encCls ⟨xkind, xrole, xact, xneed, xstart, xafter, xgrace, xbus, xfin, xpause, xresume, xnum, xden, xunit, xto, xwaived⟩ (.slice A xstart.length c) = cs ∧ encCls ⟨ykind, yrole, yact, yneed, ystart, yafter, ygrace, ybus, yfin, ypause, yresume, ynum, yden, yunit, yto, ywaived⟩ (.slice B ystart.length d) = ds) := Lib.hid ⟨by rw [ecs, eSx]; rfl, by rw [eds, eSy]; rfl⟩
 show Calls Tryz.prog 72 #[.agg (encCls ⟨xkind, xrole, xact, xneed, xstart, xafter, xgrace, xbus, xfin, xpause, xresume, xnum, xden, xunit, xto, xwaived⟩ (.slice A xstart.length c)).toArray, .agg (encCls ⟨ykind, yrole, yact, yneed, ystart, yafter, ygrace, ybus, yfin, ypause, yresume, ynum, yden, yunit, yto, ywaived⟩ (.slice B ystart.length d)).toArray] W R
 rw [ARG.out.1, ARG.out.2]
 have hr1 : Row (W.alloc (.cells cs.toArray 45)) W.heap.size 45 cs := Row.new _ _ _
 have z1 : (W.alloc (.cells cs.toArray 45)).heap.size = W.heap.size + 1 := by simp
 have hr2 : Row ((W.alloc (.cells cs.toArray 45)).alloc (.cells ds.toArray 45)) (W.heap.size + 1) 45 ds := by rw [← z1]; exact Row.new _ _ _
 have hr1' : Row ((W.alloc (.cells cs.toArray 45)).alloc (.cells ds.toArray 45)) W.heap.size 45 cs := hr1.below ((Below.refl _ _).alloc (Nat.le_refl _) _) hr1.lt
 have HBW : Hid (Below W.heap.size W ((W.alloc (.cells cs.toArray 45)).alloc (.cells ds.toArray 45))) := Lib.hid (((Below.refl _ _).alloc (Nat.le_refl _) _).alloc (by simp) _)
 have c0 := hr1'.at (show cs[0]? = some (.int .i64 xkind) by rw [ecs]; rfl)
 have d0 := hr2.at (show ds[0]? = some (.int .i64 ykind) by rw [eds]; rfl)
 have c1 := hr1'.at (show cs[1]? = some (.int .i64 xrole) by rw [ecs]; rfl)
 have d1 := hr2.at (show ds[1]? = some (.int .i64 yrole) by rw [eds]; rfl)
 have c2 := hr1'.at (show cs[2]? = some (.int .i64 xact) by rw [ecs]; rfl)
 have d2 := hr2.at (show ds[2]? = some (.int .i64 yact) by rw [eds]; rfl)
 have c3 := hr1'.at (show cs[3]? = some (.int .i64 xneed) by rw [ecs]; rfl)
 have d3 := hr2.at (show ds[3]? = some (.int .i64 yneed) by rw [eds]; rfl)
 have c4 := hr1'.at (show cs[4]? = some (STx) by rw [ecs]; rfl)
 have d4 := hr2.at (show ds[4]? = some (STy) by rw [eds]; rfl)
 have c5 := hr1'.at (show cs[5]? = some (.int .i64 xafter) by rw [ecs]; rfl)
 have d5 := hr2.at (show ds[5]? = some (.int .i64 yafter) by rw [eds]; rfl)
 have c6 := hr1'.at (show cs[6]? = some (.int .i64 xgrace) by rw [ecs]; rfl)
 have d6 := hr2.at (show ds[6]? = some (.int .i64 ygrace) by rw [eds]; rfl)
 have c7 := hr1'.at (show cs[7]? = some (.bool xbus) by rw [ecs]; rfl)
 have d7 := hr2.at (show ds[7]? = some (.bool ybus) by rw [eds]; rfl)
 have c8 := hr1'.at (show cs[8]? = some (.bool xfin) by rw [ecs]; rfl)
 have d8 := hr2.at (show ds[8]? = some (.bool yfin) by rw [eds]; rfl)
 have c9 := hr1'.at (show cs[9]? = some (.int .i64 xpause) by rw [ecs]; rfl)
 have d9 := hr2.at (show ds[9]? = some (.int .i64 ypause) by rw [eds]; rfl)
 have c10 := hr1'.at (show cs[10]? = some (.int .i64 xresume) by rw [ecs]; rfl)
 have d10 := hr2.at (show ds[10]? = some (.int .i64 yresume) by rw [eds]; rfl)
 have c11 := hr1'.at (show cs[11]? = some (.int .i64 xnum) by rw [ecs]; rfl)
 have d11 := hr2.at (show ds[11]? = some (.int .i64 ynum) by rw [eds]; rfl)
 have c12 := hr1'.at (show cs[12]? = some (.int .i64 xden) by rw [ecs]; rfl)
 have d12 := hr2.at (show ds[12]? = some (.int .i64 yden) by rw [eds]; rfl)
 have c13 := hr1'.at (show cs[13]? = some (.int .i64 xunit) by rw [ecs]; rfl)
 have d13 := hr2.at (show ds[13]? = some (.int .i64 yunit) by rw [eds]; rfl)
 have c14 := hr1'.at (show cs[14]? = some (.int .i64 xto) by rw [ecs]; rfl)
 have d14 := hr2.at (show ds[14]? = some (.int .i64 yto) by rw [eds]; rfl)
 have c15 := hr1'.at (show cs[15]? = some (.bool xwaived) by rw [ecs]; rfl)
 have d15 := hr2.at (show ds[15]? = some (.bool ywaived) by rw [eds]; rfl)
 have HR1 := Lib.hid hr1'
 have HR2 := Lib.hid hr2
 generalize eW : (W.alloc (.cells cs.toArray 45)).alloc (.cells ds.toArray 45) = W2 at *
 have EW := Lib.hid eW
 clear hr1 hr1' hr2 eW z1 ecs eds
 by_cases hkind : xkind = ykind
 rotate_left
 ·have HF := Lib.hid (FINF.out W2 (fun e => hkind (congrArg Cls.kind e)) HBW.out)
  go_enter Tryz.func72, Tryz.ntmps72
  go_wp2_with (simp only [EW.out])
  exact HF.out
 subst hkind
 by_cases hrole : xrole = yrole
 rotate_left
 ·have HF := Lib.hid (FINF.out W2 (fun e => hrole (congrArg Cls.role e)) HBW.out)
  go_enter Tryz.func72, Tryz.ntmps72
  go_wp2_with (simp only [EW.out])
  exact HF.out
 subst hrole
 by_cases hact : xact = yact
 rotate_left
 ·have HF := Lib.hid (FINF.out W2 (fun e => hact (congrArg Cls.act e)) HBW.out)
  go_enter Tryz.func72, Tryz.ntmps72
  go_wp2_with (simp only [EW.out])
  exact HF.out
 subst hact
 by_cases hneed : xneed = yneed
 rotate_left
 ·have HF := Lib.hid (FINF.out W2 (fun e => hneed (congrArg Cls.need e)) HBW.out)
  go_enter Tryz.func72, Tryz.ntmps72
  go_wp2_with (simp only [EW.out])
  exact HF.out
 subst hneed
 by_cases hafter : xafter = yafter
 rotate_left
 ·have HF := Lib.hid (FINF.out W2 (fun e => hafter (congrArg Cls.after e)) HBW.out)
  go_enter Tryz.func72, Tryz.ntmps72
  go_wp2_with (simp only [EW.out])
  exact HF.out
 subst hafter
 by_cases hgrace : xgrace = ygrace
 rotate_left
 ·have HF := Lib.hid (FINF.out W2 (fun e => hgrace (congrArg Cls.grace e)) HBW.out)
  go_enter Tryz.func72, Tryz.ntmps72
  go_wp2_with (simp only [EW.out])
  exact HF.out
 subst hgrace
 by_cases hbus : xbus = ybus
 rotate_left
 ·have HF := Lib.hid (FINF.out W2 (fun e => hbus (congrArg Cls.bus e)) HBW.out)
  have hb : ybus = !xbus := by revert hbus; cases xbus <;> cases ybus <;> simp
  subst hb
  clear hbus
  cases xbus <;> (go_enter Tryz.func72, Tryz.ntmps72; go_wp2_with (simp only [EW.out]); exact HF.out)
 subst hbus
 by_cases hfin : xfin = yfin
 rotate_left
 ·have HF := Lib.hid (FINF.out W2 (fun e => hfin (congrArg Cls.fin e)) HBW.out)
  have hb : yfin = !xfin := by revert hfin; cases xfin <;> cases yfin <;> simp
  subst hb
  clear hfin
  cases xfin <;> (go_enter Tryz.func72, Tryz.ntmps72; go_wp2_with (simp only [EW.out]); exact HF.out)
 subst hfin
 by_cases hpause : xpause = ypause
 rotate_left
 ·have HF := Lib.hid (FINF.out W2 (fun e => hpause (congrArg Cls.pause e)) HBW.out)
  go_enter Tryz.func72, Tryz.ntmps72
  go_wp2_with (simp only [EW.out])
  exact HF.out
 subst hpause
 by_cases hresume : xresume = yresume
 rotate_left
 ·have HF := Lib.hid (FINF.out W2 (fun e => hresume (congrArg Cls.resume e)) HBW.out)
  go_enter Tryz.func72, Tryz.ntmps72
  go_wp2_with (simp only [EW.out])
  exact HF.out
 subst hresume
 by_cases hnum : xnum = ynum
 rotate_left
 ·have HF := Lib.hid (FINF.out W2 (fun e => hnum (congrArg Cls.num e)) HBW.out)
  go_enter Tryz.func72, Tryz.ntmps72
  go_wp2_with (simp only [EW.out])
  exact HF.out
 subst hnum
 by_cases hden : xden = yden
 rotate_left
 ·have HF := Lib.hid (FINF.out W2 (fun e => hden (congrArg Cls.den e)) HBW.out)
  go_enter Tryz.func72, Tryz.ntmps72
  go_wp2_with (simp only [EW.out])
  exact HF.out
 subst hden
 by_cases hunit : xunit = yunit
 rotate_left
 ·have HF := Lib.hid (FINF.out W2 (fun e => hunit (congrArg Cls.unit e)) HBW.out)
  go_enter Tryz.func72, Tryz.ntmps72
  go_wp2_with (simp only [EW.out])
  exact HF.out
 subst hunit
 by_cases hto : xto = yto
 rotate_left
 ·have HF := Lib.hid (FINF.out W2 (fun e => hto (congrArg Cls.to e)) HBW.out)
  go_enter Tryz.func72, Tryz.ntmps72
  go_wp2_with (simp only [EW.out])
  exact HF.out
 subst hto
 by_cases hwaived : xwaived = ywaived
 rotate_left
 ·have HF := Lib.hid (FINF.out W2 (fun e => hwaived (congrArg Cls.waived e)) HBW.out)
  have hb : ywaived = !xwaived := by revert hwaived; cases xwaived <;> cases ywaived <;> simp
  subst hb
  clear hwaived
  cases xwaived <;> (go_enter Tryz.func72, Tryz.ntmps72; go_wp2_with (simp only [EW.out]); exact HF.out)
 subst hwaived
 by_cases hl : xstart.length = ystart.length
 rotate_left
 ·have HF := Lib.hid (FINF.out W2 (fun e => hl (congrArg (fun k => k.start.length) e)) HBW.out)
  have hli : ¬ (xstart.length : Int) = (ystart.length : Int) := by omega
  rw [eSx] at c4
  rw [eSy] at d4
  go_enter Tryz.func72, Tryz.ntmps72
  go_wp2_with (simp only [EW.out])
  exact HF.out
 rw [eSx] at c4
 rw [eSy] at d4
 clear eSx eSy
 have hli : (xstart.length : Int) = (ystart.length : Int) := by omega
 go_enter Tryz.func72, Tryz.ntmps72
 go_wp2_with (simp only [EW.out])
 clear c0 c1 c2 c3 c5 c6 c7 c8 c9 c10 c11 c12 c13 c14 c15 d0 d1 d2 d3 d5 d6 d7 d8 d9 d10 d11 d12 d13 d14 d15 ARG
 have C4 : Hid (∀ w', Below W2.heap.size W2 w' → w'.cell? ⟨W.heap.size, 4, none⟩ = some (.slice A xstart.length c) ∧ w'.cell? ⟨W.heap.size + 1, 4, none⟩ = some (.slice B ystart.length d)) := Lib.hid fun w' h => by
  have h1 := World.block_lt_of_cell? _ _ c4
  have h2 := World.block_lt_of_cell? _ _ d4
  exact ⟨by rw [h.cell (p := ⟨W.heap.size, 4, none⟩) h1]; exact c4, by rw [h.cell (p := ⟨W.heap.size + 1, 4, none⟩) h2]; exact d4⟩
 clear c4 d4
 go_loopw [5] (fun v wr => ∃ k : Nat, v = .int .i64 (k : Int) ∧ k ≤ xstart.length ∧ xstart.take k = ystart.take k ∧ Below W2.heap.size W2 wr) (fun v _ => (xstart.length : Int).toNat - (RowKit.intOf v).toNat)
 case atStart => exact ⟨0, rfl, Nat.zero_le _, rfl, Below.refl _ _⟩
 case round =>
  obtain ⟨k, rfl, hk, ht, hbw⟩ := hrel
  obtain ⟨e4, f4⟩ := C4.out wr hbw
  have hbww : Below W.heap.size W wr := HBW.out.trans (hbw.mono HBW.out.size)
  rcases Nat.lt_or_eq_of_le hk with hkl | hkl
  ·have hki : (k : Int) < (xstart.length : Int) := by omega
   have hkj : (k : Int) < (ystart.length : Int) := by omega
   obtain ⟨ba, oa, eA⟩ := sl_addr HA.out (by rintro rfl; simp at hkl)
   obtain ⟨bb, ob, eB⟩ := sl_addr HB.out (fun e => by have h := congrArg List.length e; rw [List.length_nil] at h; omega)
   rw [eA] at e4
   rw [eB] at f4
   obtain ⟨p, ex⟩ : ∃ x, xstart[k]? = some x := ⟨_, List.getElem?_eq_getElem hkl⟩
   obtain ⟨q, ey⟩ : ∃ y, ystart[k]? = some y := ⟨_, List.getElem?_eq_getElem (by omega)⟩
   have HC : Hid (wr.drew.rangeAt ba (oa + k * 2) [.int .i64 p.1, .int .i64 p.2] ∧ wr.drew.rangeAt bb (ob + k * 2) [.int .i64 q.1, .int .i64 q.2]) := Lib.hid (by
    have hA := (HA.out.below hbww (Nat.le_refl _)).drew
    have hB := (HB.out.below hbww (Nat.le_refl _)).drew
    rw [eA] at hA
    rw [eB] at hB
    exact ⟨sl_range2 hA ex, sl_range2 hB ey⟩)
   have HE : Hid (wr.drew.cell? ⟨W.heap.size, 4, none⟩ = some (.slice (some ⟨ba, oa, none⟩) xstart.length c) ∧ wr.drew.cell? ⟨W.heap.size + 1, 4, none⟩ = some (.slice (some ⟨bb, ob, none⟩) ystart.length d)) := Lib.hid ⟨e4, f4⟩
   have HT := Lib.hid ht
   have EX := Lib.hid ex
   have EY := Lib.hid ey
   have HBX := Lib.hid hbw.drew
   have HBY := Lib.hid hbww.drew
   obtain ⟨p1, p2⟩ := p
   obtain ⟨q1, q2⟩ := q
   clear ht ex ey hbw hbww hk eA eB
   by_cases h1 : p1 = q1
   ·subst h1
    by_cases h2 : p2 = q2
    ·subst h2
     go_wp2_with fail
     refine Fre3.wp_region_staged 11 [] (fun _ w' => w' = wr.drew) (by kernel_rfl) (by kernel_rfl) (by kernel_rfl) rfl ?_
     simp only [List.take_succ_cons, List.take_zero]
     iterate 4 (apply Fre3.chain_still (by first|exact Free.wanted_of rfl rfl rfl|rfl) rfl; (intro s w' hB; have hB : w' = wr.drew := hB; subst hB; obtain ⟨hc1, hc2⟩ := HE.out; go_light; go_simp <;> rfl); (try simp only [Act.put, Pt1, Pt2, Pt3]))
     apply Fre3.chain_still (by first|exact Free.wanted_of rfl rfl rfl|rfl) rfl
     ·intro s w' hB
      have hB : w' = wr.drew := hB
      subst hB
      exact Hk.exec_mid 133 (.tmp 119) rfl ba (oa + k * 2) rfl _ _ HC.out.1 Tryz.underlying133 rfl HIC.out
     simp only [Act.put, Pt1, Pt2, Pt3]
     iterate 4 (apply Fre3.chain_still (by first|exact Free.wanted_of rfl rfl rfl|rfl) rfl; (intro s w' hB; have hB : w' = wr.drew := hB; subst hB; obtain ⟨hc1, hc2⟩ := HE.out; go_light; go_simp <;> rfl); (try simp only [Act.put, Pt1, Pt2, Pt3]))
     apply Fre3.chain_still (by first|exact Free.wanted_of rfl rfl rfl|rfl) rfl
     ·intro s w' hB
      have hB : w' = wr.drew := hB
      subst hB
      exact Hk.exec_mid 133 (.tmp 124) rfl bb (ob + k * 2) rfl _ _ HC.out.2 Tryz.underlying133 rfl HIC.out
     simp only [Act.put, Pt1, Pt2, Pt3]
     apply Fre3.chain_still (by first|exact Free.wanted_of rfl rfl rfl|rfl) rfl
     ·intro s w' hB
      go_light
      go_simp <;> rfl
     simp only [Act.put, Pt1, Pt2, Pt3]
     apply Fre3.chain_nil
     intro wz hB
     have hB : wz = wr.drew := hB
     subst hB
     simp only [List.drop_succ_cons, List.drop_zero]
     go_wp2_with fail
     go_roundw
     case rel => exact ⟨k + 1, rfl, hkl, take_more EX.out EY.out HT.out rfl, HBX.out⟩
     case measure => simp [RowKit.intOf]; omega
    ·have HF := Lib.hid (FINF.out wr.drew (fun e => ne_at EX.out EY.out (fun e2 => h2 (congrArg Prod.snd e2)) (congrArg Cls.start e)) HBY.out)
     go_wp2_with fail
     refine Fre3.wp_region_staged 11 [] (fun _ w' => w' = wr.drew) (by kernel_rfl) (by kernel_rfl) (by kernel_rfl) rfl ?_
     simp only [List.take_succ_cons, List.take_zero]
     iterate 4 (apply Fre3.chain_still (by first|exact Free.wanted_of rfl rfl rfl|rfl) rfl; (intro s w' hB; have hB : w' = wr.drew := hB; subst hB; obtain ⟨hc1, hc2⟩ := HE.out; go_light; go_simp <;> rfl); (try simp only [Act.put, Pt1, Pt2, Pt3]))
     apply Fre3.chain_still (by first|exact Free.wanted_of rfl rfl rfl|rfl) rfl
     ·intro s w' hB
      have hB : w' = wr.drew := hB
      subst hB
      exact Hk.exec_mid 133 (.tmp 119) rfl ba (oa + k * 2) rfl _ _ HC.out.1 Tryz.underlying133 rfl HIC.out
     simp only [Act.put, Pt1, Pt2, Pt3]
     iterate 4 (apply Fre3.chain_still (by first|exact Free.wanted_of rfl rfl rfl|rfl) rfl; (intro s w' hB; have hB : w' = wr.drew := hB; subst hB; obtain ⟨hc1, hc2⟩ := HE.out; go_light; go_simp <;> rfl); (try simp only [Act.put, Pt1, Pt2, Pt3]))
     apply Fre3.chain_still (by first|exact Free.wanted_of rfl rfl rfl|rfl) rfl
     ·intro s w' hB
      have hB : w' = wr.drew := hB
      subst hB
      exact Hk.exec_mid 133 (.tmp 124) rfl bb (ob + k * 2) rfl _ _ HC.out.2 Tryz.underlying133 rfl HIC.out
     simp only [Act.put, Pt1, Pt2, Pt3]
     apply Fre3.chain_still (by first|exact Free.wanted_of rfl rfl rfl|rfl) rfl
     ·intro s w' hB
      go_light
      go_simp <;> rfl
     simp only [Act.put, Pt1, Pt2, Pt3]
     apply Fre3.chain_nil
     intro wz hB
     have hB : wz = wr.drew := hB
     subst hB
     simp only [List.drop_succ_cons, List.drop_zero]
     go_wp2_with fail
     exact HF.out
   ·have HF := Lib.hid (FINF.out wr.drew (fun e => ne_at EX.out EY.out (fun e2 => h1 (congrArg Prod.fst e2)) (congrArg Cls.start e)) HBY.out)
    go_wp2_with fail
    refine Fre3.wp_region_staged 11 [] (fun _ w' => w' = wr.drew) (by kernel_rfl) (by kernel_rfl) (by kernel_rfl) rfl ?_
    simp only [List.take_succ_cons, List.take_zero]
    iterate 4 (apply Fre3.chain_still (by first|exact Free.wanted_of rfl rfl rfl|rfl) rfl; (intro s w' hB; have hB : w' = wr.drew := hB; subst hB; obtain ⟨hc1, hc2⟩ := HE.out; go_light; go_simp <;> rfl); (try simp only [Act.put, Pt1, Pt2, Pt3]))
    apply Fre3.chain_still (by first|exact Free.wanted_of rfl rfl rfl|rfl) rfl
    ·intro s w' hB
     have hB : w' = wr.drew := hB
     subst hB
     exact Hk.exec_mid 133 (.tmp 119) rfl ba (oa + k * 2) rfl _ _ HC.out.1 Tryz.underlying133 rfl HIC.out
    simp only [Act.put, Pt1, Pt2, Pt3]
    iterate 4 (apply Fre3.chain_still (by first|exact Free.wanted_of rfl rfl rfl|rfl) rfl; (intro s w' hB; have hB : w' = wr.drew := hB; subst hB; obtain ⟨hc1, hc2⟩ := HE.out; go_light; go_simp <;> rfl); (try simp only [Act.put, Pt1, Pt2, Pt3]))
    apply Fre3.chain_still (by first|exact Free.wanted_of rfl rfl rfl|rfl) rfl
    ·intro s w' hB
     have hB : w' = wr.drew := hB
     subst hB
     exact Hk.exec_mid 133 (.tmp 124) rfl bb (ob + k * 2) rfl _ _ HC.out.2 Tryz.underlying133 rfl HIC.out
    simp only [Act.put, Pt1, Pt2, Pt3]
    apply Fre3.chain_still (by first|exact Free.wanted_of rfl rfl rfl|rfl) rfl
    ·intro s w' hB
     go_light
     go_simp <;> rfl
    simp only [Act.put, Pt1, Pt2, Pt3]
    apply Fre3.chain_nil
    intro wz hB
    have hB : wz = wr.drew := hB
    subst hB
    simp only [List.drop_succ_cons, List.drop_zero]
    go_wp2_with fail
    exact HF.out
  ·have hki : ¬ (k : Int) < (xstart.length : Int) := by omega
   have h1 : xstart = ystart := by
    rw [List.take_of_length_le (by omega), List.take_of_length_le (by omega)] at ht
    exact ht
   have HF := Lib.hid (FINT.out wr (by rw [h1]) hbww)
   clear ht h1 hbw hbww
   go_wp2_with fail
   exact HF.out
end Go.Proofs.YtekfoaenomgjgaaGreatDoor

namespace Go.Proofs.YtekfoaenomgjgaaGreatDoor
open Go.RowKit Go.W32 Go.Blk Go.Cs Go.Lib Go.Opn Go.Mg

end Go.Proofs.YtekfoaenomgjgaaGreatDoor

namespace Go.Proofs.YtekfoaenomgjgaaGreatDoor
open Go.RowKit Go.W32 Go.Blk Go.Cs Go.Lib Go.Opn Go.Mg

theorem two_boxes (W : World) (T : TypeId) (cs ds : List Value) : Row ((W.alloc (.cells cs.toArray T)).alloc (.cells ds.toArray T)) W.heap.size T cs ∧ Row ((W.alloc (.cells cs.toArray T)).alloc (.cells ds.toArray T)) (W.heap.size + 1) T ds ∧ Below W.heap.size W ((W.alloc (.cells cs.toArray T)).alloc (.cells ds.toArray T)) := by
 have z1 : (W.alloc (.cells cs.toArray T)).heap.size = W.heap.size + 1 := by simp
 have hr1 : Row (W.alloc (.cells cs.toArray T)) W.heap.size T cs := Row.new _ _ _
 exact ⟨hr1.below ((Below.refl _ _).alloc (Nat.le_refl _) _) hr1.lt, by rw [← z1]; exact Row.new _ _ _, ((Below.refl _ _).alloc (Nat.le_refl _) _).alloc (by simp) _⟩
end Go.Proofs.YtekfoaenomgjgaaGreatDoor

namespace Go.Proofs.YtekfoaenomgjgaaGreatDoor
open Go.RowKit Go.W32 Go.Blk Go.Cs Go.Lib Go.Opn Go.Mg

theorem sl_range {α : Type} {ec : α → List Value} {sz : Nat} {w : World} {b off k : Nat} {l : List α} {x : α} (h : SL w sz ec (some ⟨b, off, none⟩) l) (hk : l[k]? = some x) : w.rangeAt b (off + k * sz) (ec x) := fun j v hj => by
 obtain ⟨b', o', e, hc⟩ := h.at_ hk
 injection e with e
 injection e with e1 e2
 subst e1 e2
 have := hc j v hj
 rw [← Nat.add_assoc] at this
 exact this
end Go.Proofs.YtekfoaenomgjgaaGreatDoor

namespace Go.Proofs.YtekfoaenomgjgaaGreatDoor
open Go.RowKit Go.W32 Go.Blk Go.Cs Go.Lib Go.Opn Go.Mg

def smallP (p : Pat) : Bool := decide (p.cl.length ≤ 500) && decide (p.new.start.length ≤ 20)
def smallR (r : Rl) : Bool := smallP r.1.patch && decide (r.1.sum.size ≤ 200)
def smallL (m : Nat) (l : List Rl) : Bool := decide (l.length ≤ m) && l.all smallR
set_option maxHeartbeats 1000000 in
theorem s4_any (p : Pat) (h : Hd) (W : World) : Calls Tryz.prog 24 #[.agg (encPat p h).toArray] W fun e w' => e = .returned (.bool (smallP p)) ∧ Below W.heap.size W w' := by
 obtain ⟨R, eR⟩ : ∃ R : Ending → World → Prop, R = fun e w' => e = .returned (.bool (smallP p)) ∧ Below W.heap.size W w' := ⟨_, rfl⟩
 rw [← eR]
 have FIN : Hid (∀ w' v, v = smallP p → Below W.heap.size W w' → R (.returned (.bool v)) w') := Lib.hid fun w' v h hb => by rw [eR, h]; exact ⟨rfl, hb⟩
 clear eR
 obtain ⟨cs, ecs⟩ : ∃ cs, cs = encPat p h := ⟨_, rfl⟩
 rw [← ecs]
 have hr : Row (W.alloc (.cells cs.toArray 47)) W.heap.size 47 cs := Row.new _ _ _
 have hb : Below W.heap.size W (W.alloc (.cells cs.toArray 47)) := (Below.refl _ _).alloc (Nat.le_refl _) _
 have c1 := hr.at (show cs[1]? = some (.slice h.A p.cl.length h.c) by rw [ecs]; rfl)
 have c6 := hr.at (show cs[6]? = some (.slice h.B p.new.start.length h.d) by rw [ecs]; rfl)
 generalize eW : W.alloc (.cells cs.toArray 47) = W2 at *
 have EW := Lib.hid eW
 have HB := Lib.hid hb
 clear hr hb ecs eW
 by_cases h1 : p.cl.length ≤ 500
 ·have h1i : (p.cl.length : Int) ≤ 500 := by omega
  by_cases h2 : p.new.start.length ≤ 20
  ·have h2i : (p.new.start.length : Int) ≤ 20 := by omega
   have HF := Lib.hid (FIN.out W2 true (by unfold smallP; rw [decide_eq_true h1, decide_eq_true h2]; rfl) HB.out)
   go_enter Tryz.func24, Tryz.ntmps24
   go_wp2_with (simp only [EW.out])
   exact HF.out
  ·have h2i : ¬ (p.new.start.length : Int) ≤ 20 := by omega
   have HF := Lib.hid (FIN.out W2 false (by unfold smallP; rw [decide_eq_false h2, Bool.and_false]) HB.out)
   go_enter Tryz.func24, Tryz.ntmps24
   go_wp2_with (simp only [EW.out])
   exact HF.out
 ·have h1i : ¬ (p.cl.length : Int) ≤ 500 := by omega
  have HF := Lib.hid (FIN.out W2 false (by unfold smallP; rw [decide_eq_false h1]; rfl) HB.out)
  go_enter Tryz.func24, Tryz.ntmps24
  go_wp2_with (simp only [EW.out])
  exact HF.out
theorem all_more {α : Type} {f : α → Bool} {l : List α} {k : Nat} {x : α} (hx : l[k]? = some x) (h : (l.take k).all f = true) (hf : f x = true) : (l.take (k + 1)).all f = true := by
 rw [List.take_add_one, hx, Option.toList_some, List.all_append, h]
 simp [hf]
theorem all_less {α : Type} {f : α → Bool} {l : List α} {k : Nat} {x : α} (hx : l[k]? = some x) (hf : f x = false) : l.all f = false := by
 rw [List.all_eq_false]
 exact ⟨x, List.mem_of_getElem? hx, by simp [hf]⟩
set_option maxHeartbeats 2000000 in
theorem sl_any (m : Nat) (A : Option Addr) (c : Nat) (l : List Rl) (W : World) (hl : SL W 25 encLet A l) (hn : l.length ≤ 9223372036854775807) (hm : m ≤ 1000) :
  Calls Tryz.prog 8 #[.slice A l.length c, .int .i64 (m : Int)] W fun e w' => e = .returned (.bool (smallL m l)) ∧ Below W.heap.size W w' := by
 obtain ⟨R, eR⟩ : ∃ R : Ending → World → Prop, R = fun e w' => e = .returned (.bool (smallL m l)) ∧ Below W.heap.size W w' := ⟨_, rfl⟩
 rw [← eR]
 have FIN : Hid (∀ w' v, v = smallL m l → Below W.heap.size W w' → R (.returned (.bool v)) w') := Lib.hid fun w' v h hb => by rw [eR, h]; exact ⟨rfl, hb⟩
 clear eR
 have HL := Lib.hid hl
 clear hl
 go_enter Tryz.func8, Tryz.ntmps8
 by_cases hmm : l.length ≤ m
 rotate_left
 ·have hmi : ¬ (l.length : Int) ≤ (m : Int) := by omega
  have HF := Lib.hid (FIN.out W false (by unfold smallL; rw [decide_eq_false hmm]; rfl) (Below.refl _ _))
  go_wp2_with fail
  exact HF.out
 have hmi : (l.length : Int) ≤ (m : Int) := by omega
 go_wp2_with fail
 rw [show decide (m < l.length) = false from decide_eq_false (by omega)]
 go_loopw [5] (fun v wr => ∃ k : Nat, v = .int .i64 (k : Int) ∧ k ≤ l.length ∧ (l.take k).all smallR = true ∧ Below W.heap.size W wr) (fun v _ => (l.length : Int).toNat - (RowKit.intOf v).toNat)
 case atStart => exact ⟨0, rfl, Nat.zero_le _, rfl, Below.refl _ _⟩
 case round =>
  obtain ⟨k, rfl, hk, ht, hbw⟩ := hrel
  rcases Nat.lt_or_eq_of_le hk with hkl | hkl
  ·have hki : (k : Int) < (l.length : Int) := by omega
   obtain ⟨ba, oa, rfl⟩ := sl_addr HL.out (by rintro rfl; simp at hkl)
   obtain ⟨r, er⟩ : ∃ x, l[k]? = some x := ⟨_, List.getElem?_eq_getElem hkl⟩
   have hrg := sl_range (HL.out.below hbw (Nat.le_refl _)) er
   obtain ⟨ps, eps⟩ : ∃ ps, ps = encPat r.1.patch r.2 := ⟨_, rfl⟩
   have HP : Hid (wr.rangeAt ba (oa + k * 25 + 5) ps) := Lib.hid fun j v hj => by
    have h := hrg (5 + j) v (by rw [eps] at hj; exact let_at hj)
    rw [← Nat.add_assoc] at h; exact h
   have HIP : Hid ((Tryz.prog.info? 47).map (·.size) = some ps.length) := by show _ = _; rw [eps]; kernel_rfl
   have CS := Lib.hid (s4_any r.1.patch r.2 wr)
   rw [← eps] at CS
   obtain ⟨V, eV⟩ : ∃ V, V = smallP r.1.patch := ⟨_, rfl⟩
   rw [← eV] at CS
   have HC : Hid (∀ w', Below wr.heap.size wr w' → w'.cell? ⟨ba, oa + k * 25 + 24, none⟩ = some (.string r.1.sum)) := Lib.hid fun w' hb => by
    have h := hrg 24 (.string r.1.sum) rfl
    have hl := World.block_lt_of_cell? _ _ h
    rw [hb.cell (p := ⟨ba, oa + k * 25 + 24, none⟩) hl]; exact h
   have HT := Lib.hid ht
   have ER := Lib.hid er
   have EV := Lib.hid eV
   have HBX := Lib.hid hbw
   clear ht er hrg hbw hk eps eV
   go_wp2_with (refine at_load (.tmp 19) ?_; refine wpList_load_mid rfl 47 (.tmp 19) rfl ba (oa + k * 25 + 5) rfl ps _ HP.out Tryz.underlying47 rfl HIP.out ?_)
   refine CS.out.mono ?_
   rintro e w5 ⟨rfl, hb5⟩
   have c24 := HC.out w5 hb5
   have HB5 := Lib.hid (HBX.out.trans (hb5.mono HBX.out.size))
   clear hb5 HC CS HP
   cases V with
   | false =>
    have HF := Lib.hid (FIN.out w5 false (by unfold smallL; rw [all_less ER.out (by unfold smallR; rw [← EV.out]; rfl), Bool.and_false]) HB5.out)
    go_wp2_with fail
    exact HF.out
   | true =>
    by_cases hs : r.1.sum.size ≤ 200
    ·have hsi : (r.1.sum.size : Int) ≤ 200 := by omega
     go_wp2_with fail
     go_roundw
     case rel => exact ⟨k + 1, rfl, hkl, all_more ER.out HT.out (by unfold smallR; rw [← EV.out, decide_eq_true hs]; rfl), HB5.out⟩
     case measure => simp [RowKit.intOf]; omega
    ·have hsi : ¬ (r.1.sum.size : Int) ≤ 200 := by omega
     have HF := Lib.hid (FIN.out w5 false (by unfold smallL; rw [all_less ER.out (by unfold smallR; rw [decide_eq_false hs, Bool.and_false]), Bool.and_false]) HB5.out)
     go_wp2_with fail
     exact HF.out
  ·have hki : ¬ (k : Int) < (l.length : Int) := by omega
   have HF := Lib.hid (FIN.out wr true (by unfold smallL; rw [List.take_of_length_le (by omega)] at ht; rw [ht, decide_eq_true hmm]; rfl) hbw)
   clear ht hbw
   go_wp2_with fail
   exact HF.out
theorem info_let : (Tryz.prog.info? 49).map (fun i => (i.zero, i.size, i.bytes)) = some (some (.agg (encLet (⟨0, 0, 0, 0, 0, Pat.zero, ⟨#[]⟩⟩, ⟨none, 0, none, 0⟩)).toArray), 25, 232) := by kernel_rfl
end Go.Proofs.YtekfoaenomgjgaaGreatDoor

namespace Go.Proofs.YtekfoaenomgjgaaGreatDoor
open Go.RowKit Go.W32 Go.Blk Go.Cs Go.Lib Go.Opn Go.Mg

theorem fold_at (off : Nat) : ∀ (l : List Value) (k : Nat) (z : Array Value), off + k + l.length ≤ z.size → ((l.zipIdx k).foldl (fun (cs : Array Value) (x : Value × Nat) => cs.setIfInBounds (off + x.2) x.1) z).toList = z.toList.take (off + k) ++ l ++ z.toList.drop (off + k + l.length)
 | [], k, z, _ => by simp
 | x :: l, k, z, h => by
  rw [List.zipIdx_cons, List.foldl_cons]
  rw [List.length_cons] at h
  have hk : off + k < z.toList.length := by simp; omega
  rw [fold_at off l (k + 1) (z.setIfInBounds (off + k) x) (by simp; omega), Array.toList_setIfInBounds, show off + (k + 1) = off + k + 1 by omega, List.take_succ_eq_append_getElem (by simpa using hk), List.take_set_of_le (Nat.le_refl _), List.getElem_set_self, List.drop_set_of_lt (by omega), List.length_cons, List.append_assoc, List.append_assoc, List.append_assoc]
  rw [show off + k + 1 + l.length = off + k + (l.length + 1) by omega]
  rfl
theorem fill_step {size n off : Nat} {z : Array Value} {E : List Value} {rest : List (Nat × Value)} {k : Nat} (hE : E.length = size) (ho : off = k * size) (hz : off + size ≤ z.size) {z' : Array Value} (hz' : z'.toList = z.toList.take off ++ E ++ z.toList.drop (off + size)) :
  Instr.fill (fun i => some (i * size, size)) z ((k, .agg E.toArray) :: rest) = Instr.fill (fun i => some (i * size, size)) z' rest := by
 rw [Instr.fill]
 dsimp only
 rw [if_neg (by simp [Value.cells, hE]; omega)]
 have h := fold_at off E 0 z (by omega)
 rw [Nat.add_zero, hE] at h
 congr 1
 apply Array.ext'
 rw [hz', ← h, ← Array.foldl_toList, Array.toList_zipIdx, ho]
 rfl
end Go.Proofs.YtekfoaenomgjgaaGreatDoor

namespace Go.Proofs.YtekfoaenomgjgaaGreatDoor
open Go.RowKit Go.W32 Go.Blk Go.Cs Go.Lib Go.Opn Go.Mg

theorem at_bd {P : Program} {ops : Array Oper} {rest : List Oper} {a : Act} {Q : Exit → Act → World → Prop} (x : Operand) {t : TypeId} {p1 p2 p3 p4 : Nat × Operand} {n : Nat} {d : Option Tmp} {ty : TypeId} {ps : String} {af : Array Edge} {g : Option (Nat × Bool)} {w : World}
  (h : wpList P ops Q (⟨d, .build t #[p1, p2, p3, p4, (n, x)], ty, ps, af, g⟩ :: rest) a w) : wpList P ops Q (⟨d, .build t #[p1, p2, p3, p4, (n, x)], ty, ps, af, g⟩ :: rest) a w := h
theorem exec_slice3 {P : Program} {o : Oper} {ρ : Operand → Value} {w w' : World} {t : TypeId} {x y z : Operand} {v : Value} (ho : o.op = .buildSlice t 3 #[(0, x), (1, y), (2, z)]) (h : (Instr.buildSlice t 3 #[(0, ρ x), (1, ρ y), (2, ρ z)]).run P w = .ok v w') : (execOp ρ o).run P w = .ok (.value v) w' := by
 unfold execOp
 simp [ho, h]
theorem zero_ok : PatOk Pat.zero := by
 refine ⟨fun n hn => ?_, by simp [Pat.zero], by simp [Pat.zero, Cls.zero]⟩
 simp [Pat.nums, Pat.zero, Cls.nums, Cls.zero, Cls.front, Cls.back, b2i] at hn
 unfold i64P
 omega
end Go.Proofs.YtekfoaenomgjgaaGreatDoor

namespace Go.Proofs.YtekfoaenomgjgaaGreatDoor
open Go.RowKit Go.W32 Go.Blk Go.Cs

end Go.Proofs.YtekfoaenomgjgaaGreatDoor

namespace Go.Proofs.YtekfoaenomgjgaaGreatDoor
open Go.RowKit Go.W32 Go.Blk Go.Cs Go.Lib Go.Opn Go.Mg

end Go.Proofs.YtekfoaenomgjgaaGreatDoor

namespace Go.Proofs.YtekfoaenomgjgaaGreatDoor
open Go.RowKit Go.W32 Go.Blk Go.Cs Go.Lib Go.Opn Go.Mg

theorem Row.rg {w : World} {b : Nat} {T : TypeId} {cs : List Value} (h : Row w b T cs) : w.rangeAt b 0 cs := h.range (fun j v hj => by rw [Nat.zero_add]; exact hj)
end Go.Proofs.YtekfoaenomgjgaaGreatDoor

namespace Go.Opn
open Go Go.RowKit Go.ChangeShapes Go.WideShapes Go.Deep
section
variable {H : Type} {enc : TypeId × Value → H} {P : Program} {w : World} {base : Nat} {spare : Nat → Bool} {held : Bool}
/-- A value of a slice's type, as the one cell that reads. -/
theorem one_of {t e : TypeId} {v : Value} {d : DataW H} {ps : List MemPlace} {r : Reach} {b0 : Nat} (ht : P.underlying t = some (.slice e)) (hv : Value.okWide P w r b0 t v) (h : DataW.Trod enc P w base spare held t v d ps) :
  ∃ f x, DataW.trod enc P w base spare held f t [v] = some x := by
 obtain ⟨fuel, hf⟩ := h
 have hvc : ∀ x : Value, v.cells.toList = [x] → v = x := by
  intro x hx
  cases v <;> simp [Value.cells] at hx <;> first | exact hx | skip
  simp only [Value.okWide, ht] at hv
  simp [Cell.okWide, Cell.ok, ht] at hv
 rcases open_slice ht hf with ⟨h0, _⟩ | ⟨a, len, cap, m, n, D, Pl, hcs, _⟩
 ·rw [h0] at hf; rw [hvc _ h0]; exact ⟨_, _, hf⟩
 ·rw [hcs] at hf; rw [hvc _ hcs]; exact ⟨_, _, hf⟩
/-- A slice's cell: its value and a list of what its elements read as. -/
theorem open_list {α : Type} [Inhabited α] {ec : α → List Value} {K : α → Prop} {t e : TypeId} {v : Value} {f : Nat} {x : DataW H × List MemPlace} (ht : P.underlying t = some (.slice e)) (h0 : 0 < P.cellsOf e)
  (hel : ∀ (f : Nat) (cs : List Value) (x : DataW H × List MemPlace), DataW.trod enc P w base spare held f e cs = some x → ∃ a : α, K a ∧ ∀ (p : Nat) u, (ec a)[p]? = some u → cs[p]? = some u)
  (h : DataW.trod enc P w base spare held f t [v] = some x) :
  ∃ (A : Option Addr) (c : Nat) (l : List α), v = .slice A l.length c ∧ l.length ≤ 9223372036854775807 ∧ l.length ≤ c ∧ SL w (P.cellsOf e) ec A l ∧ ∀ a ∈ l, K a := by
 rcases open_slice ht h with ⟨h1, _⟩ | ⟨a, len, cap, m, n, D, Pl, hcs, hb, hl, hm, hmm, hx, hi⟩
 ·cases h1
  exact ⟨none, 0, [], rfl, Nat.zero_le _, Nat.zero_le _, SL.nil, fun a ha => by cases ha⟩
 ·cases hcs
  have hi2 : ∀ i, i < len → ∃ y : α, K y ∧ ∃ b off, a = ⟨b, off, none⟩ ∧ ∀ p u, (ec y)[p]? = some u → w.cell? ⟨b, off + (i * P.cellsOf e + p), none⟩ = some u := by
   intro i hil
   have him : i < m := by rw [hmm]; split <;> omega
   obtain ⟨cs', hc, ht'⟩ := hi i him
   obtain ⟨_, hcl, hat⟩ := World.cells?_some hc
   have hs : a.spot = none := by
    obtain ⟨cs0, hc0, _⟩ := hi 0 (by omega)
    obtain ⟨_, hcl0, hat0⟩ := World.cells?_some hc0
    have h1 := hat0 0 h0
    rw [Nat.zero_mul, List.getElem?_eq_getElem (by omega)] at h1
    have e0 : (a.add 0).add 0 = a := rfl
    rw [e0] at h1
    unfold World.cell? at h1
    split at h1
    ·split at h1
     ·cases h1
     ·rename_i hsp
      simpa using hsp
    ·cases h1
   obtain ⟨y, hy, hyc⟩ := hel _ _ _ ht'
   obtain ⟨b, off, sp⟩ := a
   simp only at hs
   subst hs
   refine ⟨y, hy, b, off, rfl, fun p u hu => ?_⟩
   have hu' := hyc p u hu
   have hp : p < P.cellsOf e := by rw [← hcl]; exact (List.getElem?_eq_some_iff.1 hu').1
   have h2 := hat p hp
   rw [add_add, hu'] at h2
   rw [← h2]
   congr 1
   unfold Addr.add
   split
   ·rename_i hz; rw [hz]; rfl
   ·rfl
  obtain ⟨g, hg⟩ := choose_lt hi2
  unfold maxLen at hm
  refine ⟨some a, cap, (List.range len).map g, by simp, by simp; omega, by simpa using hl, ⟨fun hn => ?_⟩, fun y hy => ?_⟩
  ·have h0 : 0 < len := by
    rcases Nat.eq_zero_or_pos len with h | h
    ·subst h; simp at hn
    ·exact h
   obtain ⟨_, b, off, hA, _⟩ := hg 0 h0
   refine ⟨b, off, by rw [hA], fun i y hie p u hu => ?_⟩
   have hil : i < len := by
    have := (List.getElem?_eq_some_iff.1 hie).1
    simpa using this
   have he : g i = y := by
    rw [List.getElem?_map, List.getElem?_range hil] at hie
    simpa using hie
   obtain ⟨_, b', off', hA', hcell⟩ := hg i hil
   rw [hA] at hA'
   injection hA' with e1 e2
   subst e1 e2
   rw [← he] at hu
   exact hcell p u hu
  ·obtain ⟨i, hi, rfl⟩ := List.mem_map.1 hy
   exact (hg i (List.mem_range.1 hi)).1
/-- A slice in a struct. -/
theorem leaf_list {α : Type} [Inhabited α] {ec : α → List Value} {K : α → Prop} {t t' e : TypeId} {f fuel p : Nat} {cs : List Value} {x : DataW H × List MemPlace} (ht : P.underlying t' = some (.slice e)) (h0 : 0 < P.cellsOf e)
  (hel : ∀ (f : Nat) (cs : List Value) (x : DataW H × List MemPlace), DataW.trod enc P w base spare held f e cs = some x → ∃ a : α, K a ∧ ∀ (p : Nat) u, (ec a)[p]? = some u → cs[p]? = some u)
  (h : leafAt P f t p = some t') (hx : DataW.trod enc P w base spare held fuel t cs = some x) :
  ∃ (A : Option Addr) (c : Nat) (l : List α), cs[p]? = some (.slice A l.length c) ∧ l.length ≤ 9223372036854775807 ∧ l.length ≤ c ∧ SL w (P.cellsOf e) ec A l ∧ ∀ a ∈ l, K a := by
 obtain ⟨v, m, y, hv, hy⟩ := leaf f h hx
 obtain ⟨A, c, l, rfl, h1, h2, h3, h4⟩ := open_list ht h0 hel hy
 exact ⟨A, c, l, hv, h1, h2, h3, h4⟩
end
end Go.Opn

namespace Go.Proofs.YtekfoaenomgjgaaGreatDoor
open Go.RowKit Go.Blk Go.Cs Go.Opn Go.ChangeShapes Go.WideShapes Go.Deep Go.OpenShut

theorem cells_int1 : Tryz.prog.cellsOf 3 = 1 := by kernel_rfl
theorem cells_cond2 : Tryz.prog.cellsOf 133 = 2 := by kernel_rfl
theorem cells_let25 : Tryz.prog.cellsOf 49 = 25 := by kernel_rfl
/-- The numbers of a letter are numbers of 64 bits. -/
structure LetN (x : Let) : Prop where
 nums : i64P x.kind ∧ i64P x.party ∧ i64P x.number ∧ i64P x.sent ∧ i64P x.day
 patch : ∀ n ∈ x.patch.nums, i64P n
/-- A letter that lies in memory, of whatever size. -/
structure LetW (w : World) (r : Rl) : Prop where
 pat : PatAt w r.1.patch r.2
 nm : LetN r.1
theorem b2i_i64 (b : Bool) : i64P (b2i b) := by cases b <;> (unfold i64P b2i; decide)
theorem int_of {H : Type} {enc : TypeId × Value → H} {w : World} {base : Nat} {spare : Nat → Bool} {held : Bool} {fuel : Nat} {cs : List Value} {x : DataW H × List MemPlace} (h : DataW.trod enc Tryz.prog w base spare held fuel 3 cs = some x) :
  ∃ a : Int, i64P a ∧ ∀ (p : Nat) u, (Cs.encI a)[p]? = some u → cs[p]? = some u := by
 obtain ⟨n, hn, _, hw⟩ := DataW.trod_int Tryz.underlying3 h
 refine ⟨n, bounds_i64 hw, fun p u hu => ?_⟩
 rw [hn]; exact hu
theorem cond_of {H : Type} {enc : TypeId × Value → H} {w : World} {base : Nat} {spare : Nat → Bool} {held : Bool} {fuel : Nat} {cs : List Value} {x : DataW H × List MemPlace} (hf : DataW.trod enc Tryz.prog w base spare held fuel 133 cs = some x) :
  ∃ a : Int × Int, (i64P a.1 ∧ i64P a.2) ∧ ∀ (p : Nat) u, (encCond a)[p]? = some u → cs[p]? = some u := by
 obtain ⟨a0, h0, w0⟩ := leaf_int (f := 3) (p := 0) Tryz.underlying3 (by kernel_rfl) hf
 obtain ⟨a1, h1, w1⟩ := leaf_int (f := 3) (p := 1) Tryz.underlying3 (by kernel_rfl) hf
 refine ⟨(a0, a1), ⟨bounds_i64 w0, bounds_i64 w1⟩, fun p u hu => ?_⟩
 match p, hu with
 | 0, hu => cases hu; exact h0
 | 1, hu => cases hu; exact h1
 | p + 2, hu => simp [encCond] at hu
instance : Inhabited Rl := ⟨(⟨0, 0, 0, 0, 0, Pat.zero, ⟨#[]⟩⟩, ⟨none, 0, none, 0⟩)⟩
theorem nums_i64 {p : Pat} (h1 : i64P p.kind ∧ i64P p.days) (h2 : p.cl.length ≤ 9223372036854775807) (h3 : ∀ a ∈ p.cl, i64P a) (h4 : p.new.start.length ≤ 9223372036854775807) (h5 : ∀ a ∈ p.new.start, i64P a.1 ∧ i64P a.2)
  (h6 : ∀ n ∈ p.new.front, i64P n) (h7 : ∀ n ∈ p.new.back, i64P n) : ∀ n ∈ p.nums, i64P n := by
 intro n hn
 have hl : ∀ k : Nat, k ≤ 9223372036854775807 → i64P (k : Int) := fun k hk => by unfold i64P; omega
 simp only [Pat.nums, Cls.nums, List.mem_append, List.mem_cons, List.not_mem_nil, or_false, List.mem_flatMap] at hn
 rcases hn with ((rfl | rfl | rfl) | hn) | ((((hn | hn) | hn) | hn) | hn)
 ·exact h1.1
 ·exact h1.2
 ·exact hl _ h2
 ·exact h3 n hn
 ·exact h6 n hn
 ·rcases hn with rfl | rfl <;> exact b2i_i64 _
 ·exact h7 n hn
 ·rcases hn with rfl | rfl
  ·exact b2i_i64 _
  ·exact hl _ h4
 ·obtain ⟨s, hs, hn⟩ := hn
  rcases hn with rfl | rfl
  ·exact (h5 s hs).1
  ·exact (h5 s hs).2
theorem let_of {H : Type} {enc : TypeId × Value → H} {w : World} {base : Nat} {spare : Nat → Bool} {held : Bool} {fuel : Nat} {cs : List Value} {x : DataW H × List MemPlace} (hf : DataW.trod enc Tryz.prog w base spare held fuel 49 cs = some x) :
  ∃ a : Rl, LetW w a ∧ ∀ (p : Nat) u, (encLet a)[p]? = some u → cs[p]? = some u := by
 obtain ⟨a0, h0, w0⟩ := leaf_int (f := 5) (p := 0) Tryz.underlying3 (by kernel_rfl) hf
 obtain ⟨a1, h1, w1⟩ := leaf_int (f := 5) (p := 1) Tryz.underlying3 (by kernel_rfl) hf
 obtain ⟨a2, h2, w2⟩ := leaf_int (f := 5) (p := 2) Tryz.underlying3 (by kernel_rfl) hf
 obtain ⟨a3, h3, w3⟩ := leaf_int (f := 5) (p := 3) Tryz.underlying3 (by kernel_rfl) hf
 obtain ⟨a4, h4, w4⟩ := leaf_int (f := 5) (p := 4) Tryz.underlying3 (by kernel_rfl) hf
 obtain ⟨a5, h5, w5⟩ := leaf_int (f := 5) (p := 5) Tryz.underlying3 (by kernel_rfl) hf
 obtain ⟨a7, h7, w7⟩ := leaf_int (f := 5) (p := 7) Tryz.underlying3 (by kernel_rfl) hf
 obtain ⟨a8, h8, w8⟩ := leaf_int (f := 5) (p := 8) Tryz.underlying3 (by kernel_rfl) hf
 obtain ⟨a9, h9, w9⟩ := leaf_int (f := 5) (p := 9) Tryz.underlying3 (by kernel_rfl) hf
 obtain ⟨a10, h10, w10⟩ := leaf_int (f := 5) (p := 10) Tryz.underlying3 (by kernel_rfl) hf
 obtain ⟨a12, h12, w12⟩ := leaf_int (f := 5) (p := 12) Tryz.underlying3 (by kernel_rfl) hf
 obtain ⟨a13, h13, w13⟩ := leaf_int (f := 5) (p := 13) Tryz.underlying3 (by kernel_rfl) hf
 obtain ⟨a16, h16, w16⟩ := leaf_int (f := 5) (p := 16) Tryz.underlying3 (by kernel_rfl) hf
 obtain ⟨a17, h17, w17⟩ := leaf_int (f := 5) (p := 17) Tryz.underlying3 (by kernel_rfl) hf
 obtain ⟨a18, h18, w18⟩ := leaf_int (f := 5) (p := 18) Tryz.underlying3 (by kernel_rfl) hf
 obtain ⟨a19, h19, w19⟩ := leaf_int (f := 5) (p := 19) Tryz.underlying3 (by kernel_rfl) hf
 obtain ⟨a20, h20, w20⟩ := leaf_int (f := 5) (p := 20) Tryz.underlying3 (by kernel_rfl) hf
 obtain ⟨a21, h21, w21⟩ := leaf_int (f := 5) (p := 21) Tryz.underlying3 (by kernel_rfl) hf
 obtain ⟨a23, h23, w23⟩ := leaf_int (f := 5) (p := 23) Tryz.underlying3 (by kernel_rfl) hf
 obtain ⟨A, c, l, h6, e1, e2, e3, e4⟩ := leaf_list (α := Int) (ec := Cs.encI) (K := i64P) (f := 5) (p := 6) Tryz.underlying22 (by rw [cells_int1]; decide) (fun f cs x h => int_of h) (by kernel_rfl) hf
 rw [cells_int1] at e3
 obtain ⟨B, d, m, h11, g1, g2, g3, g4⟩ := leaf_list (α := Int × Int) (ec := encCond) (K := fun a => i64P a.1 ∧ i64P a.2) (f := 5) (p := 11) Tryz.underlying41 (by rw [cells_cond2]; decide) (fun f cs x h => cond_of h) (by kernel_rfl) hf
 rw [cells_cond2] at g3
 obtain ⟨a14, h14⟩ := leaf_bool (f := 5) (p := 14) Tryz.underlying4 (by kernel_rfl) hf
 obtain ⟨a15, h15⟩ := leaf_bool (f := 5) (p := 15) Tryz.underlying4 (by kernel_rfl) hf
 obtain ⟨a22, h22⟩ := leaf_bool (f := 5) (p := 22) Tryz.underlying4 (by kernel_rfl) hf
 obtain ⟨a24, h24, w24⟩ := leaf_string (f := 5) (p := 24) Tryz.underlying9 (by kernel_rfl) hf
 refine ⟨(⟨a0, a1, a2, a3, a4, ⟨a5, l, ⟨a7, a8, a9, a10, m, a12, a13, a14, a15, a16, a17, a18, a19, a20, a21, a22⟩, a23⟩, a24⟩, ⟨A, c, B, d⟩), ⟨⟨e3, g3⟩, ⟨⟨bounds_i64 w0, bounds_i64 w1, bounds_i64 w2, bounds_i64 w3, bounds_i64 w4⟩, nums_i64 ⟨bounds_i64 w5, bounds_i64 w23⟩ e1 e4 g1 g4 ?_ ?_⟩⟩, fun p u hu => ?_⟩
 ·intro n hn
  simp only [Cls.front, List.mem_cons, List.not_mem_nil, or_false] at hn
  rcases hn with rfl | rfl | rfl | rfl | rfl | rfl <;> (apply bounds_i64; assumption)
 ·intro n hn
  simp only [Cls.back, List.mem_cons, List.not_mem_nil, or_false] at hn
  rcases hn with rfl | rfl | rfl | rfl | rfl | rfl <;> (apply bounds_i64; assumption)
 match p, hu with
 | 0, hu => cases hu; exact h0
 | 1, hu => cases hu; exact h1
 | 2, hu => cases hu; exact h2
 | 3, hu => cases hu; exact h3
 | 4, hu => cases hu; exact h4
 | 5, hu => cases hu; exact h5
 | 6, hu => cases hu; exact h6
 | 7, hu => cases hu; exact h7
 | 8, hu => cases hu; exact h8
 | 9, hu => cases hu; exact h9
 | 10, hu => cases hu; exact h10
 | 11, hu => cases hu; exact h11
 | 12, hu => cases hu; exact h12
 | 13, hu => cases hu; exact h13
 | 14, hu => cases hu; exact h14
 | 15, hu => cases hu; exact h15
 | 16, hu => cases hu; exact h16
 | 17, hu => cases hu; exact h17
 | 18, hu => cases hu; exact h18
 | 19, hu => cases hu; exact h19
 | 20, hu => cases hu; exact h20
 | 21, hu => cases hu; exact h21
 | 22, hu => cases hu; exact h22
 | 23, hu => cases hu; exact h23
 | 24, hu => cases hu; exact h24
 | p + 25, hu => simp [encLet, encPat] at hu
theorem open_letters {H : Type} {enc : TypeId × Value → H} {w : World} {base : Nat} {spare : Nat → Bool} {held : Bool} {v : Value} {d : DataW H} {ps : List MemPlace} {r : Reach} {b0 : Nat} (hv : Value.okWide Tryz.prog w r b0 28 v) (h : DataW.Trod enc Tryz.prog w base spare held 28 v d ps) :
  ∃ (A : Option Addr) (c : Nat) (l : List Rl), v = .slice A l.length c ∧ l.length ≤ 9223372036854775807 ∧ l.length ≤ c ∧ SL w 25 encLet A l ∧ ∀ a ∈ l, LetW w a := by
 obtain ⟨f, x, hf⟩ := one_of Tryz.underlying28 hv h
 have := open_list (α := Rl) (ec := encLet) (K := fun a => LetW w a) Tryz.underlying28 (by rw [cells_let25]; decide) (fun f cs x h => let_of h) hf
 rw [cells_let25] at this
 exact this
/-- Letters in memory, of whatever sizes. -/
structure LetsW (w : World) (A : Option Addr) (l : List Rl) : Prop where
 sl : SL w 25 encLet A l
 el : ∀ r ∈ l, LetW w r
theorem LetW.ok {w : World} {r : Rl} (h : LetW w r) (hs : smallR r = true) : LetOk r.1 := by
 unfold smallR smallP at hs
 simp only [Bool.and_eq_true, decide_eq_true_eq] at hs
 exact ⟨h.nm.nums, ⟨h.nm.patch, by omega, by omega⟩, by omega⟩
theorem LetsW.ok {w : World} {A : Option Addr} {l : List Rl} {m : Nat} (h : LetsW w A l) (hs : smallL m l = true) : LetsAt w A l := by
 unfold smallL at hs
 simp only [Bool.and_eq_true, decide_eq_true_eq, List.all_eq_true] at hs
 exact ⟨h.sl, fun r hr => (h.el r hr).pat, fun r hr => (h.el r hr).ok (hs.2 r hr)⟩
end Go.Proofs.YtekfoaenomgjgaaGreatDoor
