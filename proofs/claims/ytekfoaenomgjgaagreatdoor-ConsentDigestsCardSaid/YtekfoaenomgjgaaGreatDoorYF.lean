/- The reference of layer 24: lists of numbers, clauses and patches compared. No condition. The reference of layer 30: lists of pairs compared. No condition. The references of layers 24 and 30: patches, amendments and their lists compared. No condition. The reference of layer 30: amendments, their lists, and lists of pairs compared. No condition. The references of layers 24 and 30: small letters, letters without those of a party, lists of pairs. No condition. Law 30: a patch that waives a clause; what two parties agree on by two letters and a further one. Condition: the variables of digest and strconv hold their numbers. Law 30: what two parties agree on by two letters and a further one. Condition: the variables of digest and strconv hold their numbers. The head of law 30: its digests. No condition. Law 30: what two parties agree on, in the cases of the head. Condition: the variables of digest and strconv hold their numbers. Law 30: its head is true. Condition: the variables of digest and strconv hold their numbers. Slices opened to lists, as arguments and as parts of structs. No condition. Letters opened, as arguments. Condition: the arguments are readable. -/
import Derived.Test.YtekfoaenomgjgaaGreatDoorYE
import Derived.Test.YtekfoaenomgjgaaGreatDoorYA
import Derived.Great.BuildSlice
import Derived.Test.YtekfoaenomgjgaaGreatDoorYC
import Derived.Lib.SmallJoins
namespace Go.Proofs.YtekfoaenomgjgaaGreatDoor
open Go.RowKit Go.W32 Go.Blk Go.Cs Go.Lib Go.Opn Go.Mg

theorem sl_cell1 {w : World} {b off k : Nat} {l : List Int} {x : Int} (h : SL w 1 Cs.encI (some ⟨b, off, none⟩) l) (hk : l[k]? = some x) : w.cell? ⟨b, off + k, none⟩ = some (.int .i64 x) := by
  obtain ⟨b', o', e, hc⟩ := h.at_ hk
  injection e with e
  injection e with e1 e2
  subst e1 e2
  have := hc 0 (.int .i64 x) rfl
  rwa [show off + (k * 1 + 0) = off + k by omega] at this
theorem sl_range2 {w : World} {b off k : Nat} {l : List (Int × Int)} {x : Int × Int} (h : SL w 2 encCond (some ⟨b, off, none⟩) l) (hk : l[k]? = some x) : w.rangeAt b (off + k * 2) [.int .i64 x.1, .int .i64 x.2] := fun j v hj => by
  obtain ⟨b', o', e, hc⟩ := h.at_ hk
  injection e with e
  injection e with e1 e2
  subst e1 e2
  have := hc j v hj
  rw [← Nat.add_assoc] at this
  exact this
theorem sl_addr {α : Type} {ec : α → List Value} {sz : Nat} {w : World} {A : Option Addr} {l : List α} (h : SL w sz ec A l) (hne : l ≠ []) : ∃ b off, A = some ⟨b, off, none⟩ := by
  obtain ⟨b, off, e, _⟩ := h.cells hne
  exact ⟨b, off, e⟩
theorem take_more {α : Type} {a b : List α} {k : Nat} {x y : α} (ha : a[k]? = some x) (hb : b[k]? = some y) (h : a.take k = b.take k) (e : x = y) : a.take (k + 1) = b.take (k + 1) := by
  rw [List.take_add_one, List.take_add_one, ha, hb, h, e]
theorem ne_at {α : Type} {a b : List α} {k : Nat} {x y : α} (ha : a[k]? = some x) (hb : b[k]? = some y) (e : x ≠ y) : a ≠ b := fun h => by
  rw [h, hb] at ha
  exact e (Option.some.inj ha.symm)
set_option maxRecDepth 100000 in
set_option maxHeartbeats 1000000 in
theorem ints_any (A : Option Addr) (c : Nat) (a : List Int) (B : Option Addr) (d : Nat) (b : List Int) (W : World) (ha : SL W 1 Cs.encI A a) (hb : SL W 1 Cs.encI B b) (hn : a.length ≤ 4611686018427387903) (hm : b.length ≤ 4611686018427387903) :
    Calls Tryz.prog 13 #[.slice A a.length c, .slice B b.length d] W fun e w' => e = .returned (.bool (decide (a = b))) ∧ Below W.heap.size W w' := by
  obtain ⟨R, eR⟩ : ∃ R : Ending → World → Prop, R = fun e w' => e = .returned (.bool (decide (a = b))) ∧ Below W.heap.size W w' := ⟨_, rfl⟩
  rw [← eR]
  have FIN : Hid (∀ w' v, v = decide (a = b) → Below W.heap.size W w' → R (.returned (.bool v)) w') := Lib.hid fun w' v h hb => by rw [eR, h]; exact ⟨rfl, hb⟩
  clear eR
  have HA := Lib.hid ha
  have HB := Lib.hid hb
  clear ha hb
  go_enter Tryz.func13, Tryz.ntmps13
  by_cases hl : a.length = b.length
  · have hli : (a.length : Int) = (b.length : Int) := by omega
    go_wp2_with fail
    go_loopw [5] (fun v wr => ∃ k : Nat, v = .int .i64 (k : Int) ∧ k ≤ a.length ∧ a.take k = b.take k ∧ Below W.heap.size W wr) (fun v _ => (a.length : Int).toNat - (RowKit.intOf v).toNat)
    case atStart => exact ⟨0, rfl, Nat.zero_le _, rfl, Below.refl _ _⟩
    case round =>
      obtain ⟨k, rfl, hk, ht, hbw⟩ := hrel
      rcases Nat.lt_or_eq_of_le hk with hkl | hkl
      · have hki : (k : Int) < (a.length : Int) := by omega
        have hkj : (k : Int) < (b.length : Int) := by omega
        obtain ⟨ba, oa, rfl⟩ := sl_addr HA.out (by rintro rfl; simp at hkl)
        obtain ⟨bb, ob, rfl⟩ := sl_addr HB.out (fun e => by have h := congrArg List.length e; rw [List.length_nil] at h; omega)
        obtain ⟨x, ex⟩ : ∃ x, a[k]? = some x := ⟨_, List.getElem?_eq_getElem hkl⟩
        obtain ⟨y, ey⟩ : ∃ y, b[k]? = some y := ⟨_, List.getElem?_eq_getElem (by omega)⟩
        have HC : Hid (wr.drew.cell? ⟨ba, oa + k, none⟩ = some (.int .i64 x) ∧ wr.drew.cell? ⟨bb, ob + k, none⟩ = some (.int .i64 y)) := Lib.hid ⟨sl_cell1 ((HA.out.below hbw (Nat.le_refl _)).drew) ex, sl_cell1 ((HB.out.below hbw (Nat.le_refl _)).drew) ey⟩
        have HT := Lib.hid ht
        have EX := Lib.hid ex
        have EY := Lib.hid ey
        have HBW := Lib.hid hbw.drew
        clear ht ex ey hbw hk
        by_cases hxy : x = y
        · subst hxy
          go_wp2_with fail
          refine Fre3.wp_region_staged 9 [] (fun _ w' => w' = wr.drew) (by kernel_rfl) (by kernel_rfl) (by kernel_rfl) rfl ?_
          simp only [List.take_succ_cons, List.take_zero]
          iterate 9 (apply Fre3.chain_still (by first | exact Free.wanted_of rfl rfl rfl | rfl) rfl; (intro s w' hB; have hB : w' = wr.drew := hB; subst hB; obtain ⟨hc1, hc2⟩ := HC.out; go_light; go_simp <;> rfl); (try simp only [Act.put, List.setIfInBounds_toArray, List.set_cons_succ, List.set_cons_zero]))
          apply Fre3.chain_nil
          intro wz hB
          have hB : wz = wr.drew := hB
          subst hB
          simp only [List.drop_succ_cons, List.drop_zero]
          go_wp2_with fail
          go_roundw
          case rel => exact ⟨k + 1, rfl, hkl, take_more EX.out EY.out HT.out rfl, HBW.out⟩
          case measure => simp [RowKit.intOf]; omega
        · have HF := Lib.hid (FIN.out wr.drew false (decide_eq_false (ne_at EX.out EY.out hxy)).symm HBW.out)
          go_wp2_with fail
          refine Fre3.wp_region_staged 9 [] (fun _ w' => w' = wr.drew) (by kernel_rfl) (by kernel_rfl) (by kernel_rfl) rfl ?_
          simp only [List.take_succ_cons, List.take_zero]
          iterate 9 (apply Fre3.chain_still (by first | exact Free.wanted_of rfl rfl rfl | rfl) rfl; (intro s w' hB; have hB : w' = wr.drew := hB; subst hB; obtain ⟨hc1, hc2⟩ := HC.out; go_light; go_simp <;> rfl); (try simp only [Act.put, List.setIfInBounds_toArray, List.set_cons_succ, List.set_cons_zero]))
          apply Fre3.chain_nil
          intro wz hB
          have hB : wz = wr.drew := hB
          subst hB
          simp only [List.drop_succ_cons, List.drop_zero]
          go_wp2_with fail
          exact HF.out
      · have hki : ¬ (k : Int) < (a.length : Int) := by omega
        have hF := FIN.out wr true (decide_eq_true (by
          have h1 := ht
          rw [List.take_of_length_le (by omega), List.take_of_length_le (by omega)] at h1
          exact h1)).symm hbw
        have HF := Lib.hid hF
        clear hF ht hbw
        go_wp2_with fail
        exact HF.out
  · have hli : ¬ (a.length : Int) = (b.length : Int) := by omega
    have HF := Lib.hid (FIN.out W false (decide_eq_false (fun e => hl (by rw [e]))).symm (Below.refl _ _))
    go_wp2_with fail
    exact HF.out
set_option maxRecDepth 100000 in
set_option maxHeartbeats 4000000 in
theorem sc_any (x y : Cls) (A : Option Addr) (c : Nat) (B : Option Addr) (d : Nat) (W : World) (hx : SL W 2 encCond A x.start) (hy : SL W 2 encCond B y.start) (hn : x.start.length ≤ 4611686018427387903) (hm : y.start.length ≤ 4611686018427387903) :
    Calls Tryz.prog 72 #[.agg (encCls x (.slice A x.start.length c)).toArray, .agg (encCls y (.slice B y.start.length d)).toArray] W fun e w' => e = .returned (.bool (x.same y)) ∧ Below W.heap.size W w' := by
  obtain ⟨R, eR⟩ : ∃ R : Ending → World → Prop, R = fun e w' => e = .returned (.bool (x.same y)) ∧ Below W.heap.size W w' := ⟨_, rfl⟩
  rw [← eR]
  have FINF : Hid (∀ w', x ≠ y → Below W.heap.size W w' → R (.returned (.bool false)) w') := Lib.hid fun w' h hb => by
    have h1 : x.same y = false := by
      cases hs : x.same y with
      | false => rfl
      | true => exact absurd (Cls.same_iff.1 hs) h
    rw [eR, h1]; exact ⟨rfl, hb⟩
  have FINT : Hid (∀ w', x = y → Below W.heap.size W w' → R (.returned (.bool true)) w') := Lib.hid fun w' h hb => by
    rw [eR, Cls.same_iff.2 h]; exact ⟨rfl, hb⟩
  clear eR
  have HA := Lib.hid hx
  have HB := Lib.hid hy
  clear hx hy
  have HIC : Hid ((Tryz.prog.info? 133).map (·.size) = some 2) := by show _ = _; kernel_rfl
  obtain ⟨xkind, xrole, xact, xneed, xstart, xafter, xgrace, xbus, xfin, xpause, xresume, xnum, xden, xunit, xto, xwaived⟩ := x
  obtain ⟨ykind, yrole, yact, yneed, ystart, yafter, ygrace, ybus, yfin, ypause, yresume, ynum, yden, yunit, yto, ywaived⟩ := y
  obtain ⟨STx, eSx⟩ : ∃ STx, STx = Value.slice A xstart.length c := ⟨_, rfl⟩
  obtain ⟨STy, eSy⟩ : ∃ STy, STy = Value.slice B ystart.length d := ⟨_, rfl⟩
  obtain ⟨cs, ecs⟩ : ∃ cs : List Value, cs = [.int .i64 xkind, .int .i64 xrole, .int .i64 xact, .int .i64 xneed, STx, .int .i64 xafter, .int .i64 xgrace, .bool xbus, .bool xfin, .int .i64 xpause, .int .i64 xresume, .int .i64 xnum, .int .i64 xden, .int .i64 xunit, .int .i64 xto, .bool xwaived] := ⟨_, rfl⟩
  obtain ⟨ds, eds⟩ : ∃ ds : List Value, ds = [.int .i64 ykind, .int .i64 yrole, .int .i64 yact, .int .i64 yneed, STy, .int .i64 yafter, .int .i64 ygrace, .bool ybus, .bool yfin, .int .i64 ypause, .int .i64 yresume, .int .i64 ynum, .int .i64 yden, .int .i64 yunit, .int .i64 yto, .bool ywaived] := ⟨_, rfl⟩
  have ARG : Hid (encCls ⟨xkind, xrole, xact, xneed, xstart, xafter, xgrace, xbus, xfin, xpause, xresume, xnum, xden, xunit, xto, xwaived⟩ (.slice A xstart.length c) = cs ∧ encCls ⟨ykind, yrole, yact, yneed, ystart, yafter, ygrace, ybus, yfin, ypause, yresume, ynum, yden, yunit, yto, ywaived⟩ (.slice B ystart.length d) = ds) := Lib.hid ⟨by rw [ecs, eSx]; rfl, by rw [eds, eSy]; rfl⟩
  show Calls Tryz.prog 72 #[.agg (encCls ⟨xkind, xrole, xact, xneed, xstart, xafter, xgrace, xbus, xfin, xpause, xresume, xnum, xden, xunit, xto, xwaived⟩ (.slice A xstart.length c)).toArray, .agg (encCls ⟨ykind, yrole, yact, yneed, ystart, yafter, ygrace, ybus, yfin, ypause, yresume, ynum, yden, yunit, yto, ywaived⟩ (.slice B ystart.length d)).toArray] W R
  rw [ARG.out.1, ARG.out.2]
  have hr1 : Row (W.alloc (.cells cs.toArray 45)) W.heap.size 45 cs := Row.new _ _ _
  have z1 : (W.alloc (.cells cs.toArray 45)).heap.size = W.heap.size + 1 := by simp
  have hr2 : Row ((W.alloc (.cells cs.toArray 45)).alloc (.cells ds.toArray 45)) (W.heap.size + 1) 45 ds := by rw [← z1]; exact Row.new _ _ _
  have hr1' : Row ((W.alloc (.cells cs.toArray 45)).alloc (.cells ds.toArray 45)) W.heap.size 45 cs := hr1.below ((Below.refl _ _).alloc (Nat.le_refl _) _) hr1.lt
  have HBW : Hid (Below W.heap.size W ((W.alloc (.cells cs.toArray 45)).alloc (.cells ds.toArray 45))) := Lib.hid (((Below.refl _ _).alloc (Nat.le_refl _) _).alloc (by simp) _)
  have c0 := hr1'.at (show cs[0]? = some (.int .i64 xkind) by rw [ecs]; rfl)
  have d0 := hr2.at (show ds[0]? = some (.int .i64 ykind) by rw [eds]; rfl)
  have c1 := hr1'.at (show cs[1]? = some (.int .i64 xrole) by rw [ecs]; rfl)
  have d1 := hr2.at (show ds[1]? = some (.int .i64 yrole) by rw [eds]; rfl)
  have c2 := hr1'.at (show cs[2]? = some (.int .i64 xact) by rw [ecs]; rfl)
  have d2 := hr2.at (show ds[2]? = some (.int .i64 yact) by rw [eds]; rfl)
  have c3 := hr1'.at (show cs[3]? = some (.int .i64 xneed) by rw [ecs]; rfl)
  have d3 := hr2.at (show ds[3]? = some (.int .i64 yneed) by rw [eds]; rfl)
  have c4 := hr1'.at (show cs[4]? = some (STx) by rw [ecs]; rfl)
  have d4 := hr2.at (show ds[4]? = some (STy) by rw [eds]; rfl)
  have c5 := hr1'.at (show cs[5]? = some (.int .i64 xafter) by rw [ecs]; rfl)
  have d5 := hr2.at (show ds[5]? = some (.int .i64 yafter) by rw [eds]; rfl)
  have c6 := hr1'.at (show cs[6]? = some (.int .i64 xgrace) by rw [ecs]; rfl)
  have d6 := hr2.at (show ds[6]? = some (.int .i64 ygrace) by rw [eds]; rfl)
  have c7 := hr1'.at (show cs[7]? = some (.bool xbus) by rw [ecs]; rfl)
  have d7 := hr2.at (show ds[7]? = some (.bool ybus) by rw [eds]; rfl)
  have c8 := hr1'.at (show cs[8]? = some (.bool xfin) by rw [ecs]; rfl)
  have d8 := hr2.at (show ds[8]? = some (.bool yfin) by rw [eds]; rfl)
  have c9 := hr1'.at (show cs[9]? = some (.int .i64 xpause) by rw [ecs]; rfl)
  have d9 := hr2.at (show ds[9]? = some (.int .i64 ypause) by rw [eds]; rfl)
  have c10 := hr1'.at (show cs[10]? = some (.int .i64 xresume) by rw [ecs]; rfl)
  have d10 := hr2.at (show ds[10]? = some (.int .i64 yresume) by rw [eds]; rfl)
  have c11 := hr1'.at (show cs[11]? = some (.int .i64 xnum) by rw [ecs]; rfl)
  have d11 := hr2.at (show ds[11]? = some (.int .i64 ynum) by rw [eds]; rfl)
  have c12 := hr1'.at (show cs[12]? = some (.int .i64 xden) by rw [ecs]; rfl)
  have d12 := hr2.at (show ds[12]? = some (.int .i64 yden) by rw [eds]; rfl)
  have c13 := hr1'.at (show cs[13]? = some (.int .i64 xunit) by rw [ecs]; rfl)
  have d13 := hr2.at (show ds[13]? = some (.int .i64 yunit) by rw [eds]; rfl)
  have c14 := hr1'.at (show cs[14]? = some (.int .i64 xto) by rw [ecs]; rfl)
  have d14 := hr2.at (show ds[14]? = some (.int .i64 yto) by rw [eds]; rfl)
  have c15 := hr1'.at (show cs[15]? = some (.bool xwaived) by rw [ecs]; rfl)
  have d15 := hr2.at (show ds[15]? = some (.bool ywaived) by rw [eds]; rfl)
  have HR1 := Lib.hid hr1'
  have HR2 := Lib.hid hr2
  generalize eW : (W.alloc (.cells cs.toArray 45)).alloc (.cells ds.toArray 45) = W2 at *
  have EW := Lib.hid eW
  clear hr1 hr1' hr2 eW z1 ecs eds
  by_cases hkind : xkind = ykind
  rotate_left
  · have HF := Lib.hid (FINF.out W2 (fun e => hkind (congrArg Cls.kind e)) HBW.out)
    go_enter Tryz.func72, Tryz.ntmps72
    go_wp2_with (simp only [EW.out])
    exact HF.out
  subst hkind
  by_cases hrole : xrole = yrole
  rotate_left
  · have HF := Lib.hid (FINF.out W2 (fun e => hrole (congrArg Cls.role e)) HBW.out)
    go_enter Tryz.func72, Tryz.ntmps72
    go_wp2_with (simp only [EW.out])
    exact HF.out
  subst hrole
  by_cases hact : xact = yact
  rotate_left
  · have HF := Lib.hid (FINF.out W2 (fun e => hact (congrArg Cls.act e)) HBW.out)
    go_enter Tryz.func72, Tryz.ntmps72
    go_wp2_with (simp only [EW.out])
    exact HF.out
  subst hact
  by_cases hneed : xneed = yneed
  rotate_left
  · have HF := Lib.hid (FINF.out W2 (fun e => hneed (congrArg Cls.need e)) HBW.out)
    go_enter Tryz.func72, Tryz.ntmps72
    go_wp2_with (simp only [EW.out])
    exact HF.out
  subst hneed
  by_cases hafter : xafter = yafter
  rotate_left
  · have HF := Lib.hid (FINF.out W2 (fun e => hafter (congrArg Cls.after e)) HBW.out)
    go_enter Tryz.func72, Tryz.ntmps72
    go_wp2_with (simp only [EW.out])
    exact HF.out
  subst hafter
  by_cases hgrace : xgrace = ygrace
  rotate_left
  · have HF := Lib.hid (FINF.out W2 (fun e => hgrace (congrArg Cls.grace e)) HBW.out)
    go_enter Tryz.func72, Tryz.ntmps72
    go_wp2_with (simp only [EW.out])
    exact HF.out
  subst hgrace
  by_cases hbus : xbus = ybus
  rotate_left
  · have HF := Lib.hid (FINF.out W2 (fun e => hbus (congrArg Cls.bus e)) HBW.out)
    have hb : ybus = !xbus := by revert hbus; cases xbus <;> cases ybus <;> simp
    subst hb
    clear hbus
    cases xbus <;> (go_enter Tryz.func72, Tryz.ntmps72; go_wp2_with (simp only [EW.out]); exact HF.out)
  subst hbus
  by_cases hfin : xfin = yfin
  rotate_left
  · have HF := Lib.hid (FINF.out W2 (fun e => hfin (congrArg Cls.fin e)) HBW.out)
    have hb : yfin = !xfin := by revert hfin; cases xfin <;> cases yfin <;> simp
    subst hb
    clear hfin
    cases xfin <;> (go_enter Tryz.func72, Tryz.ntmps72; go_wp2_with (simp only [EW.out]); exact HF.out)
  subst hfin
  by_cases hpause : xpause = ypause
  rotate_left
  · have HF := Lib.hid (FINF.out W2 (fun e => hpause (congrArg Cls.pause e)) HBW.out)
    go_enter Tryz.func72, Tryz.ntmps72
    go_wp2_with (simp only [EW.out])
    exact HF.out
  subst hpause
  by_cases hresume : xresume = yresume
  rotate_left
  · have HF := Lib.hid (FINF.out W2 (fun e => hresume (congrArg Cls.resume e)) HBW.out)
    go_enter Tryz.func72, Tryz.ntmps72
    go_wp2_with (simp only [EW.out])
    exact HF.out
  subst hresume
  by_cases hnum : xnum = ynum
  rotate_left
  · have HF := Lib.hid (FINF.out W2 (fun e => hnum (congrArg Cls.num e)) HBW.out)
    go_enter Tryz.func72, Tryz.ntmps72
    go_wp2_with (simp only [EW.out])
    exact HF.out
  subst hnum
  by_cases hden : xden = yden
  rotate_left
  · have HF := Lib.hid (FINF.out W2 (fun e => hden (congrArg Cls.den e)) HBW.out)
    go_enter Tryz.func72, Tryz.ntmps72
    go_wp2_with (simp only [EW.out])
    exact HF.out
  subst hden
  by_cases hunit : xunit = yunit
  rotate_left
  · have HF := Lib.hid (FINF.out W2 (fun e => hunit (congrArg Cls.unit e)) HBW.out)
    go_enter Tryz.func72, Tryz.ntmps72
    go_wp2_with (simp only [EW.out])
    exact HF.out
  subst hunit
  by_cases hto : xto = yto
  rotate_left
  · have HF := Lib.hid (FINF.out W2 (fun e => hto (congrArg Cls.to e)) HBW.out)
    go_enter Tryz.func72, Tryz.ntmps72
    go_wp2_with (simp only [EW.out])
    exact HF.out
  subst hto
  by_cases hwaived : xwaived = ywaived
  rotate_left
  · have HF := Lib.hid (FINF.out W2 (fun e => hwaived (congrArg Cls.waived e)) HBW.out)
    have hb : ywaived = !xwaived := by revert hwaived; cases xwaived <;> cases ywaived <;> simp
    subst hb
    clear hwaived
    cases xwaived <;> (go_enter Tryz.func72, Tryz.ntmps72; go_wp2_with (simp only [EW.out]); exact HF.out)
  subst hwaived
  by_cases hl : xstart.length = ystart.length
  rotate_left
  · have HF := Lib.hid (FINF.out W2 (fun e => hl (congrArg (fun k => k.start.length) e)) HBW.out)
    have hli : ¬ (xstart.length : Int) = (ystart.length : Int) := by omega
    rw [eSx] at c4
    rw [eSy] at d4
    go_enter Tryz.func72, Tryz.ntmps72
    go_wp2_with (simp only [EW.out])
    exact HF.out
  rw [eSx] at c4
  rw [eSy] at d4
  clear eSx eSy
  have hli : (xstart.length : Int) = (ystart.length : Int) := by omega
  go_enter Tryz.func72, Tryz.ntmps72
  go_wp2_with (simp only [EW.out])
  clear c0 c1 c2 c3 c5 c6 c7 c8 c9 c10 c11 c12 c13 c14 c15 d0 d1 d2 d3 d5 d6 d7 d8 d9 d10 d11 d12 d13 d14 d15 ARG
  have C4 : Hid (∀ w', Below W2.heap.size W2 w' → w'.cell? ⟨W.heap.size, 4, none⟩ = some (.slice A xstart.length c) ∧ w'.cell? ⟨W.heap.size + 1, 4, none⟩ = some (.slice B ystart.length d)) := Lib.hid fun w' h => by
    have h1 := World.block_lt_of_cell? _ _ c4
    have h2 := World.block_lt_of_cell? _ _ d4
    exact ⟨by rw [h.cell (p := ⟨W.heap.size, 4, none⟩) h1]; exact c4, by rw [h.cell (p := ⟨W.heap.size + 1, 4, none⟩) h2]; exact d4⟩
  clear c4 d4
  go_loopw [5] (fun v wr => ∃ k : Nat, v = .int .i64 (k : Int) ∧ k ≤ xstart.length ∧ xstart.take k = ystart.take k ∧ Below W2.heap.size W2 wr) (fun v _ => (xstart.length : Int).toNat - (RowKit.intOf v).toNat)
  case atStart => exact ⟨0, rfl, Nat.zero_le _, rfl, Below.refl _ _⟩
  case round =>
    obtain ⟨k, rfl, hk, ht, hbw⟩ := hrel
    obtain ⟨e4, f4⟩ := C4.out wr hbw
    have hbww : Below W.heap.size W wr := HBW.out.trans (hbw.mono HBW.out.size)
    rcases Nat.lt_or_eq_of_le hk with hkl | hkl
    · have hki : (k : Int) < (xstart.length : Int) := by omega
      have hkj : (k : Int) < (ystart.length : Int) := by omega
      obtain ⟨ba, oa, eA⟩ := sl_addr HA.out (by rintro rfl; simp at hkl)
      obtain ⟨bb, ob, eB⟩ := sl_addr HB.out (fun e => by have h := congrArg List.length e; rw [List.length_nil] at h; omega)
      rw [eA] at e4
      rw [eB] at f4
      obtain ⟨p, ex⟩ : ∃ x, xstart[k]? = some x := ⟨_, List.getElem?_eq_getElem hkl⟩
      obtain ⟨q, ey⟩ : ∃ y, ystart[k]? = some y := ⟨_, List.getElem?_eq_getElem (by omega)⟩
      have HC : Hid (wr.drew.rangeAt ba (oa + k * 2) [.int .i64 p.1, .int .i64 p.2] ∧ wr.drew.rangeAt bb (ob + k * 2) [.int .i64 q.1, .int .i64 q.2]) := Lib.hid (by
        have hA := (HA.out.below hbww (Nat.le_refl _)).drew
        have hB := (HB.out.below hbww (Nat.le_refl _)).drew
        rw [eA] at hA
        rw [eB] at hB
        exact ⟨sl_range2 hA ex, sl_range2 hB ey⟩)
      have HE : Hid (wr.drew.cell? ⟨W.heap.size, 4, none⟩ = some (.slice (some ⟨ba, oa, none⟩) xstart.length c) ∧ wr.drew.cell? ⟨W.heap.size + 1, 4, none⟩ = some (.slice (some ⟨bb, ob, none⟩) ystart.length d)) := Lib.hid ⟨e4, f4⟩
      have HT := Lib.hid ht
      have EX := Lib.hid ex
      have EY := Lib.hid ey
      have HBX := Lib.hid hbw.drew
      have HBY := Lib.hid hbww.drew
      obtain ⟨p1, p2⟩ := p
      obtain ⟨q1, q2⟩ := q
      clear ht ex ey hbw hbww hk eA eB
      by_cases h1 : p1 = q1
      · subst h1
        by_cases h2 : p2 = q2
        · subst h2
          go_wp2_with fail
          refine Fre3.wp_region_staged 11 [] (fun _ w' => w' = wr.drew) (by kernel_rfl) (by kernel_rfl) (by kernel_rfl) rfl ?_
          simp only [List.take_succ_cons, List.take_zero]
          iterate 4 (apply Fre3.chain_still (by first | exact Free.wanted_of rfl rfl rfl | rfl) rfl; (intro s w' hB; have hB : w' = wr.drew := hB; subst hB; obtain ⟨hc1, hc2⟩ := HE.out; go_light; go_simp <;> rfl); (try simp only [Act.put, List.setIfInBounds_toArray, List.set_cons_succ, List.set_cons_zero]))
          apply Fre3.chain_still (by first | exact Free.wanted_of rfl rfl rfl | rfl) rfl
          · intro s w' hB
            have hB : w' = wr.drew := hB
            subst hB
            exact Hk.exec_mid 133 (.tmp 119) rfl ba (oa + k * 2) rfl _ _ HC.out.1 Tryz.underlying133 rfl HIC.out
          simp only [Act.put, List.setIfInBounds_toArray, List.set_cons_succ, List.set_cons_zero]
          iterate 4 (apply Fre3.chain_still (by first | exact Free.wanted_of rfl rfl rfl | rfl) rfl; (intro s w' hB; have hB : w' = wr.drew := hB; subst hB; obtain ⟨hc1, hc2⟩ := HE.out; go_light; go_simp <;> rfl); (try simp only [Act.put, List.setIfInBounds_toArray, List.set_cons_succ, List.set_cons_zero]))
          apply Fre3.chain_still (by first | exact Free.wanted_of rfl rfl rfl | rfl) rfl
          · intro s w' hB
            have hB : w' = wr.drew := hB
            subst hB
            exact Hk.exec_mid 133 (.tmp 124) rfl bb (ob + k * 2) rfl _ _ HC.out.2 Tryz.underlying133 rfl HIC.out
          simp only [Act.put, List.setIfInBounds_toArray, List.set_cons_succ, List.set_cons_zero]
          apply Fre3.chain_still (by first | exact Free.wanted_of rfl rfl rfl | rfl) rfl
          · intro s w' hB
            go_light
            go_simp <;> rfl
          simp only [Act.put, List.setIfInBounds_toArray, List.set_cons_succ, List.set_cons_zero]
          apply Fre3.chain_nil
          intro wz hB
          have hB : wz = wr.drew := hB
          subst hB
          simp only [List.drop_succ_cons, List.drop_zero]
          go_wp2_with fail
          go_roundw
          case rel => exact ⟨k + 1, rfl, hkl, take_more EX.out EY.out HT.out rfl, HBX.out⟩
          case measure => simp [RowKit.intOf]; omega
        · have HF := Lib.hid (FINF.out wr.drew (fun e => ne_at EX.out EY.out (fun e2 => h2 (congrArg Prod.snd e2)) (congrArg Cls.start e)) HBY.out)
          go_wp2_with fail
          refine Fre3.wp_region_staged 11 [] (fun _ w' => w' = wr.drew) (by kernel_rfl) (by kernel_rfl) (by kernel_rfl) rfl ?_
          simp only [List.take_succ_cons, List.take_zero]
          iterate 4 (apply Fre3.chain_still (by first | exact Free.wanted_of rfl rfl rfl | rfl) rfl; (intro s w' hB; have hB : w' = wr.drew := hB; subst hB; obtain ⟨hc1, hc2⟩ := HE.out; go_light; go_simp <;> rfl); (try simp only [Act.put, List.setIfInBounds_toArray, List.set_cons_succ, List.set_cons_zero]))
          apply Fre3.chain_still (by first | exact Free.wanted_of rfl rfl rfl | rfl) rfl
          · intro s w' hB
            have hB : w' = wr.drew := hB
            subst hB
            exact Hk.exec_mid 133 (.tmp 119) rfl ba (oa + k * 2) rfl _ _ HC.out.1 Tryz.underlying133 rfl HIC.out
          simp only [Act.put, List.setIfInBounds_toArray, List.set_cons_succ, List.set_cons_zero]
          iterate 4 (apply Fre3.chain_still (by first | exact Free.wanted_of rfl rfl rfl | rfl) rfl; (intro s w' hB; have hB : w' = wr.drew := hB; subst hB; obtain ⟨hc1, hc2⟩ := HE.out; go_light; go_simp <;> rfl); (try simp only [Act.put, List.setIfInBounds_toArray, List.set_cons_succ, List.set_cons_zero]))
          apply Fre3.chain_still (by first | exact Free.wanted_of rfl rfl rfl | rfl) rfl
          · intro s w' hB
            have hB : w' = wr.drew := hB
            subst hB
            exact Hk.exec_mid 133 (.tmp 124) rfl bb (ob + k * 2) rfl _ _ HC.out.2 Tryz.underlying133 rfl HIC.out
          simp only [Act.put, List.setIfInBounds_toArray, List.set_cons_succ, List.set_cons_zero]
          apply Fre3.chain_still (by first | exact Free.wanted_of rfl rfl rfl | rfl) rfl
          · intro s w' hB
            go_light
            go_simp <;> rfl
          simp only [Act.put, List.setIfInBounds_toArray, List.set_cons_succ, List.set_cons_zero]
          apply Fre3.chain_nil
          intro wz hB
          have hB : wz = wr.drew := hB
          subst hB
          simp only [List.drop_succ_cons, List.drop_zero]
          go_wp2_with fail
          exact HF.out
      · have HF := Lib.hid (FINF.out wr.drew (fun e => ne_at EX.out EY.out (fun e2 => h1 (congrArg Prod.fst e2)) (congrArg Cls.start e)) HBY.out)
        go_wp2_with fail
        refine Fre3.wp_region_staged 11 [] (fun _ w' => w' = wr.drew) (by kernel_rfl) (by kernel_rfl) (by kernel_rfl) rfl ?_
        simp only [List.take_succ_cons, List.take_zero]
        iterate 4 (apply Fre3.chain_still (by first | exact Free.wanted_of rfl rfl rfl | rfl) rfl; (intro s w' hB; have hB : w' = wr.drew := hB; subst hB; obtain ⟨hc1, hc2⟩ := HE.out; go_light; go_simp <;> rfl); (try simp only [Act.put, List.setIfInBounds_toArray, List.set_cons_succ, List.set_cons_zero]))
        apply Fre3.chain_still (by first | exact Free.wanted_of rfl rfl rfl | rfl) rfl
        · intro s w' hB
          have hB : w' = wr.drew := hB
          subst hB
          exact Hk.exec_mid 133 (.tmp 119) rfl ba (oa + k * 2) rfl _ _ HC.out.1 Tryz.underlying133 rfl HIC.out
        simp only [Act.put, List.setIfInBounds_toArray, List.set_cons_succ, List.set_cons_zero]
        iterate 4 (apply Fre3.chain_still (by first | exact Free.wanted_of rfl rfl rfl | rfl) rfl; (intro s w' hB; have hB : w' = wr.drew := hB; subst hB; obtain ⟨hc1, hc2⟩ := HE.out; go_light; go_simp <;> rfl); (try simp only [Act.put, List.setIfInBounds_toArray, List.set_cons_succ, List.set_cons_zero]))
        apply Fre3.chain_still (by first | exact Free.wanted_of rfl rfl rfl | rfl) rfl
        · intro s w' hB
          have hB : w' = wr.drew := hB
          subst hB
          exact Hk.exec_mid 133 (.tmp 124) rfl bb (ob + k * 2) rfl _ _ HC.out.2 Tryz.underlying133 rfl HIC.out
        simp only [Act.put, List.setIfInBounds_toArray, List.set_cons_succ, List.set_cons_zero]
        apply Fre3.chain_still (by first | exact Free.wanted_of rfl rfl rfl | rfl) rfl
        · intro s w' hB
          go_light
          go_simp <;> rfl
        simp only [Act.put, List.setIfInBounds_toArray, List.set_cons_succ, List.set_cons_zero]
        apply Fre3.chain_nil
        intro wz hB
        have hB : wz = wr.drew := hB
        subst hB
        simp only [List.drop_succ_cons, List.drop_zero]
        go_wp2_with fail
        exact HF.out
    · have hki : ¬ (k : Int) < (xstart.length : Int) := by omega
      have h1 : xstart = ystart := by
        rw [List.take_of_length_le (by omega), List.take_of_length_le (by omega)] at ht
        exact ht
      have HF := Lib.hid (FINT.out wr (by rw [h1]) hbww)
      clear ht h1 hbw hbww
      go_wp2_with fail
      exact HF.out
end Go.Proofs.YtekfoaenomgjgaaGreatDoor

namespace Go.Proofs.YtekfoaenomgjgaaGreatDoor
open Go.RowKit Go.W32 Go.Blk Go.Cs Go.Lib Go.Opn Go.Mg

theorem info_num : (Tryz.prog.info? 3).map (fun i => (i.zero, i.size, i.bytes)) = some (some (.int .i64 0), 1, 8) := by kernel_rfl
theorem run_pair (x1 x2 y1 y2 : Int) (w : World) : Sem.run Tryz.prog (Op.equalIn 10000 106 (.agg #[.int .i64 x1, .int .i64 x2]) (.agg #[.int .i64 y1, .int .i64 y2])) w = .ok ((x1 == y1) && (x2 == y2)) w := by
  obtain ⟨i, hi, _⟩ := info_of info_num
  have hc : Tryz.prog.cellsOf 3 = 1 := by kernel_rfl
  have h := run_equalIn_array (P := Tryz.prog) w 9999 #[.int .i64 x1, .int .i64 x2] #[.int .i64 y1, .int .i64 y2] Tryz.underlying106 hi
  rw [h, hc]
  simp [Op.eqItems, List.range, List.range.loop, part, go_sem]
  by_cases h1 : x1 = y1 <;> by_cases h2 : x2 = y2 <;> simp [h1, h2]
theorem sl_rangeP {w : World} {b off k : Nat} {l : List (Nat × Nat)} {x : Nat × Nat} (h : SL w 2 encP (some ⟨b, off, none⟩) l) (hk : l[k]? = some x) : w.rangeAt b (off + k * 2) [.int .i64 (x.1 : Int), .int .i64 (x.2 : Int)] := fun j v hj => by
  obtain ⟨b', o', e, hc⟩ := h.at_ hk
  injection e with e
  injection e with e1 e2
  subst e1 e2
  have := hc j v hj
  rw [← Nat.add_assoc] at this
  exact this
theorem neq_pair {ρ : Operand → Value} {op : Oper} {w : World} {x1 x2 y1 y2 : Int} {x y : Operand} {v : Bool} (ho : op.op = .binOp .neq 106 x y 106) (hx : ρ x = .agg #[.int .i64 x1, .int .i64 x2]) (hy : ρ y = .agg #[.int .i64 y1, .int .i64 y2]) (hv : (!((x1 == y1) && (x2 == y2))) = v) : (execOp ρ op).run Tryz.prog w = .ok (.value (.bool v)) w := by
  unfold execOp
  simp only [ho, hx, hy]
  go_simp
  rw [run_pair, ← hv]
  rfl
set_option maxRecDepth 100000 in
set_option maxHeartbeats 1000000 in
theorem pairs_any (A : Option Addr) (c : Nat) (a : List (Nat × Nat)) (B : Option Addr) (d : Nat) (b : List (Nat × Nat)) (W : World) (ha : SL W 2 encP A a) (hb : SL W 2 encP B b) (hn : a.length ≤ 4611686018427387903) (hm : b.length ≤ 4611686018427387903) :
    Calls Tryz.prog 42 #[.slice A a.length c, .slice B b.length d] W fun e w' => e = .returned (.bool (decide (a = b))) ∧ Below W.heap.size W w' := by
  obtain ⟨R, eR⟩ : ∃ R : Ending → World → Prop, R = fun e w' => e = .returned (.bool (decide (a = b))) ∧ Below W.heap.size W w' := ⟨_, rfl⟩
  rw [← eR]
  have FIN : Hid (∀ w' v, v = decide (a = b) → Below W.heap.size W w' → R (.returned (.bool v)) w') := Lib.hid fun w' v h hb => by rw [eR, h]; exact ⟨rfl, hb⟩
  clear eR
  have HA := Lib.hid ha
  have HB := Lib.hid hb
  clear ha hb
  have HIC : Hid ((Tryz.prog.info? 106).map (·.size) = some 2) := by show _ = _; kernel_rfl
  go_enter Tryz.func42, Tryz.ntmps42
  by_cases hl : a.length = b.length
  · have hli : (a.length : Int) = (b.length : Int) := by omega
    go_wp2_with fail
    go_loopw [5] (fun v wr => ∃ k : Nat, v = .int .i64 (k : Int) ∧ k ≤ a.length ∧ a.take k = b.take k ∧ Below W.heap.size W wr) (fun v _ => (a.length : Int).toNat - (RowKit.intOf v).toNat)
    case atStart => exact ⟨0, rfl, Nat.zero_le _, rfl, Below.refl _ _⟩
    case round =>
      obtain ⟨k, rfl, hk, ht, hbw⟩ := hrel
      rcases Nat.lt_or_eq_of_le hk with hkl | hkl
      · have hki : (k : Int) < (a.length : Int) := by omega
        have hkj : (k : Int) < (b.length : Int) := by omega
        obtain ⟨ba, oa, rfl⟩ := sl_addr HA.out (by rintro rfl; simp at hkl)
        obtain ⟨bb, ob, rfl⟩ := sl_addr HB.out (fun e => by have h := congrArg List.length e; rw [List.length_nil] at h; omega)
        obtain ⟨x, ex⟩ : ∃ x, a[k]? = some x := ⟨_, List.getElem?_eq_getElem hkl⟩
        obtain ⟨y, ey⟩ : ∃ y, b[k]? = some y := ⟨_, List.getElem?_eq_getElem (by omega)⟩
        have HC : Hid (wr.drew.rangeAt ba (oa + k * 2) [.int .i64 (x.1 : Int), .int .i64 (x.2 : Int)] ∧ wr.drew.rangeAt bb (ob + k * 2) [.int .i64 (y.1 : Int), .int .i64 (y.2 : Int)]) := Lib.hid ⟨sl_rangeP ((HA.out.below hbw (Nat.le_refl _)).drew) ex, sl_rangeP ((HB.out.below hbw (Nat.le_refl _)).drew) ey⟩
        have HT := Lib.hid ht
        have EX := Lib.hid ex
        have EY := Lib.hid ey
        have HBW := Lib.hid hbw.drew
        clear ht ex ey hbw hk
        by_cases hxy : x = y
        · subst hxy
          obtain ⟨x1, x2⟩ := x
          have HPF : Hid ((!(((x1 : Int) == (x1 : Int)) && ((x2 : Int) == (x2 : Int)))) = false) := Lib.hid (by simp)
          go_wp2_with fail
          refine Fre3.wp_region_staged 9 [] (fun _ w' => w' = wr.drew) (by kernel_rfl) (by kernel_rfl) (by kernel_rfl) rfl ?_
          simp only [List.take_succ_cons, List.take_zero]
          iterate 3 (apply Fre3.chain_still (by first | exact Free.wanted_of rfl rfl rfl | rfl) rfl; (intro s w' hB; have hB : w' = wr.drew := hB; subst hB; go_light; go_simp <;> rfl); (try simp only [Act.put, List.setIfInBounds_toArray, List.set_cons_succ, List.set_cons_zero]))
          apply Fre3.chain_still (by first | exact Free.wanted_of rfl rfl rfl | rfl) rfl
          · intro s w' hB
            have hB : w' = wr.drew := hB
            subst hB
            exact Hk.exec_mid 106 (.tmp 19) rfl ba (oa + k * 2) rfl _ _ HC.out.1 Tryz.underlying106 rfl HIC.out
          simp only [Act.put, List.setIfInBounds_toArray, List.set_cons_succ, List.set_cons_zero]
          iterate 3 (apply Fre3.chain_still (by first | exact Free.wanted_of rfl rfl rfl | rfl) rfl; (intro s w' hB; have hB : w' = wr.drew := hB; subst hB; go_light; go_simp <;> rfl); (try simp only [Act.put, List.setIfInBounds_toArray, List.set_cons_succ, List.set_cons_zero]))
          apply Fre3.chain_still (by first | exact Free.wanted_of rfl rfl rfl | rfl) rfl
          · intro s w' hB
            have hB : w' = wr.drew := hB
            subst hB
            exact Hk.exec_mid 106 (.tmp 23) rfl bb (ob + k * 2) rfl _ _ HC.out.2 Tryz.underlying106 rfl HIC.out
          simp only [Act.put, List.setIfInBounds_toArray, List.set_cons_succ, List.set_cons_zero]
          apply Fre3.chain_still (by first | exact Free.wanted_of rfl rfl rfl | rfl) rfl
          · intro s w' hB
            exact neq_pair rfl rfl rfl HPF.out
          simp only [Act.put, List.setIfInBounds_toArray, List.set_cons_succ, List.set_cons_zero]
          apply Fre3.chain_nil
          intro wz hB
          have hB : wz = wr.drew := hB
          subst hB
          simp only [List.drop_succ_cons, List.drop_zero]
          go_wp2_with fail
          go_roundw
          case rel => exact ⟨k + 1, rfl, by omega, take_more EX.out EY.out HT.out rfl, HBW.out⟩
          case measure => simp [RowKit.intOf]; omega
        · have HF := Lib.hid (FIN.out wr.drew false (decide_eq_false (ne_at EX.out EY.out hxy)).symm HBW.out)
          obtain ⟨x1, x2⟩ := x
          obtain ⟨y1, y2⟩ := y
          clear EX EY
          by_cases h1 : x1 = y1
          · subst h1
            have h2 : ¬ x2 = y2 := fun h => hxy (by rw [h])
            have HPF : Hid ((!(((x1 : Int) == (x1 : Int)) && ((x2 : Int) == (y2 : Int)))) = true) := Lib.hid (by simp; omega)
            clear hxy
            go_wp2_with fail
            refine Fre3.wp_region_staged 9 [] (fun _ w' => w' = wr.drew) (by kernel_rfl) (by kernel_rfl) (by kernel_rfl) rfl ?_
            simp only [List.take_succ_cons, List.take_zero]
            iterate 3 (apply Fre3.chain_still (by first | exact Free.wanted_of rfl rfl rfl | rfl) rfl; (intro s w' hB; have hB : w' = wr.drew := hB; subst hB; go_light; go_simp <;> rfl); (try simp only [Act.put, List.setIfInBounds_toArray, List.set_cons_succ, List.set_cons_zero]))
            apply Fre3.chain_still (by first | exact Free.wanted_of rfl rfl rfl | rfl) rfl
            · intro s w' hB
              have hB : w' = wr.drew := hB
              subst hB
              exact Hk.exec_mid 106 (.tmp 19) rfl ba (oa + k * 2) rfl _ _ HC.out.1 Tryz.underlying106 rfl HIC.out
            simp only [Act.put, List.setIfInBounds_toArray, List.set_cons_succ, List.set_cons_zero]
            iterate 3 (apply Fre3.chain_still (by first | exact Free.wanted_of rfl rfl rfl | rfl) rfl; (intro s w' hB; have hB : w' = wr.drew := hB; subst hB; go_light; go_simp <;> rfl); (try simp only [Act.put, List.setIfInBounds_toArray, List.set_cons_succ, List.set_cons_zero]))
            apply Fre3.chain_still (by first | exact Free.wanted_of rfl rfl rfl | rfl) rfl
            · intro s w' hB
              have hB : w' = wr.drew := hB
              subst hB
              exact Hk.exec_mid 106 (.tmp 23) rfl bb (ob + k * 2) rfl _ _ HC.out.2 Tryz.underlying106 rfl HIC.out
            simp only [Act.put, List.setIfInBounds_toArray, List.set_cons_succ, List.set_cons_zero]
            apply Fre3.chain_still (by first | exact Free.wanted_of rfl rfl rfl | rfl) rfl
            · intro s w' hB
              exact neq_pair rfl rfl rfl HPF.out
            simp only [Act.put, List.setIfInBounds_toArray, List.set_cons_succ, List.set_cons_zero]
            apply Fre3.chain_nil
            intro wz hB
            have hB : wz = wr.drew := hB
            subst hB
            simp only [List.drop_succ_cons, List.drop_zero]
            go_wp2_with fail
            exact HF.out
          · have HPF : Hid ((!(((x1 : Int) == (y1 : Int)) && ((x2 : Int) == (y2 : Int)))) = true) := Lib.hid (by simp; omega)
            clear hxy
            go_wp2_with fail
            refine Fre3.wp_region_staged 9 [] (fun _ w' => w' = wr.drew) (by kernel_rfl) (by kernel_rfl) (by kernel_rfl) rfl ?_
            simp only [List.take_succ_cons, List.take_zero]
            iterate 3 (apply Fre3.chain_still (by first | exact Free.wanted_of rfl rfl rfl | rfl) rfl; (intro s w' hB; have hB : w' = wr.drew := hB; subst hB; go_light; go_simp <;> rfl); (try simp only [Act.put, List.setIfInBounds_toArray, List.set_cons_succ, List.set_cons_zero]))
            apply Fre3.chain_still (by first | exact Free.wanted_of rfl rfl rfl | rfl) rfl
            · intro s w' hB
              have hB : w' = wr.drew := hB
              subst hB
              exact Hk.exec_mid 106 (.tmp 19) rfl ba (oa + k * 2) rfl _ _ HC.out.1 Tryz.underlying106 rfl HIC.out
            simp only [Act.put, List.setIfInBounds_toArray, List.set_cons_succ, List.set_cons_zero]
            iterate 3 (apply Fre3.chain_still (by first | exact Free.wanted_of rfl rfl rfl | rfl) rfl; (intro s w' hB; have hB : w' = wr.drew := hB; subst hB; go_light; go_simp <;> rfl); (try simp only [Act.put, List.setIfInBounds_toArray, List.set_cons_succ, List.set_cons_zero]))
            apply Fre3.chain_still (by first | exact Free.wanted_of rfl rfl rfl | rfl) rfl
            · intro s w' hB
              have hB : w' = wr.drew := hB
              subst hB
              exact Hk.exec_mid 106 (.tmp 23) rfl bb (ob + k * 2) rfl _ _ HC.out.2 Tryz.underlying106 rfl HIC.out
            simp only [Act.put, List.setIfInBounds_toArray, List.set_cons_succ, List.set_cons_zero]
            apply Fre3.chain_still (by first | exact Free.wanted_of rfl rfl rfl | rfl) rfl
            · intro s w' hB
              exact neq_pair rfl rfl rfl HPF.out
            simp only [Act.put, List.setIfInBounds_toArray, List.set_cons_succ, List.set_cons_zero]
            apply Fre3.chain_nil
            intro wz hB
            have hB : wz = wr.drew := hB
            subst hB
            simp only [List.drop_succ_cons, List.drop_zero]
            go_wp2_with fail
            exact HF.out
      · have hki : ¬ (k : Int) < (a.length : Int) := by omega
        have hF := FIN.out wr true (decide_eq_true (by
          have h1 := ht
          rw [List.take_of_length_le (by omega), List.take_of_length_le (by omega)] at h1
          exact h1)).symm hbw
        have HF := Lib.hid hF
        clear hF ht hbw
        go_wp2_with fail
        exact HF.out
  · have hli : ¬ (a.length : Int) = (b.length : Int) := by omega
    have HF := Lib.hid (FIN.out W false (decide_eq_false (fun e => hl (by rw [e]))).symm (Below.refl _ _))
    go_wp2_with fail
    exact HF.out
end Go.Proofs.YtekfoaenomgjgaaGreatDoor

namespace Go.Proofs.YtekfoaenomgjgaaGreatDoor
open Go.RowKit Go.W32 Go.Blk Go.Cs Go.Lib Go.Opn Go.Mg

/-- The lists of a patch are not too long. -/
structure PatSz (p : Pat) : Prop where
  cl : p.cl.length ≤ 4611686018427387903
  st : p.new.start.length ≤ 4611686018427387903
theorem pat_new {p : Pat} {h : Hd} {j : Nat} {v : Value} (hj : (encCls p.new (stV p h))[j]? = some v) : (encPat p h)[2 + j]? = some v := by
  have : j < 16 := (List.getElem?_eq_some_iff.1 hj).1
  match j, this with
  | 0, _ | 1, _ | 2, _ | 3, _ | 4, _ | 5, _ | 6, _ | 7, _ | 8, _ | 9, _ | 10, _ | 11, _ | 12, _ | 13, _ | 14, _ | 15, _ => exact hj
theorem Pat.same_split (p q : Pat) : p.same q = (decide (p.kind = q.kind) && (decide (p.days = q.days) && (decide (p.cl = q.cl) && p.new.same q.new))) := by
  unfold Pat.same
  by_cases h1 : p.kind = q.kind <;> by_cases h2 : p.days = q.days <;> by_cases h3 : p.cl = q.cl <;> simp [h1, h2, h3]
theorem two_boxes (W : World) (T : TypeId) (cs ds : List Value) : Row ((W.alloc (.cells cs.toArray T)).alloc (.cells ds.toArray T)) W.heap.size T cs ∧ Row ((W.alloc (.cells cs.toArray T)).alloc (.cells ds.toArray T)) (W.heap.size + 1) T ds ∧ Below W.heap.size W ((W.alloc (.cells cs.toArray T)).alloc (.cells ds.toArray T)) := by
  have z1 : (W.alloc (.cells cs.toArray T)).heap.size = W.heap.size + 1 := by simp
  have hr1 : Row (W.alloc (.cells cs.toArray T)) W.heap.size T cs := Row.new _ _ _
  exact ⟨hr1.below ((Below.refl _ _).alloc (Nat.le_refl _) _) hr1.lt, by rw [← z1]; exact Row.new _ _ _, ((Below.refl _ _).alloc (Nat.le_refl _) _).alloc (by simp) _⟩
set_option maxRecDepth 100000 in
set_option maxHeartbeats 2000000 in
theorem sm_any (p q : Pat) (h g : Hd) (W : World) (hp : PatAt W p h) (hq : PatAt W q g) (hps : PatSz p) (hqs : PatSz q) :
    Calls Tryz.prog 49 #[.agg (encPat p h).toArray, .agg (encPat q g).toArray] W fun e w' => e = .returned (.bool (p.same q)) ∧ Below W.heap.size W w' := by
  obtain ⟨R, eR⟩ : ∃ R : Ending → World → Prop, R = fun e w' => e = .returned (.bool (p.same q)) ∧ Below W.heap.size W w' := ⟨_, rfl⟩
  rw [← eR]
  have FIN : Hid (∀ w' v, v = p.same q → Below W.heap.size W w' → R (.returned (.bool v)) w') := Lib.hid fun w' v h hb => by rw [eR, h]; exact ⟨rfl, hb⟩
  clear eR
  obtain ⟨cs, ecs⟩ : ∃ cs, cs = encPat p h := ⟨_, rfl⟩
  obtain ⟨ds, eds⟩ : ∃ ds, ds = encPat q g := ⟨_, rfl⟩
  obtain ⟨ks, eks⟩ : ∃ ks, ks = encCls p.new (stV p h) := ⟨_, rfl⟩
  obtain ⟨js, ejs⟩ : ∃ js, js = encCls q.new (stV q g) := ⟨_, rfl⟩
  have hk : ∀ j v, ks[j]? = some v → cs[2 + j]? = some v := fun j v hj => by rw [ecs]; rw [eks] at hj; exact pat_new hj
  have hj : ∀ j v, js[j]? = some v → ds[2 + j]? = some v := fun j v hj => by rw [eds]; rw [ejs] at hj; exact pat_new hj
  rw [← ecs, ← eds]
  obtain ⟨hr1, hr2, hbw⟩ := two_boxes W 47 cs ds
  have HIK : Hid ((Tryz.prog.info? 45).map (·.size) = some ks.length) := by show _ = _; rw [eks]; kernel_rfl
  have HIJ : Hid ((Tryz.prog.info? 45).map (·.size) = some js.length) := by show _ = _; rw [ejs]; kernel_rfl
  generalize eW : (W.alloc (.cells cs.toArray 47)).alloc (.cells ds.toArray 47) = W2 at *
  have EW := Lib.hid eW
  clear eW
  have c0 := hr1.at (show cs[0]? = some (.int .i64 p.kind) by rw [ecs]; rfl)
  have c1 := hr1.at (show cs[1]? = some (.slice h.A p.cl.length h.c) by rw [ecs]; rfl)
  have c18 := hr1.at (show cs[18]? = some (.int .i64 p.days) by rw [ecs]; rfl)
  have d0 := hr2.at (show ds[0]? = some (.int .i64 q.kind) by rw [eds]; rfl)
  have d1 := hr2.at (show ds[1]? = some (.slice g.A q.cl.length g.c) by rw [eds]; rfl)
  have d18 := hr2.at (show ds[18]? = some (.int .i64 q.days) by rw [eds]; rfl)
  have CI := Lib.hid (ints_any h.A h.c p.cl g.A g.c q.cl W2 (hp.cl.below hbw (Nat.le_refl _)) (hq.cl.below hbw (Nat.le_refl _)) hps.cl hqs.cl)
  have CC : Hid (∀ w', Below W2.heap.size W2 w' → Calls Tryz.prog 72 #[.agg ks.toArray, .agg js.toArray] w' fun e w'' => e = .returned (.bool (p.new.same q.new)) ∧ Below w'.heap.size w' w'') := Lib.hid fun w' hb => by
    rw [eks, ejs]
    have hb2 := hbw.trans (hb.mono hbw.size)
    exact sc_any p.new q.new h.B h.d g.B g.d w' (hp.st.below hb2 (Nat.le_refl _)) (hq.st.below hb2 (Nat.le_refl _)) hps.st hqs.st
  have CR : Hid (∀ w', Below W2.heap.size W2 w' → w'.rangeAt W.heap.size 2 ks ∧ w'.rangeAt (W.heap.size + 1) 2 js) := Lib.hid fun w' hb => ⟨(hr1.below hb hr1.lt).range hk, (hr2.below hb hr2.lt).range hj⟩
  have HBW := Lib.hid hbw
  clear hr1 hr2 hbw hk hj ecs eds eks ejs hp hq hps hqs
  by_cases h1 : p.kind = q.kind
  rotate_left
  · have HF := Lib.hid (FIN.out W2 false (by rw [Pat.same_split, decide_eq_false h1]; rfl) HBW.out)
    go_enter Tryz.func49, Tryz.ntmps49
    go_wp2_with (simp only [EW.out])
    exact HF.out
  by_cases h2 : p.days = q.days
  rotate_left
  · have HF := Lib.hid (FIN.out W2 false (by rw [Pat.same_split, decide_eq_false h2, Bool.false_and, Bool.and_false]) HBW.out)
    go_enter Tryz.func49, Tryz.ntmps49
    go_wp2_with (simp only [EW.out])
    exact HF.out
  have SPL : Hid (p.same q = (decide (p.cl = q.cl) && p.new.same q.new)) := Lib.hid (by rw [Pat.same_split, decide_eq_true h1, decide_eq_true h2, Bool.true_and, Bool.true_and])
  obtain ⟨v1, ev1⟩ : ∃ v1, v1 = decide (p.cl = q.cl) := ⟨_, rfl⟩
  obtain ⟨v2, ev2⟩ : ∃ v2, v2 = p.new.same q.new := ⟨_, rfl⟩
  rw [← ev1] at CI SPL
  rw [← ev2] at CC SPL
  clear ev1 ev2
  go_enter Tryz.func49, Tryz.ntmps49
  go_wp2_with (simp only [EW.out])
  refine CI.out.mono ?_
  rintro e w3 ⟨rfl, hb3⟩
  have HB3 := Lib.hid (HBW.out.trans (hb3.mono HBW.out.size))
  have C3 := Lib.hid (CC.out w3 hb3)
  have R3 := Lib.hid (CR.out w3 hb3)
  clear hb3 CI CC CR
  cases v1 with
  | false =>
    have HF := Lib.hid (FIN.out w3 false (by rw [SPL.out]; rfl) HB3.out)
    go_wp2_with fail
    exact HF.out
  | true =>
    go_wp2_with (first
      | (refine at_load (.tmp 25) ?_; refine Row.still (by first | exact Free.wanted_of rfl rfl rfl | rfl) (Hk.exec_mid 45 (.tmp 25) rfl W.heap.size 2 rfl ks _ R3.out.1 Tryz.underlying45 rfl HIK.out) ?_; simp only [Act.put, List.setIfInBounds_toArray, List.set_cons_succ, List.set_cons_zero])
      | (refine at_load (.tmp 27) ?_; refine Row.still (by first | exact Free.wanted_of rfl rfl rfl | rfl) (Hk.exec_mid 45 (.tmp 27) rfl (W.heap.size + 1) 2 rfl js _ R3.out.2 Tryz.underlying45 rfl HIJ.out) ?_; simp only [Act.put, List.setIfInBounds_toArray, List.set_cons_succ, List.set_cons_zero]))
    refine C3.out.mono ?_
    rintro e w4 ⟨rfl, hb4⟩
    have HF := Lib.hid (FIN.out w4 v2 (by rw [SPL.out]; rfl) (HB3.out.trans (hb4.mono HB3.out.size)))
    clear hb4 C3 R3
    go_wp2_with fail
    exact HF.out
end Go.Proofs.YtekfoaenomgjgaaGreatDoor

namespace Go.Proofs.YtekfoaenomgjgaaGreatDoor
open Go.RowKit Go.W32 Go.Blk Go.Cs Go.Lib Go.Opn Go.Mg

def amSame (x y : Pr × Hd) : Bool := decide (x.1.x.number = y.1.x.number) && (decide (x.1.x.day = y.1.x.day) && (decide (x.1.known = y.1.known) && x.1.x.patch.same y.1.x.patch))
theorem am_pat {x : Pr × Hd} {j : Nat} {v : Value} (hj : (encPat x.1.x.patch x.2)[j]? = some v) : (encAm x)[3 + j]? = some v := by
  unfold encAm
  rw [List.getElem?_append_right (by simp)]
  simpa using hj
theorem sl_range {α : Type} {ec : α → List Value} {sz : Nat} {w : World} {b off k : Nat} {l : List α} {x : α} (h : SL w sz ec (some ⟨b, off, none⟩) l) (hk : l[k]? = some x) : w.rangeAt b (off + k * sz) (ec x) := fun j v hj => by
  obtain ⟨b', o', e, hc⟩ := h.at_ hk
  injection e with e
  injection e with e1 e2
  subst e1 e2
  have := hc j v hj
  rw [← Nat.add_assoc] at this
  exact this
/-- An amendment that lies in memory. -/
structure AmAt (w : World) (x : Pr × Hd) : Prop where
  pat : PatAt w x.1.x.patch x.2
  sz : PatSz x.1.x.patch
theorem AmAt.below {w w' : World} {x : Pr × Hd} {B : Nat} (h : AmAt w x) (hb : Below B w w') (hB : w.heap.size ≤ B) : AmAt w' x := ⟨h.pat.below hb hB, h.sz⟩
set_option maxRecDepth 100000 in
set_option maxHeartbeats 2000000 in
theorem sa_any (x y : Pr × Hd) (W : World) (hx : AmAt W x) (hy : AmAt W y) :
    Calls Tryz.prog 73 #[.agg (encAm x).toArray, .agg (encAm y).toArray] W fun e w' => e = .returned (.bool (amSame x y)) ∧ Below W.heap.size W w' := by
  obtain ⟨R, eR⟩ : ∃ R : Ending → World → Prop, R = fun e w' => e = .returned (.bool (amSame x y)) ∧ Below W.heap.size W w' := ⟨_, rfl⟩
  rw [← eR]
  have FIN : Hid (∀ w' v, v = amSame x y → Below W.heap.size W w' → R (.returned (.bool v)) w') := Lib.hid fun w' v h hb => by rw [eR, h]; exact ⟨rfl, hb⟩
  clear eR
  obtain ⟨cs, ecs⟩ : ∃ cs, cs = encAm x := ⟨_, rfl⟩
  obtain ⟨ds, eds⟩ : ∃ ds, ds = encAm y := ⟨_, rfl⟩
  obtain ⟨ks, eks⟩ : ∃ ks, ks = encPat x.1.x.patch x.2 := ⟨_, rfl⟩
  obtain ⟨js, ejs⟩ : ∃ js, js = encPat y.1.x.patch y.2 := ⟨_, rfl⟩
  have hk : ∀ j v, ks[j]? = some v → cs[3 + j]? = some v := fun j v hj => by rw [ecs]; rw [eks] at hj; exact am_pat hj
  have hj : ∀ j v, js[j]? = some v → ds[3 + j]? = some v := fun j v hj => by rw [eds]; rw [ejs] at hj; exact am_pat hj
  rw [← ecs, ← eds]
  obtain ⟨hr1, hr2, hbw⟩ := two_boxes W 62 cs ds
  have HIK : Hid ((Tryz.prog.info? 47).map (·.size) = some ks.length) := by show _ = _; rw [eks]; kernel_rfl
  have HIJ : Hid ((Tryz.prog.info? 47).map (·.size) = some js.length) := by show _ = _; rw [ejs]; kernel_rfl
  generalize eW : (W.alloc (.cells cs.toArray 62)).alloc (.cells ds.toArray 62) = W2 at *
  have EW := Lib.hid eW
  clear eW
  have c0 := hr1.at (show cs[0]? = some (.int .i64 x.1.x.number) by rw [ecs]; rfl)
  have c1 := hr1.at (show cs[1]? = some (.int .i64 x.1.x.day) by rw [ecs]; rfl)
  have c2 := hr1.at (show cs[2]? = some (.int .i64 x.1.known) by rw [ecs]; rfl)
  have d0 := hr2.at (show ds[0]? = some (.int .i64 y.1.x.number) by rw [eds]; rfl)
  have d1 := hr2.at (show ds[1]? = some (.int .i64 y.1.x.day) by rw [eds]; rfl)
  have d2 := hr2.at (show ds[2]? = some (.int .i64 y.1.known) by rw [eds]; rfl)
  have CC : Hid (Calls Tryz.prog 49 #[.agg ks.toArray, .agg js.toArray] W2 fun e w'' => e = .returned (.bool (x.1.x.patch.same y.1.x.patch)) ∧ Below W2.heap.size W2 w'') := Lib.hid (by
    rw [eks, ejs]
    have h1 := hx.below hbw (Nat.le_refl _)
    have h2 := hy.below hbw (Nat.le_refl _)
    exact sm_any _ _ _ _ W2 h1.pat h2.pat h1.sz h2.sz)
  have HC1 : Hid (W2.rangeAt W.heap.size 3 ks) := Lib.hid (hr1.range hk)
  have HC2 : Hid (W2.rangeAt (W.heap.size + 1) 3 js) := Lib.hid (hr2.range hj)
  have HBW := Lib.hid hbw
  clear hr1 hr2 hbw hk hj ecs eds eks ejs hx hy
  by_cases h1 : x.1.x.number = y.1.x.number
  rotate_left
  · have HF := Lib.hid (FIN.out W2 false (by unfold amSame; rw [decide_eq_false h1]; rfl) HBW.out)
    go_enter Tryz.func73, Tryz.ntmps73
    go_wp2_with (simp only [EW.out])
    exact HF.out
  by_cases h2 : x.1.x.day = y.1.x.day
  rotate_left
  · have HF := Lib.hid (FIN.out W2 false (by unfold amSame; rw [decide_eq_false h2, Bool.false_and, Bool.and_false]) HBW.out)
    go_enter Tryz.func73, Tryz.ntmps73
    go_wp2_with (simp only [EW.out])
    exact HF.out
  by_cases h3 : x.1.known = y.1.known
  rotate_left
  · have HF := Lib.hid (FIN.out W2 false (by unfold amSame; rw [decide_eq_false h3, Bool.false_and, Bool.and_false, Bool.and_false]) HBW.out)
    go_enter Tryz.func73, Tryz.ntmps73
    go_wp2_with (simp only [EW.out])
    exact HF.out
  obtain ⟨v2, ev2⟩ : ∃ v2, v2 = x.1.x.patch.same y.1.x.patch := ⟨_, rfl⟩
  have SPL : Hid (amSame x y = v2) := Lib.hid (by unfold amSame; rw [decide_eq_true h1, decide_eq_true h2, decide_eq_true h3, ev2]; rfl)
  rw [← ev2] at CC
  clear ev2
  go_enter Tryz.func73, Tryz.ntmps73
  go_wp2_with (first
    | (simp only [EW.out])
    | (refine at_load (.tmp 25) ?_; refine Row.still (by first | exact Free.wanted_of rfl rfl rfl | rfl) (Hk.exec_mid 47 (.tmp 25) rfl W.heap.size 3 rfl ks _ HC1.out Tryz.underlying47 rfl HIK.out) ?_; simp only [Act.put, List.setIfInBounds_toArray, List.set_cons_succ, List.set_cons_zero])
    | (refine at_load (.tmp 27) ?_; refine Row.still (by first | exact Free.wanted_of rfl rfl rfl | rfl) (Hk.exec_mid 47 (.tmp 27) rfl (W.heap.size + 1) 3 rfl js _ HC2.out Tryz.underlying47 rfl HIJ.out) ?_; simp only [Act.put, List.setIfInBounds_toArray, List.set_cons_succ, List.set_cons_zero]))
  refine CC.out.mono ?_
  rintro e w4 ⟨rfl, hb4⟩
  have HF := Lib.hid (FIN.out w4 v2 SPL.out.symm (HBW.out.trans (hb4.mono HBW.out.size)))
  clear hb4 CC
  go_wp2_with fail
  exact HF.out
/-- Two lists of amendments that are the same one by one. -/
def amsSame (us bs : List (Pr × Hd)) : Bool := decide (us.length = bs.length) && (us.zip bs).all fun p => amSame p.1 p.2
theorem zip_more {us bs : List (Pr × Hd)} {k : Nat} {x y : Pr × Hd} (ha : us[k]? = some x) (hb : bs[k]? = some y) : (us.zip bs).take (k + 1) = (us.zip bs).take k ++ [(x, y)] := by
  have h : (us.zip bs)[k]? = some (x, y) := by rw [List.getElem?_zip_eq_some]; exact ⟨ha, hb⟩
  rw [List.take_add_one, h]; rfl
set_option maxRecDepth 100000 in
set_option maxHeartbeats 2000000 in
theorem sas_any (A : Option Addr) (c : Nat) (us : List (Pr × Hd)) (B : Option Addr) (d : Nat) (bs : List (Pr × Hd)) (W : World) (ha : SL W 22 encAm A us) (hb : SL W 22 encAm B bs) (hn : us.length ≤ 4611686018427387903) (hm : bs.length ≤ 4611686018427387903) (hia : ∀ x ∈ us, AmAt W x) (hib : ∀ x ∈ bs, AmAt W x) :
    Calls Tryz.prog 39 #[.slice A us.length c, .slice B bs.length d] W fun e w' => e = .returned (.bool (amsSame us bs)) ∧ Below W.heap.size W w' := by
  obtain ⟨R, eR⟩ : ∃ R : Ending → World → Prop, R = fun e w' => e = .returned (.bool (amsSame us bs)) ∧ Below W.heap.size W w' := ⟨_, rfl⟩
  rw [← eR]
  have FIN : Hid (∀ w' v, v = amsSame us bs → Below W.heap.size W w' → R (.returned (.bool v)) w') := Lib.hid fun w' v h hb => by rw [eR, h]; exact ⟨rfl, hb⟩
  clear eR
  have HA := Lib.hid ha
  have HB := Lib.hid hb
  have HIA := Lib.hid hia
  have HIB := Lib.hid hib
  have HIP : Hid ((Tryz.prog.info? 62).map (·.size) = some 22) := by show _ = _; kernel_rfl
  clear ha hb hia hib
  go_enter Tryz.func39, Tryz.ntmps39
  by_cases hl : us.length = bs.length
  · have hli : (us.length : Int) = (bs.length : Int) := by omega
    go_wp2_with fail
    go_loopw [5] (fun v wr => ∃ k : Nat, v = .int .i64 (k : Int) ∧ k ≤ us.length ∧ ((us.zip bs).take k).all (fun p => amSame p.1 p.2) = true ∧ Below W.heap.size W wr) (fun v _ => (us.length : Int).toNat - (RowKit.intOf v).toNat)
    case atStart => exact ⟨0, rfl, Nat.zero_le _, rfl, Below.refl _ _⟩
    case round =>
      obtain ⟨k, rfl, hk, ht, hbw⟩ := hrel
      rcases Nat.lt_or_eq_of_le hk with hkl | hkl
      · have hki : (k : Int) < (us.length : Int) := by omega
        have hkj : (k : Int) < (bs.length : Int) := by omega
        obtain ⟨ba, oa, rfl⟩ := sl_addr HA.out (by rintro rfl; simp at hkl)
        obtain ⟨bb, ob, rfl⟩ := sl_addr HB.out (fun e => by have h := congrArg List.length e; rw [List.length_nil] at h; omega)
        obtain ⟨x, ex⟩ : ∃ x, us[k]? = some x := ⟨_, List.getElem?_eq_getElem hkl⟩
        obtain ⟨y, ey⟩ : ∃ y, bs[k]? = some y := ⟨_, List.getElem?_eq_getElem (by omega)⟩
        obtain ⟨cs, ecs⟩ : ∃ cs, cs = encAm x := ⟨_, rfl⟩
        obtain ⟨ds, eds⟩ : ∃ ds, ds = encAm y := ⟨_, rfl⟩
        obtain ⟨V, eV⟩ : ∃ V, V = amSame x y := ⟨_, rfl⟩
        have HC : Hid (∀ w', Below wr.heap.size wr w' → w'.rangeAt ba (oa + k * 22) cs ∧ w'.rangeAt bb (ob + k * 22) ds) := Lib.hid fun w' hb => by
          have h2 := hbw.trans (hb.mono hbw.size)
          exact ⟨by rw [ecs]; exact sl_range (HA.out.below h2 (Nat.le_refl _)) ex, by rw [eds]; exact sl_range (HB.out.below h2 (Nat.le_refl _)) ey⟩
        have HI1 : Hid ((Tryz.prog.info? 62).map (·.size) = some cs.length) := by show _ = _; rw [ecs]; exact HIP.out
        have HI2 : Hid ((Tryz.prog.info? 62).map (·.size) = some ds.length) := by show _ = _; rw [eds]; exact HIP.out
        have CV : Hid (∀ w', Below wr.heap.size wr w' → Calls Tryz.prog 73 #[.agg cs.toArray, .agg ds.toArray] w' fun e w'' => e = .returned (.bool V) ∧ Below w'.heap.size w' w'') := Lib.hid fun w' hb => by
          have h2 := hbw.trans (hb.mono hbw.size)
          rw [ecs, eds, eV]
          exact sa_any x y w' ((HIA.out x (List.mem_of_getElem? ex)).below h2 (Nat.le_refl _)) ((HIB.out y (List.mem_of_getElem? ey)).below h2 (Nat.le_refl _))
        have HT := Lib.hid ht
        have EX := Lib.hid ex
        have EY := Lib.hid ey
        have EV := Lib.hid eV
        have HBX := Lib.hid hbw
        clear ht ex ey hbw hk ecs eds eV
        cases V with
        | true =>
          go_wp2_with fail
          refine Free.wp_region_free 10 [(8, .det (.bool true))] (fun w2 => Below wr.heap.size wr w2) (by kernel_rfl) (by kernel_rfl) (Free.mono_det (fun j mk r hf => by simp only [Free.find] at hf; repeat' (first | cases hf | split at hf))) (Below.refl _ _).drew (fun _ _ h g => h.trans (Below.mono g h.size)) ?_
          simp only [List.take_succ_cons, List.take_zero]
          iterate 3 (apply Free.chain_still (by first | exact Free.wanted_of rfl rfl rfl | rfl) rfl; (intro w' hB hA; obtain qB := hB; clear hA ; go_light; go_simp <;> rfl); (try simp only [Act.put, List.setIfInBounds_toArray, List.set_cons_succ, List.set_cons_zero]))
          apply Free.chain_still (by first | exact Free.wanted_of rfl rfl rfl | rfl) rfl
          · intro w' hB hA
            exact Hk.exec_mid 62 (.tmp 19) rfl ba (oa + k * 22) rfl cs _ (HC.out _ hB).1 Tryz.underlying62 rfl HI1.out
          simp only [Act.put, List.setIfInBounds_toArray, List.set_cons_succ, List.set_cons_zero]
          iterate 3 (apply Free.chain_still (by first | exact Free.wanted_of rfl rfl rfl | rfl) rfl; (intro w' hB hA; obtain qB := hB; clear hA ; go_light; go_simp <;> rfl); (try simp only [Act.put, List.setIfInBounds_toArray, List.set_cons_succ, List.set_cons_zero]))
          apply Free.chain_still (by first | exact Free.wanted_of rfl rfl rfl | rfl) rfl
          · intro w' hB hA
            exact Hk.exec_mid 62 (.tmp 23) rfl bb (ob + k * 22) rfl ds _ (HC.out _ hB).2 Tryz.underlying62 rfl HI2.out
          simp only [Act.put, List.setIfInBounds_toArray, List.set_cons_succ, List.set_cons_zero]
          apply Free.chain_det (by first | exact Free.wanted_of rfl rfl rfl | rfl) rfl
          · intro w' hB hA
            refine Free.opRun_call (f := 73) (args := #[.agg cs.toArray, .agg ds.toArray]) (by clear hB hA; go_simp <;> rfl) ?_
            refine (CV.out w' hB).mono ?_
            rintro e w3 ⟨rfl, hb3⟩
            exact ⟨_, rfl, hb3, rfl⟩
          simp only [Act.put, List.setIfInBounds_toArray, List.set_cons_succ, List.set_cons_zero]
          iterate 1 (apply Free.chain_still (by first | exact Free.wanted_of rfl rfl rfl | rfl) rfl; (intro w' hB hA; obtain qB := hB; clear hA ; go_light; go_simp <;> rfl); (try simp only [Act.put, List.setIfInBounds_toArray, List.set_cons_succ, List.set_cons_zero]))
          apply Free.chain_nil
          intro w6 hw6 _ _
          simp only [List.drop_succ_cons, List.drop_zero]
          have HB6 := Lib.hid (HBX.out.trans (hw6.mono HBX.out.size))
          clear hw6 HC CV
          go_wp2_with fail
          go_roundw
          case rel => exact ⟨k + 1, rfl, hkl, by rw [zip_more EX.out EY.out, List.all_append, HT.out]; simp [← EV.out], HB6.out⟩
          case measure => simp [RowKit.intOf]; omega
        | false =>
          go_wp2_with fail
          refine Free.wp_region_free 10 [(8, .det (.bool false))] (fun w2 => Below wr.heap.size wr w2) (by kernel_rfl) (by kernel_rfl) (Free.mono_det (fun j mk r hf => by simp only [Free.find] at hf; repeat' (first | cases hf | split at hf))) (Below.refl _ _).drew (fun _ _ h g => h.trans (Below.mono g h.size)) ?_
          simp only [List.take_succ_cons, List.take_zero]
          iterate 3 (apply Free.chain_still (by first | exact Free.wanted_of rfl rfl rfl | rfl) rfl; (intro w' hB hA; obtain qB := hB; clear hA ; go_light; go_simp <;> rfl); (try simp only [Act.put, List.setIfInBounds_toArray, List.set_cons_succ, List.set_cons_zero]))
          apply Free.chain_still (by first | exact Free.wanted_of rfl rfl rfl | rfl) rfl
          · intro w' hB hA
            exact Hk.exec_mid 62 (.tmp 19) rfl ba (oa + k * 22) rfl cs _ (HC.out _ hB).1 Tryz.underlying62 rfl HI1.out
          simp only [Act.put, List.setIfInBounds_toArray, List.set_cons_succ, List.set_cons_zero]
          iterate 3 (apply Free.chain_still (by first | exact Free.wanted_of rfl rfl rfl | rfl) rfl; (intro w' hB hA; obtain qB := hB; clear hA ; go_light; go_simp <;> rfl); (try simp only [Act.put, List.setIfInBounds_toArray, List.set_cons_succ, List.set_cons_zero]))
          apply Free.chain_still (by first | exact Free.wanted_of rfl rfl rfl | rfl) rfl
          · intro w' hB hA
            exact Hk.exec_mid 62 (.tmp 23) rfl bb (ob + k * 22) rfl ds _ (HC.out _ hB).2 Tryz.underlying62 rfl HI2.out
          simp only [Act.put, List.setIfInBounds_toArray, List.set_cons_succ, List.set_cons_zero]
          apply Free.chain_det (by first | exact Free.wanted_of rfl rfl rfl | rfl) rfl
          · intro w' hB hA
            refine Free.opRun_call (f := 73) (args := #[.agg cs.toArray, .agg ds.toArray]) (by clear hB hA; go_simp <;> rfl) ?_
            refine (CV.out w' hB).mono ?_
            rintro e w3 ⟨rfl, hb3⟩
            exact ⟨_, rfl, hb3, rfl⟩
          simp only [Act.put, List.setIfInBounds_toArray, List.set_cons_succ, List.set_cons_zero]
          iterate 1 (apply Free.chain_still (by first | exact Free.wanted_of rfl rfl rfl | rfl) rfl; (intro w' hB hA; obtain qB := hB; clear hA ; go_light; go_simp <;> rfl); (try simp only [Act.put, List.setIfInBounds_toArray, List.set_cons_succ, List.set_cons_zero]))
          apply Free.chain_nil
          intro w6 hw6 _ _
          simp only [List.drop_succ_cons, List.drop_zero]
          have HB6 := Lib.hid (HBX.out.trans (hw6.mono HBX.out.size))
          clear hw6 HC CV
          have HF := Lib.hid (FIN.out w6 false (by
            have h1 : (us.zip bs).all (fun p => amSame p.1 p.2) = false := by
              rw [List.all_eq_false]
              exact ⟨(x, y), List.mem_of_getElem? (by rw [List.getElem?_zip_eq_some]; exact ⟨EX.out, EY.out⟩ : (us.zip bs)[k]? = some (x, y)), by simp [← EV.out]⟩
            unfold amsSame; rw [h1, Bool.and_false]) HB6.out)
          go_wp2_with fail
          exact HF.out
      · have hki : ¬ (k : Int) < (us.length : Int) := by omega
        have hF := FIN.out wr true (by
          unfold amsSame
          rw [List.take_of_length_le (by rw [List.length_zip]; omega)] at ht
          rw [ht, decide_eq_true hl]; rfl) hbw
        have HF := Lib.hid hF
        clear hF ht hbw
        go_wp2_with fail
        exact HF.out
  · have hli : ¬ (us.length : Int) = (bs.length : Int) := by omega
    have HF := Lib.hid (FIN.out W false (by unfold amsSame; rw [decide_eq_false hl]; rfl) (Below.refl _ _))
    go_wp2_with fail
    exact HF.out
end Go.Proofs.YtekfoaenomgjgaaGreatDoor

namespace Go.Proofs.YtekfoaenomgjgaaGreatDoor
open Go.RowKit Go.W32 Go.Blk Go.Cs Go.Lib Go.Opn Go.Mg

def smallP (p : Pat) : Bool := decide (p.cl.length ≤ 500) && decide (p.new.start.length ≤ 20)
def smallR (r : Rl) : Bool := smallP r.1.patch && decide (r.1.sum.size ≤ 200)
def smallL (m : Nat) (l : List Rl) : Bool := decide (l.length ≤ m) && l.all smallR
set_option maxRecDepth 100000 in
set_option maxHeartbeats 1000000 in
theorem s4_any (p : Pat) (h : Hd) (W : World) : Calls Tryz.prog 24 #[.agg (encPat p h).toArray] W fun e w' => e = .returned (.bool (smallP p)) ∧ Below W.heap.size W w' := by
  obtain ⟨R, eR⟩ : ∃ R : Ending → World → Prop, R = fun e w' => e = .returned (.bool (smallP p)) ∧ Below W.heap.size W w' := ⟨_, rfl⟩
  rw [← eR]
  have FIN : Hid (∀ w' v, v = smallP p → Below W.heap.size W w' → R (.returned (.bool v)) w') := Lib.hid fun w' v h hb => by rw [eR, h]; exact ⟨rfl, hb⟩
  clear eR
  obtain ⟨cs, ecs⟩ : ∃ cs, cs = encPat p h := ⟨_, rfl⟩
  rw [← ecs]
  have hr : Row (W.alloc (.cells cs.toArray 47)) W.heap.size 47 cs := Row.new _ _ _
  have hb : Below W.heap.size W (W.alloc (.cells cs.toArray 47)) := (Below.refl _ _).alloc (Nat.le_refl _) _
  have c1 := hr.at (show cs[1]? = some (.slice h.A p.cl.length h.c) by rw [ecs]; rfl)
  have c6 := hr.at (show cs[6]? = some (.slice h.B p.new.start.length h.d) by rw [ecs]; rfl)
  generalize eW : W.alloc (.cells cs.toArray 47) = W2 at *
  have EW := Lib.hid eW
  have HB := Lib.hid hb
  clear hr hb ecs eW
  by_cases h1 : p.cl.length ≤ 500
  · have h1i : (p.cl.length : Int) ≤ 500 := by omega
    by_cases h2 : p.new.start.length ≤ 20
    · have h2i : (p.new.start.length : Int) ≤ 20 := by omega
      have HF := Lib.hid (FIN.out W2 true (by unfold smallP; rw [decide_eq_true h1, decide_eq_true h2]; rfl) HB.out)
      go_enter Tryz.func24, Tryz.ntmps24
      go_wp2_with (simp only [EW.out])
      exact HF.out
    · have h2i : ¬ (p.new.start.length : Int) ≤ 20 := by omega
      have HF := Lib.hid (FIN.out W2 false (by unfold smallP; rw [decide_eq_false h2, Bool.and_false]) HB.out)
      go_enter Tryz.func24, Tryz.ntmps24
      go_wp2_with (simp only [EW.out])
      exact HF.out
  · have h1i : ¬ (p.cl.length : Int) ≤ 500 := by omega
    have HF := Lib.hid (FIN.out W2 false (by unfold smallP; rw [decide_eq_false h1]; rfl) HB.out)
    go_enter Tryz.func24, Tryz.ntmps24
    go_wp2_with (simp only [EW.out])
    exact HF.out
theorem all_more {α : Type} {f : α → Bool} {l : List α} {k : Nat} {x : α} (hx : l[k]? = some x) (h : (l.take k).all f = true) (hf : f x = true) : (l.take (k + 1)).all f = true := by
  rw [List.take_add_one, hx, Option.toList_some, List.all_append, h]
  simp [hf]
theorem all_less {α : Type} {f : α → Bool} {l : List α} {k : Nat} {x : α} (hx : l[k]? = some x) (hf : f x = false) : l.all f = false := by
  rw [List.all_eq_false]
  exact ⟨x, List.mem_of_getElem? hx, by simp [hf]⟩
set_option maxRecDepth 100000 in
set_option maxHeartbeats 2000000 in
theorem sl_any (m : Nat) (A : Option Addr) (c : Nat) (l : List Rl) (W : World) (hl : SL W 25 encLet A l) (hn : l.length ≤ 9223372036854775807) (hm : m ≤ 1000) :
    Calls Tryz.prog 8 #[.slice A l.length c, .int .i64 (m : Int)] W fun e w' => e = .returned (.bool (smallL m l)) ∧ Below W.heap.size W w' := by
  obtain ⟨R, eR⟩ : ∃ R : Ending → World → Prop, R = fun e w' => e = .returned (.bool (smallL m l)) ∧ Below W.heap.size W w' := ⟨_, rfl⟩
  rw [← eR]
  have FIN : Hid (∀ w' v, v = smallL m l → Below W.heap.size W w' → R (.returned (.bool v)) w') := Lib.hid fun w' v h hb => by rw [eR, h]; exact ⟨rfl, hb⟩
  clear eR
  have HL := Lib.hid hl
  clear hl
  go_enter Tryz.func8, Tryz.ntmps8
  by_cases hmm : l.length ≤ m
  rotate_left
  · have hmi : ¬ (l.length : Int) ≤ (m : Int) := by omega
    have HF := Lib.hid (FIN.out W false (by unfold smallL; rw [decide_eq_false hmm]; rfl) (Below.refl _ _))
    go_wp2_with fail
    exact HF.out
  have hmi : (l.length : Int) ≤ (m : Int) := by omega
  go_wp2_with fail
  rw [show decide (m < l.length) = false from decide_eq_false (by omega)]
  go_loopw [5] (fun v wr => ∃ k : Nat, v = .int .i64 (k : Int) ∧ k ≤ l.length ∧ (l.take k).all smallR = true ∧ Below W.heap.size W wr) (fun v _ => (l.length : Int).toNat - (RowKit.intOf v).toNat)
  case atStart => exact ⟨0, rfl, Nat.zero_le _, rfl, Below.refl _ _⟩
  case round =>
    obtain ⟨k, rfl, hk, ht, hbw⟩ := hrel
    rcases Nat.lt_or_eq_of_le hk with hkl | hkl
    · have hki : (k : Int) < (l.length : Int) := by omega
      obtain ⟨ba, oa, rfl⟩ := sl_addr HL.out (by rintro rfl; simp at hkl)
      obtain ⟨r, er⟩ : ∃ x, l[k]? = some x := ⟨_, List.getElem?_eq_getElem hkl⟩
      have hrg := sl_range (HL.out.below hbw (Nat.le_refl _)) er
      obtain ⟨ps, eps⟩ : ∃ ps, ps = encPat r.1.patch r.2 := ⟨_, rfl⟩
      have HP : Hid (wr.rangeAt ba (oa + k * 25 + 5) ps) := Lib.hid fun j v hj => by
        have h := hrg (5 + j) v (by rw [eps] at hj; exact let_at hj)
        rw [← Nat.add_assoc] at h; exact h
      have HIP : Hid ((Tryz.prog.info? 47).map (·.size) = some ps.length) := by show _ = _; rw [eps]; kernel_rfl
      have CS := Lib.hid (s4_any r.1.patch r.2 wr)
      rw [← eps] at CS
      obtain ⟨V, eV⟩ : ∃ V, V = smallP r.1.patch := ⟨_, rfl⟩
      rw [← eV] at CS
      have HC : Hid (∀ w', Below wr.heap.size wr w' → w'.cell? ⟨ba, oa + k * 25 + 24, none⟩ = some (.string r.1.sum)) := Lib.hid fun w' hb => by
        have h := hrg 24 (.string r.1.sum) rfl
        have hl := World.block_lt_of_cell? _ _ h
        rw [hb.cell (p := ⟨ba, oa + k * 25 + 24, none⟩) hl]; exact h
      have HT := Lib.hid ht
      have ER := Lib.hid er
      have EV := Lib.hid eV
      have HBX := Lib.hid hbw
      clear ht er hrg hbw hk eps eV
      go_wp2_with (refine at_load (.tmp 19) ?_; refine wpList_load_mid rfl 47 (.tmp 19) rfl ba (oa + k * 25 + 5) rfl ps _ HP.out Tryz.underlying47 rfl HIP.out ?_)
      refine CS.out.mono ?_
      rintro e w5 ⟨rfl, hb5⟩
      have c24 := HC.out w5 hb5
      have HB5 := Lib.hid (HBX.out.trans (hb5.mono HBX.out.size))
      clear hb5 HC CS HP
      cases V with
      | false =>
        have HF := Lib.hid (FIN.out w5 false (by unfold smallL; rw [all_less ER.out (by unfold smallR; rw [← EV.out]; rfl), Bool.and_false]) HB5.out)
        go_wp2_with fail
        exact HF.out
      | true =>
        by_cases hs : r.1.sum.size ≤ 200
        · have hsi : (r.1.sum.size : Int) ≤ 200 := by omega
          go_wp2_with fail
          go_roundw
          case rel => exact ⟨k + 1, rfl, hkl, all_more ER.out HT.out (by unfold smallR; rw [← EV.out, decide_eq_true hs]; rfl), HB5.out⟩
          case measure => simp [RowKit.intOf]; omega
        · have hsi : ¬ (r.1.sum.size : Int) ≤ 200 := by omega
          have HF := Lib.hid (FIN.out w5 false (by unfold smallL; rw [all_less ER.out (by unfold smallR; rw [decide_eq_false hs, Bool.and_false]), Bool.and_false]) HB5.out)
          go_wp2_with fail
          exact HF.out
    · have hki : ¬ (k : Int) < (l.length : Int) := by omega
      have HF := Lib.hid (FIN.out wr true (by unfold smallL; rw [List.take_of_length_le (by omega)] at ht; rw [ht, decide_eq_true hmm]; rfl) hbw)
      clear ht hbw
      go_wp2_with fail
      exact HF.out
theorem info_let : (Tryz.prog.info? 49).map (fun i => (i.zero, i.size, i.bytes)) = some (some (.agg (encLet (⟨0, 0, 0, 0, 0, Pat.zero, ⟨#[]⟩⟩, ⟨none, 0, none, 0⟩)).toArray), 25, 232) := by kernel_rfl
end Go.Proofs.YtekfoaenomgjgaaGreatDoor

namespace Go.Proofs.YtekfoaenomgjgaaGreatDoor
open Go.RowKit Go.W32 Go.Blk Go.Cs Go.Lib Go.Opn Go.Mg

theorem waive_at {w : World} {g : Nat} {i : Int} (h : Row w g 3 [.int .i64 i]) : PatAt w (waiveP i) (hdW g) := by
  refine ⟨⟨fun _ => ⟨g, 0, rfl, fun j x hj p u hu => ?_⟩⟩, SL.nil⟩
  have hj0 : j = 0 := by have := (List.getElem?_eq_some_iff.1 hj).1; simp [waiveP] at this; omega
  subst hj0
  have hx : i = x := by simpa [waiveP] using hj
  subst hx
  have hp : p = 0 := by have := (List.getElem?_eq_some_iff.1 hu).1; simp [Cs.encI] at this; omega
  subst hp
  rw [← hu]
  exact h.at rfl
set_option maxRecDepth 100000 in
set_option maxHeartbeats 1000000 in
theorem wv_any (i : Int) (W : World) : Calls Tryz.prog 38 #[.int .i64 i] W fun e w' => ∃ g, e = .returned (.agg (encPat (waiveP i) (hdW g)).toArray) ∧ Row w' g 3 [.int .i64 i] ∧ Below W.heap.size W w' := by
  obtain ⟨ps, eps⟩ : ∃ ps, ps = encPat (waiveP i) (hdW (W.heap.size + 1)) := ⟨_, rfl⟩
  have hpl : ps.length = 19 := by rw [eps]; rfl
  have hp1 : ∀ v ∈ ps, v.oneCell' = true := by rw [eps]; exact encPat_one _ _
  have HIP : Hid ((Tryz.prog.info? 47).map (·.size) = some ps.length) := by show _ = _; rw [hpl]; kernel_rfl
  obtain ⟨zs, ezs⟩ : ∃ zs, zs = encPat Pat.zero hd0 := ⟨_, rfl⟩
  have ZS : Hid ((#[.int .i64 0, .slice none 0 0, .int .i64 0, .int .i64 0, .int .i64 0, .int .i64 0, .slice none 0 0, .int .i64 0, .int .i64 0, .bool false, .bool false, .int .i64 0, .int .i64 0, .int .i64 0, .int .i64 0, .int .i64 0, .int .i64 0, .bool false, .int .i64 0] : Array Value) = zs.toArray) := Lib.hid (by rw [ezs]; rfl)
  have PS : Hid ((#[.int .i64 3, .slice (some ⟨W.heap.size + 1, 0, none⟩) 1 1, .int .i64 0, .int .i64 0, .int .i64 0, .int .i64 0, .slice none 0 0, .int .i64 0, .int .i64 0, .bool false, .bool false, .int .i64 0, .int .i64 0, .int .i64 0, .int .i64 0, .int .i64 0, .int .i64 0, .bool false, .int .i64 0] : Array Value) = ps.toArray) := Lib.hid (by rw [eps]; rfl)
  obtain ⟨W1, e1⟩ : ∃ W1, W1 = W.alloc (.cells zs.toArray 47) := ⟨_, rfl⟩
  have z1 : W1.heap.size = W.heap.size + 1 := by rw [e1]; simp
  have hr1 : Row W1 W.heap.size 47 zs := by rw [e1]; exact Row.new _ _ _
  have hb1 : Below W.heap.size W W1 := by rw [e1]; exact (Below.refl _ _).alloc (Nat.le_refl _) _
  obtain ⟨W2, e2⟩ : ∃ W2, W2 = W1.alloc (.cells #[.int .i64 i] 3) := ⟨_, rfl⟩
  have hb2 : Below W1.heap.size W1 W2 := by rw [e2]; exact (Below.refl _ _).alloc (Nat.le_refl _) _
  have hr2 : Row W2 (W.heap.size + 1) 3 [.int .i64 i] := by rw [e2, ← z1]; exact Row.new W1 3 [.int .i64 i]
  have hr1' := hr1.below hb2 hr1.lt
  have HB2 := Lib.hid (hb1.trans (hb2.mono hb1.size))
  have HST : Hid (∀ (Q : Exit → Act → World → Prop) (ops : Array Oper) (rest : List Oper) (o : Oper) (a : Act), o.guard = none → o.op = .store 47 (.tmp 2) (.tmp 5) → a.eval (.tmp 2) = .pointer (some ⟨W.heap.size, 0, none⟩) → a.eval (.tmp 5) = .agg ps.toArray → (∀ w', Hid (Row w' W.heap.size 47 ps ∧ Row w' (W.heap.size + 1) 3 [.int .i64 i] ∧ Below W.heap.size W w') → wpList Tryz.prog ops Q rest (a.put o.dst undef) w') → wpList Tryz.prog ops Q (o :: rest) a W2) := Lib.hid (by
    intro Q ops rest o a hgd ho hx hy hk
    refine Hk.wpList_store_own hgd 47 (.tmp 2) (.tmp 5) ho W.heap.size hx ps hy zs 47 hr1' HIP.out (by rw [hpl, ezs]; rfl) hp1 ?_
    intro w' k1 k2 _
    exact hk w' (Lib.hid ⟨k1, hr2.keep (k2.block _ hr2.lt (fun e => by injection e with e; omega)), HB2.out.trans (below_grown k2 (fun g hg => by injection hg with e; omega) HB2.out.size)⟩))
  have E1 : Hid (W.alloc (.cells zs.toArray 47) = W1) := Lib.hid e1.symm
  have E2 : Hid (W1.alloc (.cells #[.int .i64 i] 3) = W2) := Lib.hid e2.symm
  have Z1 := Lib.hid z1
  have EPS := Lib.hid eps
  clear eps hpl hp1 ezs e1 z1 hr1 hb1 e2 hb2 hr2 hr1'
  go_enter Tryz.func38, Tryz.ntmps38
  go_wp2_with (first
    | (refine at_store (.tmp 2) ?_; rw [PS.out, ZS.out, E1.out]; rw [E2.out]; refine HST.out _ _ _ _ _ rfl rfl rfl rfl ?_; intro w9 H9; simp only [Act.put, List.setIfInBounds_toArray, List.set_cons_succ, List.set_cons_zero]))
  refine bodyPost_ret (v := .agg ps.toArray) (Hk.results_cell_row (fn := Tryz.f38) (p := 2) (ty := 47) rfl _ _ W.heap.size 47 ps.toArray (0, 0) _ rfl H9.out.1 Tryz.underlying47 rfl (by rw [HIP.out]; simp)) rfl ?_
  exact ⟨W.heap.size + 1, by rw [EPS.out], H9.out.2⟩
theorem fold_at (off : Nat) : ∀ (l : List Value) (k : Nat) (z : Array Value), off + k + l.length ≤ z.size → ((l.zipIdx k).foldl (fun (cs : Array Value) (x : Value × Nat) => cs.setIfInBounds (off + x.2) x.1) z).toList = z.toList.take (off + k) ++ l ++ z.toList.drop (off + k + l.length)
  | [], k, z, _ => by simp
  | x :: l, k, z, h => by
    rw [List.zipIdx_cons, List.foldl_cons]
    rw [List.length_cons] at h
    have hk : off + k < z.toList.length := by simp; omega
    rw [fold_at off l (k + 1) (z.setIfInBounds (off + k) x) (by simp; omega), Array.toList_setIfInBounds, show off + (k + 1) = off + k + 1 by omega, List.take_succ_eq_append_getElem (by simpa using hk), List.take_set_of_le (Nat.le_refl _), List.getElem_set_self, List.drop_set_of_lt (by omega), List.length_cons, List.append_assoc, List.append_assoc, List.append_assoc]
    rw [show off + k + 1 + l.length = off + k + (l.length + 1) by omega]
    rfl
theorem fill_step {size n off : Nat} {z : Array Value} {E : List Value} {rest : List (Nat × Value)} {k : Nat} (hE : E.length = size) (ho : off = k * size) (hz : off + size ≤ z.size) {z' : Array Value} (hz' : z'.toList = z.toList.take off ++ E ++ z.toList.drop (off + size)) :
    Instr.fill (fun i => some (i * size, size)) z ((k, .agg E.toArray) :: rest) = Instr.fill (fun i => some (i * size, size)) z' rest := by
  rw [Instr.fill]
  dsimp only
  rw [if_neg (by simp [Value.cells, hE]; omega)]
  have h := fold_at off E 0 z (by omega)
  rw [Nat.add_zero, hE] at h
  congr 1
  apply Array.ext'
  rw [hz', ← h, ← Array.foldl_toList, Array.toList_zipIdx, ho]
  rfl
theorem run_slice_three {P : Program} (w : World) (t e : TypeId) (i : TypeInfo) (z : Value) (ht : P.underlying t = some (.slice e)) (hi : P.info? e = some i) (hz : i.zero = some z) (A B C : List Value) (hA : A.length = i.size) (hB : B.length = i.size) (hC : C.length = i.size) (hs0 : 0 < i.size) (hs1 : i.size ≤ 1000) :
    (Instr.buildSlice t 3 #[(0, .agg A.toArray), (1, .agg B.toArray), (2, .agg C.toArray)]).run P w = .ok (.slice (some ⟨w.heap.size, 0, none⟩) 3 3) (w.alloc (.cells (A ++ B ++ C).toArray e)) := by
  refine run_buildSlice w t e 3 _ (A ++ B ++ C).toArray i z ht hi hz (by omega) (by omega) ?_
  have zs : ((Array.range (3 * i.size)).map (z.cells[· % z.cells.size]!)).size = 3 * i.size := by simp
  obtain ⟨Z, eZ⟩ : ∃ Z, Z = (Array.range (3 * i.size)).map (z.cells[· % z.cells.size]!) := ⟨_, rfl⟩
  rw [← eZ] at zs ⊢
  have zl : Z.toList.length = 3 * i.size := by simp [zs]
  show Instr.fill _ Z [(0, .agg A.toArray), (1, .agg B.toArray), (2, .agg C.toArray)] = _
  have h1 : (Z.toList.take 0 ++ A ++ Z.toList.drop (0 + i.size)).length = 3 * i.size := by simp [zl, hA]; omega
  rw [fill_step (n := 0) (off := 0) hA (by omega) (by omega) (z' := (Z.toList.take 0 ++ A ++ Z.toList.drop (0 + i.size)).toArray) (by simp)]
  have e2 : (A ++ B ++ Z.toList.drop (i.size + i.size)) = (Z.toList.take 0 ++ A ++ Z.toList.drop (0 + i.size)).take i.size ++ B ++ (Z.toList.take 0 ++ A ++ Z.toList.drop (0 + i.size)).drop (i.size + i.size) := by
    rw [List.take_zero, List.nil_append, Nat.zero_add, ← hA, List.take_left, List.drop_append, List.drop_drop]
    simp [Nat.add_comm]
  rw [fill_step (n := 0) (off := i.size) hB (by omega) (by simp [zl, hA]; omega) (z' := (A ++ B ++ Z.toList.drop (i.size + i.size)).toArray) (by simpa using e2)]
  have e3 : (A ++ B ++ C) = (A ++ B ++ Z.toList.drop (i.size + i.size)).take (2 * i.size) ++ C ++ (A ++ B ++ Z.toList.drop (i.size + i.size)).drop (2 * i.size + i.size) := by
    have hl : (A ++ B).length = 2 * i.size := by simp [hA, hB]; omega
    rw [← hl, List.take_left, List.drop_append, List.drop_of_length_le (by omega), List.nil_append, show (A ++ B).length + i.size - (A ++ B).length = i.size by omega, List.drop_drop, List.drop_of_length_le (by rw [zl]; omega), List.append_nil]
  rw [fill_step (n := 0) (off := 2 * i.size) hC (by omega) (by simp [zl, hA, hB]; omega) (z' := (A ++ B ++ C).toArray) (by simpa using e3)]
  rfl
end Go.Proofs.YtekfoaenomgjgaaGreatDoor

namespace Go.Proofs.YtekfoaenomgjgaaGreatDoor
open Go.RowKit Go.W32 Go.Blk Go.Cs Go.Lib Go.Opn Go.Mg

theorem at_bd {P : Program} {ops : Array Oper} {rest : List Oper} {a : Act} {Q : Exit → Act → World → Prop} (x : Operand) {t : TypeId} {p1 p2 p3 p4 : Nat × Operand} {n : Nat} {d : Option Tmp} {ty : TypeId} {ps : String} {af : Array Edge} {g : Option (Nat × Bool)} {w : World}
    (h : wpList P ops Q (⟨d, .build t #[p1, p2, p3, p4, (n, x)], ty, ps, af, g⟩ :: rest) a w) : wpList P ops Q (⟨d, .build t #[p1, p2, p3, p4, (n, x)], ty, ps, af, g⟩ :: rest) a w := h
theorem exec_prop {a : Act} {op : Oper} {w : World} {s d i : Int} {h : Hd} (x : Operand) (ho : op.op = .build 49 #[(0, .const (.int .i64 1)), (2, .const (.int .i64 1)), (3, .const (.int .i64 s)), (4, .const (.int .i64 d)), (5, x)]) (hx : a.eval x = .agg (encPat (waiveP i) h).toArray) :
    (execOp a.eval op).run Tryz.prog w = .ok (.value (.agg (encLet (propL s d i, h)).toArray)) w := by
  unfold execOp
  simp only [ho, hx, List.map_toArray, List.map_cons, List.map_nil]
  unfold encPat
  go_simp
  rfl
theorem exec_acc {a : Act} {op : Oper} {w : World} {D : ByteArray} (x : Operand) (ho : op.op = .build 49 #[(0, .const (.int .i64 2)), (1, .const (.int .i64 1)), (2, .const (.int .i64 1)), (3, .const (.int .i64 5)), (6, x)]) (hx : a.eval x = .string D) :
    (execOp a.eval op).run Tryz.prog w = .ok (.value (.agg (encLet (accL D, hd0)).toArray)) w := by
  unfold execOp
  simp only [ho, hx, List.map_toArray, List.map_cons, List.map_nil]
  go_simp
  rfl
theorem at_bs3 {P : Program} {ops : Array Oper} {rest : List Oper} {a : Act} {Q : Exit → Act → World → Prop} (x : Operand) {t : TypeId} {n : Nat} {y z : Operand} {d : Option Tmp} {ty : TypeId} {ps : String} {af : Array Edge} {g : Option (Nat × Bool)} {w : World}
    (h : wpList P ops Q (⟨d, .buildSlice t n #[(0, x), (1, y), (2, z)], ty, ps, af, g⟩ :: rest) a w) : wpList P ops Q (⟨d, .buildSlice t n #[(0, x), (1, y), (2, z)], ty, ps, af, g⟩ :: rest) a w := h
theorem exec_slice3 {P : Program} {o : Oper} {ρ : Operand → Value} {w w' : World} {t : TypeId} {x y z : Operand} {v : Value} (ho : o.op = .buildSlice t 3 #[(0, x), (1, y), (2, z)]) (h : (Instr.buildSlice t 3 #[(0, ρ x), (1, ρ y), (2, ρ z)]).run P w = .ok v w') : (execOp ρ o).run P w = .ok (.value v) w' := by
  unfold execOp
  simp [ho, h]
theorem waive_ok (i : Int) (h0 : 0 ≤ i) (h1 : i ≤ 1) : PatOk (waiveP i) := by
  refine ⟨fun n hn => ?_, by simp [waiveP], by simp [waiveP, Cls.zero]⟩
  simp [Pat.nums, waiveP, Cls.nums, Cls.zero, Cls.front, Cls.back, b2i] at hn
  unfold i64P
  omega
theorem zero_ok : PatOk Pat.zero := by
  refine ⟨fun n hn => ?_, by simp [Pat.zero], by simp [Pat.zero, Cls.zero]⟩
  simp [Pat.nums, Pat.zero, Cls.nums, Cls.zero, Cls.front, Cls.back, b2i] at hn
  unfold i64P
  omega
theorem prop_ok {s d i : Int} (hs : 0 ≤ s ∧ s ≤ 10) (hd : 0 ≤ d ∧ d ≤ 10) (h0 : 0 ≤ i) (h1 : i ≤ 1) : LetOk (propL s d i) :=
  ⟨by unfold i64P propL; simp; omega, waive_ok i h0 h1, by simp [propL]; exact Nat.zero_le _⟩
theorem acc_ok (x : Let) : LetOk (accL (DG x)) := ⟨by unfold i64P accL; simp, zero_ok, by have := DG_size x; show (DG x).size ≤ _; omega⟩
def A2Post (r : Rl) (W : World) (e : Ending) (w' : World) : Prop :=
  Below W.heap.size W w' ∧ ∃ (g : Nat) (A : Option Addr) (c : Nat) (am : List (Pr × Hd)), e = .returned (.slice A am.length c) ∧ SL w' 22 encAm A am ∧ (∀ x ∈ am, AmAt w' x) ∧ am.map Prod.fst = agreedF DG 2 [r, (accL (DG (propL 3 4 0)), hd0), (propL 3 4 0, hdW g)] ∧ am.length ≤ 4000
set_option maxRecDepth 100000 in
set_option maxHeartbeats 2000000 in
theorem a2_any (r : Rl) (W : World) (hT : HasT W) (hp : PatAt W r.1.patch r.2) (ho : LetOk r.1) : Calls Tryz.prog 40 #[.agg (encLet r).toArray] W (A2Post r W) := by
  obtain ⟨R, eR⟩ : ∃ R, R = A2Post r W := ⟨_, rfl⟩
  rw [← eR]
  have ER : Hid (∀ e w', A2Post r W e w' → R e w') := Lib.hid fun e w' h => by rw [eR]; exact h
  clear eR
  have HIL : Hid ((Tryz.prog.info? 49).map (·.size) = some 25) := by show _ = _; kernel_rfl
  obtain ⟨cs, ecs⟩ : ∃ cs, cs = encLet r := ⟨_, rfl⟩
  have hcl : cs.length = 25 := by rw [ecs]; rfl
  rw [← ecs]
  obtain ⟨W1, e1⟩ : ∃ W1, W1 = W.alloc (.cells cs.toArray 49) := ⟨_, rfl⟩
  have hr1 : Row W1 W.heap.size 49 cs := by rw [e1]; exact Row.new _ _ _
  have hb1 : Below W.heap.size W W1 := by rw [e1]; exact (Below.refl _ _).alloc (Nat.le_refl _) _
  have E1 : Hid (W.alloc (.cells cs.toArray 49) = W1) := Lib.hid e1.symm
  have CW := Lib.hid (wv_any 0 W1)
  have HT := Lib.hid hT
  have HP := Lib.hid hp
  have HO := Lib.hid ho
  have HR1 := Lib.hid hr1
  have HB1 := Lib.hid hb1
  have ECS := Lib.hid ecs
  have HCL := Lib.hid hcl
  clear e1 hT hp ho hr1 hb1 ecs hcl
  go_enter Tryz.func40, Tryz.ntmps40
  go_wp2_with (simp only [E1.out])
  refine CW.out.mono ?_
  rintro e w2 ⟨g, rfl, hg2, hb2⟩
  -- the proposal
  obtain ⟨xs, exs⟩ : ∃ xs, xs = encLet (propL 3 4 0, hdW g) := ⟨_, rfl⟩
  have hxl : xs.length = 25 := by rw [exs]; rfl
  have hx1 : ∀ v ∈ xs, v.oneCell' = true := by rw [exs]; exact encLet_one _
  obtain ⟨W3, e3⟩ : ∃ W3, W3 = w2.alloc (.cells xs.toArray 49) := ⟨_, rfl⟩
  have hr3 : Row W3 w2.heap.size 49 xs := by rw [e3]; exact Row.new _ _ _
  have hb3 : Below w2.heap.size w2 W3 := by rw [e3]; exact (Below.refl _ _).alloc (Nat.le_refl _) _
  have hbw2 := HB1.out.trans (hb2.mono HB1.out.size)
  have hbw3 := hbw2.trans (hb3.mono hbw2.size)
  have hg3 := hg2.below hb3 hg2.lt
  have hc3 := (HR1.out.below hb2 HR1.out.lt)
  have hc3' := hc3.below hb3 hc3.lt
  have CD := Lib.hid (dg_any (propL 3 4 0, hdW g) W3 (HT.out.below hbw3 (Nat.le_refl _)) (waive_at hg3) (prop_ok (by decide) (by decide) (by decide) (by decide)))
  rw [← exs] at CD
  have HIX : Hid ((Tryz.prog.info? 49).map (·.size) = some xs.length) := by show _ = _; rw [hxl]; exact HIL.out
  have HM3 : Hid (W3.rangeAt w2.heap.size 0 xs) := Lib.hid (hr3.range (fun j v hj => by rw [Nat.zero_add]; exact hj))
  have HEX : Hid (∀ {a : Act} {op : Oper} {w : World}, op.op = .build 49 #[(0, .const (.int .i64 1)), (2, .const (.int .i64 1)), (3, .const (.int .i64 3)), (4, .const (.int .i64 4)), (5, .tmp 5)] → a.eval (.tmp 5) = .agg (encPat (waiveP 0) (hdW g)).toArray → (execOp a.eval op).run Tryz.prog w = .ok (.value (.agg xs.toArray)) w) := Lib.hid fun ho hx => by rw [exs]; exact exec_prop (.tmp 5) ho hx
  have HST3 : Hid (∀ (Q : Exit → Act → World → Prop) (ops : Array Oper) (rest : List Oper) (o : Oper) (a : Act), o.guard = none → o.op = .store 49 (.tmp 3) (.tmp 6) → a.eval (.tmp 3) = .pointer (some ⟨w2.heap.size, 0, none⟩) → a.eval (.tmp 6) = .agg xs.toArray → ∀ old : Array Value, old.size = 25 → wpList Tryz.prog ops Q rest (a.put o.dst undef) W3 → wpList Tryz.prog ops Q (o :: rest) a (w2.alloc (.cells old 49))) := Lib.hid (by
    intro Q ops rest o a hgd ho hx hy old hold hk
    rw [e3] at hk
    exact Hk.wpList_store_fresh hgd 49 (.tmp 3) (.tmp 6) ho w2.heap.size _ hx hy old 49 rfl (by rw [HIL.out]; simp [hxl]) (by rw [hold]; simp [hxl]) (all_oneCell_toArray hx1) hk)
  obtain ⟨pw, epw⟩ : ∃ pw, pw = encPat (waiveP 0) (hdW g) := ⟨_, rfl⟩
  rw [← epw] at HEX ⊢
  have HR3 := Lib.hid hr3
  have HG3 := Lib.hid hg3
  have HC3 := Lib.hid hc3'
  have HBW3 := Lib.hid hbw3
  have EXS := Lib.hid exs
  have HXL := Lib.hid hxl
  clear hg2 hb2 exs hxl hx1 e3 hr3 hb3 hbw2 hbw3 hg3 hc3 hc3' epw CW HB1 HR1
  go_wp2_with (first
    | (refine at_bd (.tmp 5) ?_; refine Row.still rfl (HEX.out rfl rfl) ?_; simp only [Act.put, List.setIfInBounds_toArray, List.set_cons_succ, List.set_cons_zero])
    | (refine at_store (.tmp 3) ?_; refine HST3.out _ _ _ _ _ rfl rfl rfl rfl _ (by simp) ?_; simp only [Act.put, List.setIfInBounds_toArray, List.set_cons_succ, List.set_cons_zero])
    | (refine at_load (.tmp 3) ?_; refine wpList_load_mid rfl 49 (.tmp 3) rfl w2.heap.size 0 rfl xs _ HM3.out Tryz.underlying49 rfl HIX.out ?_))
  refine CD.out.mono ?_
  rintro e w4 ⟨rfl, hb4⟩
  -- the acceptance
  obtain ⟨D, eD⟩ : ∃ D, D = DG (propL 3 4 0) := ⟨_, rfl⟩
  rw [← eD]
  obtain ⟨ys, eys⟩ : ∃ ys, ys = encLet (accL D, hd0) := ⟨_, rfl⟩
  have hyl : ys.length = 25 := by rw [eys]; rfl
  have hy1 : ∀ v ∈ ys, v.oneCell' = true := by rw [eys]; exact encLet_one _
  obtain ⟨W5, e5⟩ : ∃ W5, W5 = w4.alloc (.cells ys.toArray 49) := ⟨_, rfl⟩
  have hr5 : Row W5 w4.heap.size 49 ys := by rw [e5]; exact Row.new _ _ _
  have hb5 : Below w4.heap.size w4 W5 := by rw [e5]; exact (Below.refl _ _).alloc (Nat.le_refl _) _
  have hb35 : Below W3.heap.size W3 W5 := hb4.trans (hb5.mono hb4.size)
  have hbw5 := HBW3.out.trans (hb35.mono HBW3.out.size)
  have hc5 := HC3.out.below hb35 HC3.out.lt
  have hx5 := HR3.out.below hb35 HR3.out.lt
  have hg5 := HG3.out.below hb35 HG3.out.lt
  obtain ⟨i1, hi1, hz1, hs1, _⟩ := info_of info_let
  obtain ⟨W6, e6⟩ : ∃ W6, W6 = W5.alloc (.cells (cs ++ ys ++ xs).toArray 49) := ⟨_, rfl⟩
  have hb6 : Below W5.heap.size W5 W6 := by rw [e6]; exact (Below.refl _ _).alloc (Nat.le_refl _) _
  have hr6 : Row W6 W5.heap.size 49 (cs ++ ys ++ xs) := by rw [e6]; exact Row.new _ _ _
  have hbw6 := hbw5.trans (hb6.mono hbw5.size)
  have HBS : Hid ((Instr.buildSlice 28 3 #[(0, .agg cs.toArray), (1, .agg ys.toArray), (2, .agg xs.toArray)]).run Tryz.prog W5 = .ok (.slice (some ⟨W5.heap.size, 0, none⟩) 3 3) W6) := Lib.hid (by
    rw [e6]
    exact run_slice_three W5 28 49 i1 _ Tryz.underlying28 hi1 hz1 cs ys xs (by rw [HCL.out, hs1]) (by rw [hyl, hs1]) (by rw [HXL.out, hs1]) (by rw [hs1]; decide) (by rw [hs1]; decide))
  obtain ⟨l, el⟩ : ∃ l : List Rl, l = [r, (accL D, hd0), (propL 3 4 0, hdW g)] := ⟨_, rfl⟩
  have hll : l.length = 3 := by rw [el]; rfl
  have hlets : LetsAt W6 (some ⟨W5.heap.size, 0, none⟩) l := by
    refine ⟨?_, ?_, ?_⟩
    · refine Apl.sl_of_cells (fun _ => rfl) hr6 (fun j u hj => ?_)
      rw [el] at hj
      simp only [List.flatMap_cons, List.flatMap_nil, List.append_nil] at hj
      rw [← ECS.out, ← eys, ← EXS.out, ← List.append_assoc] at hj
      simpa using hj
    · intro q hq
      rw [el] at hq
      simp only [List.mem_cons, List.not_mem_nil, or_false] at hq
      rcases hq with rfl | rfl | rfl
      · exact HP.out.below hbw6 (Nat.le_refl _)
      · exact ⟨SL.nil, SL.nil⟩
      · exact waive_at (hg5.below hb6 hg5.lt)
    · intro q hq
      rw [el] at hq
      simp only [List.mem_cons, List.not_mem_nil, or_false] at hq
      rcases hq with rfl | rfl | rfl
      · exact HO.out
      · rw [eD]; exact acc_ok _
      · exact prop_ok (by decide) (by decide) (by decide) (by decide)
  have CA := Lib.hid (ag_any 2 (some ⟨W5.heap.size, 0, none⟩) 3 l W6 (HT.out.below hbw6 (Nat.le_refl _)) hlets (by rw [hll]; decide))
  rw [hll] at CA
  have HLK := Lib.hid hlets.ok
  have HIY : Hid ((Tryz.prog.info? 49).map (·.size) = some ys.length) := by show _ = _; rw [hyl]; exact HIL.out
  have HIC : Hid ((Tryz.prog.info? 49).map (·.size) = some cs.length) := by show _ = _; rw [HCL.out]; exact HIL.out
  have HMC : Hid (W5.rangeAt W.heap.size 0 cs) := Lib.hid (hc5.range (fun j v hj => by rw [Nat.zero_add]; exact hj))
  have HMX : Hid (W5.rangeAt w2.heap.size 0 xs) := Lib.hid (hx5.range (fun j v hj => by rw [Nat.zero_add]; exact hj))
  have HMY : Hid (W5.rangeAt w4.heap.size 0 ys) := Lib.hid (hr5.range (fun j v hj => by rw [Nat.zero_add]; exact hj))
  have HEY : Hid (∀ {a : Act} {op : Oper} {w : World}, op.op = .build 49 #[(0, .const (.int .i64 2)), (1, .const (.int .i64 1)), (2, .const (.int .i64 1)), (3, .const (.int .i64 5)), (6, .tmp 8)] → a.eval (.tmp 8) = .string D → (execOp a.eval op).run Tryz.prog w = .ok (.value (.agg ys.toArray)) w) := Lib.hid fun ho hx => by rw [eys]; exact exec_acc (.tmp 8) ho hx
  have HST5 : Hid (∀ (Q : Exit → Act → World → Prop) (ops : Array Oper) (rest : List Oper) (o : Oper) (a : Act), o.guard = none → o.op = .store 49 (.tmp 4) (.tmp 9) → a.eval (.tmp 4) = .pointer (some ⟨w4.heap.size, 0, none⟩) → a.eval (.tmp 9) = .agg ys.toArray → ∀ old : Array Value, old.size = 25 → wpList Tryz.prog ops Q rest (a.put o.dst undef) W5 → wpList Tryz.prog ops Q (o :: rest) a (w4.alloc (.cells old 49))) := Lib.hid (by
    intro Q ops rest o a hgd ho hx hy old hold hk
    rw [e5] at hk
    exact Hk.wpList_store_fresh hgd 49 (.tmp 4) (.tmp 9) ho w4.heap.size _ hx hy old 49 rfl (by rw [HIL.out]; simp [hyl]) (by rw [hold]; simp [hyl]) (all_oneCell_toArray hy1) hk)
  have HBW6 := Lib.hid hbw6
  have EL := Lib.hid el
  have ED := Lib.hid eD
  clear hb4 eD eys hyl hy1 e5 hr5 hb5 hb35 hbw5 hc5 hx5 hg5 hi1 hz1 hs1 e6 hb6 hr6 hbw6 el hll hlets CD HR3 HG3 HC3 HBW3 HM3 HEX HST3 ECS EXS HXL HCL HP HO
  go_wp2_with (first
    | (refine at_bd (.tmp 8) ?_; refine Row.still rfl (HEY.out rfl rfl) ?_; simp only [Act.put, List.setIfInBounds_toArray, List.set_cons_succ, List.set_cons_zero])
    | (refine at_store (.tmp 4) ?_; refine HST5.out _ _ _ _ _ rfl rfl rfl rfl _ (by simp) ?_; simp only [Act.put, List.setIfInBounds_toArray, List.set_cons_succ, List.set_cons_zero])
    | (refine at_load (.tmp 1) ?_; refine wpList_load_mid rfl 49 (.tmp 1) rfl W.heap.size 0 rfl cs _ HMC.out Tryz.underlying49 rfl HIC.out ?_)
    | (refine at_load (.tmp 4) ?_; refine wpList_load_mid rfl 49 (.tmp 4) rfl w4.heap.size 0 rfl ys _ HMY.out Tryz.underlying49 rfl HIY.out ?_)
    | (refine at_load (.tmp 3) ?_; refine wpList_load_mid rfl 49 (.tmp 3) rfl w2.heap.size 0 rfl xs _ HMX.out Tryz.underlying49 rfl HIX.out ?_)
    | (refine at_bs3 (.tmp 10) ?_; refine Row.moved rfl (exec_slice3 rfl HBS.out) ?_; simp only [Act.put, List.setIfInBounds_toArray, List.set_cons_succ, List.set_cons_zero]))
  refine CA.out.mono ?_
  rintro e w7 ⟨hb7, A7, c7, am, rfl, k1, k2, k3, k4⟩
  have HF : Hid (A2Post r W (.returned (.slice A7 am.length c7)) w7) := Lib.hid (by
    refine ⟨HBW6.out.trans (hb7.mono HBW6.out.size), g, A7, c7, am, rfl, k1, fun x hx => ⟨k2 x hx, ?_⟩, ?_, k4⟩
    · have hm : x.1 ∈ agreedF DG 2 l := by rw [← k3]; exact List.mem_map_of_mem hx
      obtain ⟨_, ⟨q, hq, _, h2, _⟩, _⟩ := agreed_mem DG 2 hm
      have := (HLK.out q hq).patch
      rw [h2]
      exact ⟨this.cl, this.st⟩
    · rw [k3, EL.out, ED.out])
  clear hb7 k1 k2 k3 k4 CA HLK EL ED HBW6
  go_wp2_with fail
  exact ER.out _ _ HF.out
end Go.Proofs.YtekfoaenomgjgaaGreatDoor

namespace Go.Proofs.YtekfoaenomgjgaaGreatDoor
open Go.RowKit Go.W32 Go.Blk Go.Cs

theorem itoa_small (n : Nat) (h : n ≤ 9) : Lib.itoa (n : Int) = [48 + UInt8.ofNat n] := by
  have : ∀ n, n ≤ 9 → [48 + UInt8.ofNat n] = [UInt8.ofNat (48 + n)] := by decide
  rw [this n h]
  unfold Lib.itoa
  rw [if_neg (by omega)]
  simp [Lib.decDigits_one (show n < 10 by omega)]
theorem it0 : Lib.itoa 0 = [48] := itoa_small 0 (by decide)
theorem it1 : Lib.itoa 1 = [49] := itoa_small 1 (by decide)
theorem it3 : Lib.itoa 3 = [51] := itoa_small 3 (by decide)
theorem it4 : Lib.itoa 4 = [52] := itoa_small 4 (by decide)
def zs16 : List UInt8 := [32, 48, 32, 48, 32, 48, 32, 48, 32, 48, 32, 48, 32, 48, 32, 48, 32, 48, 32, 48, 32, 48, 32, 48, 32, 48, 32, 48, 32, 48, 32, 48]
def prT (d i : UInt8) : List UInt8 := [112, 114, 111, 112, 111, 115, 101, 32, 48, 32, 49, 32, d, 32, 112, 97, 116, 99, 104, 32, 51, 32, 48, 32, 49, 32, i] ++ zs16
theorem prop_text (s d i : Int) (x y : UInt8) (hd : Lib.itoa d = [x]) (hi : Lib.itoa i = [y]) : (propL s d i).text = prT x y := by
  simp only [Let.text, propL, waiveP, Pat.text, Pat.small, Pat.nums, Cls.nums, Cls.front, Cls.back, Cls.zero, b2i, words, word, List.flatMap_cons, List.flatMap_nil, List.cons_append, List.nil_append, List.append_nil, List.length_cons, List.length_nil, hd, hi]
  simp [it0, it1, it3, hi, word, proposeT, patchT, prT, zs16]
theorem ne_01 : SD (tx (prT 52 49)) ≠ SD (tx (prT 52 48)) := by decide +kernel
theorem ne_02 : SD (tx (prT 52 49)) ≠ SD (tx (prT 48 48)) := by decide +kernel
theorem ne_e1 : SD (tx (prT 52 49)) ≠ ByteArray.empty := by decide +kernel
theorem ne_e2 : SD (tx (prT 48 48)) ≠ ByteArray.empty := by decide +kernel
theorem dg_prop (s d i : Int) (x y : UInt8) (hs : 0 ≤ s ∧ s ≤ 2000) (hd0 : 0 ≤ d ∧ d ≤ 2000) (hd : Lib.itoa d = [x]) (hi : Lib.itoa i = [y]) : DG (propL s d i) = SD (tx (prT x y)) := by
  unfold DG dig
  rw [cnt_prop s d i hs hd0 1 12 (by decide), prop_text s d i x y hd hi]
  rfl
theorem dg_wd (s : Int) (hs : 0 ≤ s ∧ s ≤ 2000) : DG (wdL s) = ByteArray.empty := by
  unfold DG dig
  rw [cnt_wd s hs 1 12 (by decide)]
  rfl
theorem dg_late (s : Int) (hs : 0 ≤ s ∧ s ≤ 2000) : DG (propL s 4 1) ≠ DG (propL 3 4 0) := by
  rw [dg_prop s 4 1 52 49 hs (by decide) it4 it1, dg_prop 3 4 0 52 48 (by decide) (by decide) it4 it0]
  exact ne_01
theorem dg_third : DG (propL 5 4 1) ≠ DG (propL 0 0 0) := by
  rw [dg_prop 5 4 1 52 49 (by decide) (by decide) it4 it1, dg_prop 0 0 0 48 48 (by decide) (by decide) it0 it0]
  exact ne_02
theorem dg_some1 : DG (propL 5 4 1) ≠ ByteArray.empty := by
  rw [dg_prop 5 4 1 52 49 (by decide) (by decide) it4 it1]
  exact ne_e1
theorem dg_some2 : DG (propL 0 0 0) ≠ ByteArray.empty := by
  rw [dg_prop 0 0 0 48 48 (by decide) (by decide) it0 it0]
  exact ne_e2
/-- The head's pairs. -/
theorem pairs_02 (h1 h2 h3 : Hd) : pairsF DG [(propL 5 4 1, h1), (wdL 4, h2), (propL 0 0 0, h3)] = [(0, 2)] := by
  have e1 := dg_some1
  have e2 := dg_some2
  have e3 := dg_third
  have e4 := dg_wd 4 (by decide)
  have s0 : (propL 5 4 1).slot = (0, 1) := rfl
  have s1 : (wdL 4).slot = (0, 1) := rfl
  have s2 : (propL 0 0 0).slot = (0, 1) := rfl
  generalize DG = D at *
  generalize propL 5 4 1 = a at *
  generalize wdL 4 = b at *
  generalize propL 0 0 0 = c at *
  have u0 : sumAt D [(a, h1), (b, h2), (c, h3)] 0 = D a := rfl
  have u1 : sumAt D [(a, h1), (b, h2), (c, h3)] 1 = D b := rfl
  have u2 : sumAt D [(a, h1), (b, h2), (c, h3)] 2 = D c := rfl
  have t0 : slotAt [(a, h1), (b, h2), (c, h3)] 0 = (0, 1) := s0
  have t1 : slotAt [(a, h1), (b, h2), (c, h3)] 1 = (0, 1) := s1
  have t2 : slotAt [(a, h1), (b, h2), (c, h3)] 2 = (0, 1) := s2
  simp [pairsF, pairsAt, laterAt, List.range, List.range.loop, List.filter_cons, u0, u1, u2, t0, t1, t2, e1, e2, e3, e4]
end Go.Proofs.YtekfoaenomgjgaaGreatDoor

namespace Go.Proofs.YtekfoaenomgjgaaGreatDoor
open Go.RowKit Go.W32 Go.Blk Go.Cs Go.Lib Go.Opn Go.Mg

theorem at_bd4 {P : Program} {ops : Array Oper} {rest : List Oper} {a : Act} {Q : Exit → Act → World → Prop} (x : Operand) {t : TypeId} {p1 p2 p3 : Nat × Operand} {n : Nat} {d : Option Tmp} {ty : TypeId} {ps : String} {af : Array Edge} {g : Option (Nat × Bool)} {w : World}
    (h : wpList P ops Q (⟨d, .build t #[p1, p2, p3, (n, x)], ty, ps, af, g⟩ :: rest) a w) : wpList P ops Q (⟨d, .build t #[p1, p2, p3, (n, x)], ty, ps, af, g⟩ :: rest) a w := h
theorem at_bd3 {P : Program} {ops : Array Oper} {rest : List Oper} {a : Act} {Q : Exit → Act → World → Prop} (x : Operand) {t : TypeId} {p1 p2 : Nat × Operand} {n : Nat} {d : Option Tmp} {ty : TypeId} {ps : String} {af : Array Edge} {g : Option (Nat × Bool)} {w : World}
    (h : wpList P ops Q (⟨d, .build t #[p1, p2, (n, x)], ty, ps, af, g⟩ :: rest) a w) : wpList P ops Q (⟨d, .build t #[p1, p2, (n, x)], ty, ps, af, g⟩ :: rest) a w := h
theorem at_bd0 {P : Program} {ops : Array Oper} {rest : List Oper} {a : Act} {Q : Exit → Act → World → Prop} {t : TypeId} {d : Option Tmp} {ty : TypeId} {ps : String} {af : Array Edge} {g : Option (Nat × Bool)} {w : World}
    (h : wpList P ops Q (⟨d, .build t #[], ty, ps, af, g⟩ :: rest) a w) : wpList P ops Q (⟨d, .build t #[], ty, ps, af, g⟩ :: rest) a w := h
/-- The amendment of the head. -/
def am0 (g : Nat) : Pr × Hd := (⟨p0, hdW g, ⟨#[]⟩, 5⟩, hdW g)
theorem exec_am0 {a : Act} {op : Oper} {w : World} {g : Nat} (x : Operand) (ho : op.op = .build 62 #[(0, .const (.int .i64 1)), (1, .const (.int .i64 4)), (2, .const (.int .i64 5)), (3, x)]) (hx : a.eval x = .agg (encPat (waiveP 0) (hdW g)).toArray) :
    (execOp a.eval op).run Tryz.prog w = .ok (.value (.agg (encAm (am0 g)).toArray)) w := by
  unfold execOp
  simp only [ho, hx, List.map_toArray, List.map_cons, List.map_nil]
  unfold encPat
  go_simp
  rfl
theorem exec_wd {a : Act} {op : Oper} {w : World} (ho : op.op = .build 49 #[(0, .const (.int .i64 3)), (2, .const (.int .i64 1)), (3, .const (.int .i64 4))]) :
    (execOp a.eval op).run Tryz.prog w = .ok (.value (.agg (encLet (wdL 4, hd0)).toArray)) w := by
  unfold execOp
  simp only [ho, List.map_toArray, List.map_cons, List.map_nil]
  go_simp
  rfl
theorem exec_nil {a : Act} {op : Oper} {w : World} (ho : op.op = .build 49 #[]) :
    (execOp a.eval op).run Tryz.prog w = .ok (.value (.agg (encLet (nilL, hd0)).toArray)) w := by
  unfold execOp
  simp only [ho]
  go_simp
  rfl
theorem exec_third {a : Act} {op : Oper} {w : World} {h : Hd} (x : Operand) (ho : op.op = .build 49 #[(0, .const (.int .i64 1)), (2, .const (.int .i64 1)), (5, x)]) (hx : a.eval x = .agg (encPat (waiveP 0) h).toArray) :
    (execOp a.eval op).run Tryz.prog w = .ok (.value (.agg (encLet (propL 0 0 0, h)).toArray)) w := by
  unfold execOp
  simp only [ho, hx, List.map_toArray, List.map_cons, List.map_nil]
  unfold encPat
  go_simp
  rfl
theorem nil_ok : LetOk nilL := ⟨by unfold i64P nilL; simp, zero_ok, Nat.zero_le _⟩
theorem wd_ok {s : Int} (hs : 0 ≤ s ∧ s ≤ 10) : LetOk (wdL s) := ⟨by unfold i64P wdL; simp; omega, zero_ok, Nat.zero_le _⟩
theorem nil_at {w : World} : PatAt w Pat.zero hd0 := ⟨SL.nil, SL.nil⟩
theorem am0_at {w : World} {g : Nat} (h : Row w g 3 [.int .i64 0]) : AmAt w (am0 g) := ⟨waive_at h, ⟨by simp [am0, propL, waiveP], by simp [am0, propL, waiveP, Cls.zero]⟩⟩
theorem am0_same (q : Pr) (h : Hd) (g g' : Nat) (D : ByteArray) (e : q = ⟨p0, hdW g', D, 5⟩) : amSame (q, h) (am0 g) = true := by
  subst e
  unfold amSame am0
  simp only [decide_true, Bool.true_and]
  exact Pat.same_iff.2 rfl
def KPost (W : World) (e : Ending) (w' : World) : Prop := Below W.heap.size W w' ∧ ∃ A c x, e = .returned (.slice A 1 c) ∧ SL w' 22 encAm A [x] ∧ AmAt w' x ∧ ∀ g, amSame x (am0 g) = true
theorem a2_keep (r : Rl) (W : World) (hT : HasT W) (hp : PatAt W r.1.patch r.2) (ho : LetOk r.1) (hag : ∀ g, agreedF DG 2 [r, (accL (DG p0), hd0), (p0, hdW g)] = [⟨p0, hdW g, DG p0, 5⟩]) : Calls Tryz.prog 40 #[.agg (encLet r).toArray] W (KPost W) := by
  refine (a2_any r W hT hp ho).mono ?_
  rintro e w' ⟨hb, g, A, c, am, rfl, h1, h2, h3, _⟩
  rw [hag g] at h3
  match am, h1, h2, h3 with
  | [], _, _, h3 => cases h3
  | [x], h1, h2, h3 =>
    injection h3 with h3
    exact ⟨hb, A, c, x, rfl, h1, h2 x (by simp), fun g' => am0_same x.1 x.2 g' g _ h3⟩
  | _ :: _ :: _, _, _, h3 => injection h3 with _ h3; cases h3
def GPost (W : World) (e : Ending) (w' : World) : Prop := Below W.heap.size W w' ∧ ∃ A c, e = .returned (.slice A 0 c)
theorem a2_gone (r : Rl) (W : World) (hT : HasT W) (hp : PatAt W r.1.patch r.2) (ho : LetOk r.1) (hag : ∀ g, agreedF DG 2 [r, (accL (DG p0), hd0), (p0, hdW g)] = []) : Calls Tryz.prog 40 #[.agg (encLet r).toArray] W (GPost W) := by
  refine (a2_any r W hT hp ho).mono ?_
  rintro e w' ⟨hb, g, A, c, am, rfl, h1, h2, h3, _⟩
  rw [hag g] at h3
  have : am = [] := List.map_eq_nil_iff.1 h3
  subst this
  exact ⟨hb, A, c, rfl⟩
theorem sas_yes (A : Option Addr) (c b1 g : Nat) (x : Pr × Hd) (W : World) (h1 : SL W 22 encAm A [x]) (h2 : AmAt W x) (h3 : ∀ g, amSame x (am0 g) = true) (hr : Row W b1 62 (encAm (am0 g))) (hg : Row W g 3 [.int .i64 0]) :
    Calls Tryz.prog 39 #[.slice A 1 c, .slice (some ⟨b1, 0, none⟩) 1 1] W fun e w' => e = .returned (.bool true) ∧ Below W.heap.size W w' := by
  have := sas_any A c [x] (some ⟨b1, 0, none⟩) 1 [am0 g] W h1 (Apl.sl_of_cells (fun _ => rfl) hr (fun j u hj => by simpa using hj)) (by simp) (by simp) (fun y hy => by rw [List.mem_singleton.1 hy]; exact h2) (fun y hy => by rw [List.mem_singleton.1 hy]; exact am0_at hg)
  have e : amsSame [x] [am0 g] = true := by simp [amsSame, h3]
  rw [e] at this
  exact this
end Go.Proofs.YtekfoaenomgjgaaGreatDoor

namespace Go.Proofs.YtekfoaenomgjgaaGreatDoor
open Go.RowKit Go.W32 Go.Blk Go.Cs Go.Lib Go.Opn Go.Mg

/-- What the head has made before it asks. -/
structure HdIs (W w : World) (g1 g2 b1 b2 b3 b4 b5 : Nat) (ms us ul vs vl : List Value) : Prop where
  below : Below W.heap.size W w
  w1 : Row w g1 3 [.int .i64 0]
  w2 : Row w g2 3 [.int .i64 1]
  one : Row w b1 62 ms
  wd : Row w b2 49 us
  late : Row w b3 49 ul
  oth : Row w b4 49 vs
  lat : Row w b5 49 vl
theorem HdIs.next {W w w' : World} {g1 g2 b1 b2 b3 b4 b5 : Nat} {ms us ul vs vl : List Value} (h : HdIs W w g1 g2 b1 b2 b3 b4 b5 ms us ul vs vl) (hb : Below w.heap.size w w') : HdIs W w' g1 g2 b1 b2 b3 b4 b5 ms us ul vs vl :=
  ⟨h.below.trans (hb.mono h.below.size), h.w1.below hb h.w1.lt, h.w2.below hb h.w2.lt, h.one.below hb h.one.lt, h.wd.below hb h.wd.lt, h.late.below hb h.late.lt, h.oth.below hb h.oth.lt, h.lat.below hb h.lat.lt⟩
theorem Row.rg {w : World} {b : Nat} {T : TypeId} {cs : List Value} (h : Row w b T cs) : w.rangeAt b 0 cs := h.range (fun j v hj => by rw [Nat.zero_add]; exact hj)
theorem store_let {cs : List Value} (hcl : cs.length = 25) (hc1 : ∀ v ∈ cs, v.oneCell' = true) (s t : Nat) (W0 W1 : World) (b : Nat) (hb : b = W0.heap.size) (e1 : W1 = W0.alloc (.cells cs.toArray 49)) (Q : Exit → Act → World → Prop) (ops : Array Oper) (rest : List Oper) (o : Oper) (a : Act) (hgd : o.guard = none) (ho : o.op = .store 49 (.tmp s) (.tmp t)) (hx : a.eval (.tmp s) = .pointer (some ⟨b, 0, none⟩)) (hy : a.eval (.tmp t) = .agg cs.toArray) (old : Array Value) (hold : old.size = 25) (hk : wpList Tryz.prog ops Q rest (a.put o.dst undef) W1) : wpList Tryz.prog ops Q (o :: rest) a (W0.alloc (.cells old 49)) := by
  rw [e1] at hk
  have HIL : (Tryz.prog.info? 49).map (·.size) = some 25 := by kernel_rfl
  exact Hk.wpList_store_fresh hgd 49 (.tmp s) (.tmp t) ho b _ hx hy old 49 hb (by rw [HIL]; simp [hcl]) (by rw [hold]; simp [hcl]) (all_oneCell_toArray hc1) hk
theorem info_l (cs : List Value) (h : cs.length = 25) : (Tryz.prog.info? 49).map (·.size) = some cs.length := by rw [h]; kernel_rfl
set_option maxRecDepth 100000 in
set_option maxHeartbeats 4000000 in
theorem head30_any (W : World) (hT : HasT W) : Calls Tryz.prog 14 #[] W fun e w' => e = .returned (.bool true) ∧ Below W.heap.size W w' := by
  obtain ⟨R, eR⟩ : ∃ R : Ending → World → Prop, R = fun e w' => e = .returned (.bool true) ∧ Below W.heap.size W w' := ⟨_, rfl⟩
  rw [← eR]
  have FIN : Hid (∀ w', Below W.heap.size W w' → R (.returned (.bool true)) w') := Lib.hid fun w' hb => by rw [eR]; exact ⟨rfl, hb⟩
  clear eR
  have HT := Lib.hid hT
  clear hT
  have CW := Lib.hid (wv_any 0 W)
  go_enter Tryz.func14, Tryz.ntmps14
  go_wp2_with fail
  refine CW.out.mono ?_
  rintro e w1 ⟨g1, rfl, hg1, hb1⟩
  obtain ⟨ms, ems⟩ : ∃ ms, ms = encAm (am0 g1) := ⟨_, rfl⟩
  have hal : ms.length = 22 := by rw [ems]; rfl
  obtain ⟨i1, hi1, hz1, hs1, _⟩ := info_of info_am
  obtain ⟨W2, e2⟩ : ∃ W2, W2 = w1.alloc (.cells ms.toArray 62) := ⟨_, rfl⟩
  have hb2 : Below w1.heap.size w1 W2 := by rw [e2]; exact (Below.refl _ _).alloc (Nat.le_refl _) _
  have hr2 : Row W2 w1.heap.size 62 ms := by rw [e2]; exact Row.new _ _ _
  have HBS : Hid ((Instr.buildSlice 35 1 #[(0, .agg ms.toArray)]).run Tryz.prog w1 = .ok (.slice (some ⟨w1.heap.size, 0, none⟩) 1 1) W2) := Lib.hid (by
    rw [e2]
    exact Apk.run_slice_one (P := Tryz.prog) w1 35 62 i1 _ Tryz.underlying35 hi1 hz1 ms.toArray (by rw [List.size_toArray, hal, hs1]) (by rw [hs1]; decide) (by rw [hs1]; decide))
  have HEX : Hid (∀ {a : Act} {op : Oper} {w : World}, op.op = .build 62 #[(0, .const (.int .i64 1)), (1, .const (.int .i64 4)), (2, .const (.int .i64 5)), (3, .tmp 8)] → a.eval (.tmp 8) = .agg (encPat (waiveP 0) (hdW g1)).toArray → (execOp a.eval op).run Tryz.prog w = .ok (.value (.agg ms.toArray)) w) := Lib.hid fun ho hx => by rw [ems]; exact exec_am0 (.tmp 8) ho hx
  obtain ⟨pw, epw⟩ : ∃ pw, pw = encPat (waiveP 0) (hdW g1) := ⟨_, rfl⟩
  rw [← epw] at HEX ⊢
  -- the withdrawals
  obtain ⟨us, eus⟩ : ∃ us, us = encLet (wdL 4, hd0) := ⟨_, rfl⟩
  obtain ⟨ul, eul⟩ : ∃ ul, ul = encLet (wdL 5, hd0) := ⟨_, rfl⟩
  have hul : us.length = 25 := by rw [eus]; rfl
  have hu1 : ∀ v ∈ us, v.oneCell' = true := by rw [eus]; exact encLet_one _
  have hset : us.set 3 (.int .i64 5) = ul := by rw [eus, eul]; rfl
  have hu3 : us[3]? = some (.int .i64 4) := by rw [eus]; rfl
  obtain ⟨W3, e3⟩ : ∃ W3, W3 = W2.alloc (.cells us.toArray 49) := ⟨_, rfl⟩
  obtain ⟨W4, e4⟩ : ∃ W4, W4 = W3.alloc (.cells us.toArray 49) := ⟨_, rfl⟩
  obtain ⟨W5, e5⟩ : ∃ W5, W5 = W4.setCell ⟨W3.heap.size, 3, none⟩ (.int .i64 5) := ⟨_, rfl⟩
  have hr3 : Row W3 W2.heap.size 49 us := by rw [e3]; exact Row.new _ _ _
  have hr4 : Row W4 W3.heap.size 49 us := by rw [e4]; exact Row.new _ _ _
  have hb3 : Below W2.heap.size W2 W3 := by rw [e3]; exact (Below.refl _ _).alloc (Nat.le_refl _) _
  have hb4 : Below W3.heap.size W3 W4 := by rw [e4]; exact (Below.refl _ _).alloc (Nat.le_refl _) _
  have hb5 : Below W3.heap.size W4 W5 := by rw [e5]; exact below_setCell (a := ⟨W3.heap.size, 3, none⟩) (Nat.le_refl _) _
  have hr5 : Row W5 W3.heap.size 49 ul := by
    have h := Blk.Blk.set (show Blk.Blk W4 W3.heap.size us 49 from hr4) 3 (.int .i64 5)
    rw [hset] at h; rw [e5]; exact h
  have hb35 : Below W3.heap.size W3 W5 := hb4.trans hb5
  have c3 : W4.cell? ⟨W3.heap.size, 3, none⟩ = some (.int .i64 4) := hr4.at hu3
  have f3 := Blk.Blk.frozen (show Blk.Blk W4 W3.heap.size us 49 from hr4) 3
  have E5 : Hid (W4.setCell ⟨W3.heap.size, 3, none⟩ (.int .i64 5) = W5) := Lib.hid e5.symm
  have HM2 : Hid (W3.rangeAt W2.heap.size 0 us) := Lib.hid hr3.rg
  have HIU := Lib.hid (info_l us hul)
  have HST2 := Lib.hid (store_let hul hu1 2 11 W2 W3 _ rfl e3)
  have HST3 := Lib.hid (store_let hul hu1 3 12 W3 W4 _ rfl e4)
  have HEX2 : Hid (∀ {a : Act} {op : Oper} {w : World}, op.op = .build 49 #[(0, .const (.int .i64 3)), (2, .const (.int .i64 1)), (3, .const (.int .i64 4))] → (execOp a.eval op).run Tryz.prog w = .ok (.value (.agg us.toArray)) w) := Lib.hid fun ho => by rw [eus]; exact exec_wd ho
  have CW2 := Lib.hid (wv_any 1 W5)
  have hbw2 := hb1.trans (hb2.mono hb1.size)
  have hbw3 := hbw2.trans (hb3.mono hbw2.size)
  have hbw5 := hbw3.trans (hb35.mono hbw3.size)
  have hg2 := hg1.below hb2 hg1.lt
  have hg3 := hg2.below hb3 hg2.lt
  have hg5 := hg3.below hb35 hg3.lt
  have HD5 : Hid (Below W.heap.size W W5 ∧ Row W5 g1 3 [.int .i64 0] ∧ Row W5 w1.heap.size 62 ms ∧ Row W5 W2.heap.size 49 us ∧ Row W5 W3.heap.size 49 ul) := Lib.hid ⟨hbw5, hg5, (hr2.below hb3 hr2.lt).below hb35 ((hr2.below hb3 hr2.lt).lt), hr3.below hb35 hr3.lt, hr5⟩
  have EMS := Lib.hid ems
  have EUS := Lib.hid eus
  have EUL := Lib.hid eul
  clear epw hg1 hb1 ems hal hi1 hz1 hs1 e2 hb2 hr2 hbw2 hg2 CW eus eul hul hu1 hset hu3 e3 e4 e5 hr3 hr4 hb3 hb4 hb5 hr5 hb35 hbw3 hbw5 hg3 hg5
  go_wp2_with (first
    | (refine at_bd4 (.tmp 8) ?_; refine Row.still rfl (HEX.out rfl rfl) ?_; simp only [Act.put, List.setIfInBounds_toArray, List.set_cons_succ, List.set_cons_zero])
    | (refine at_bs (.tmp 9) ?_; refine Row.moved rfl (Apl.exec_slice rfl HBS.out) ?_; simp only [Act.put, List.setIfInBounds_toArray, List.set_cons_succ, List.set_cons_zero])
    | (refine at_bd3 (.const (.int .i64 4)) ?_; refine Row.still rfl (HEX2.out rfl) ?_; simp only [Act.put, List.setIfInBounds_toArray, List.set_cons_succ, List.set_cons_zero])
    | (refine at_store (.tmp 2) ?_; refine HST2.out _ _ _ _ _ rfl rfl rfl rfl _ (by simp) ?_; simp only [Act.put, List.setIfInBounds_toArray, List.set_cons_succ, List.set_cons_zero])
    | (refine at_store (.tmp 3) ?_; refine HST3.out _ _ _ _ _ rfl rfl rfl rfl _ (by simp) ?_; simp only [Act.put, List.setIfInBounds_toArray, List.set_cons_succ, List.set_cons_zero])
    | (refine at_load (.tmp 2) ?_; refine wpList_load_mid rfl 49 (.tmp 2) rfl W2.heap.size 0 rfl us _ HM2.out Tryz.underlying49 rfl HIU.out ?_)
    | (simp only [E5.out]))
  refine CW2.out.mono ?_
  rintro e w6 ⟨g2, rfl, hg6, hb6⟩
  -- the other proposals
  obtain ⟨vs, evs⟩ : ∃ vs, vs = encLet (propL 5 4 1, hdW g2) := ⟨_, rfl⟩
  obtain ⟨vl, evl⟩ : ∃ vl, vl = encLet (propL 6 4 1, hdW g2) := ⟨_, rfl⟩
  obtain ⟨pv, epv⟩ : ∃ pv, pv = encPat (waiveP 1) (hdW g2) := ⟨_, rfl⟩
  have hul : vs.length = 25 := by rw [evs]; rfl
  have hu1 : ∀ v ∈ vs, v.oneCell' = true := by rw [evs]; exact encLet_one _
  have hset : vs.set 3 (.int .i64 6) = vl := by rw [evs, evl]; rfl
  have hu3 : vs[3]? = some (.int .i64 5) := by rw [evs]; rfl
  obtain ⟨W7, e7⟩ : ∃ W7, W7 = w6.alloc (.cells vs.toArray 49) := ⟨_, rfl⟩
  obtain ⟨W8, e8⟩ : ∃ W8, W8 = W7.alloc (.cells vs.toArray 49) := ⟨_, rfl⟩
  obtain ⟨W9, e9⟩ : ∃ W9, W9 = W8.setCell ⟨W7.heap.size, 3, none⟩ (.int .i64 6) := ⟨_, rfl⟩
  have hr3 : Row W7 w6.heap.size 49 vs := by rw [e7]; exact Row.new _ _ _
  have hr4 : Row W8 W7.heap.size 49 vs := by rw [e8]; exact Row.new _ _ _
  have hb3 : Below w6.heap.size w6 W7 := by rw [e7]; exact (Below.refl _ _).alloc (Nat.le_refl _) _
  have hb4 : Below W7.heap.size W7 W8 := by rw [e8]; exact (Below.refl _ _).alloc (Nat.le_refl _) _
  have hb5 : Below W7.heap.size W8 W9 := by rw [e9]; exact below_setCell (a := ⟨W7.heap.size, 3, none⟩) (Nat.le_refl _) _
  have hr5 : Row W9 W7.heap.size 49 vl := by
    have h := Blk.Blk.set (show Blk.Blk W8 W7.heap.size vs 49 from hr4) 3 (.int .i64 6)
    rw [hset] at h; rw [e9]; exact h
  have hb35 : Below W7.heap.size W7 W9 := hb4.trans hb5
  have c3' : W8.cell? ⟨W7.heap.size, 3, none⟩ = some (.int .i64 5) := hr4.at hu3
  have f3' := Blk.Blk.frozen (show Blk.Blk W8 W7.heap.size vs 49 from hr4) 3
  have E9 : Hid (W8.setCell ⟨W7.heap.size, 3, none⟩ (.int .i64 6) = W9) := Lib.hid e9.symm
  have HM4 : Hid (W7.rangeAt w6.heap.size 0 vs) := Lib.hid hr3.rg
  have HIV := Lib.hid (info_l vs hul)
  have HST4 := Lib.hid (store_let hul hu1 4 15 w6 W7 _ rfl e7)
  have HST5 := Lib.hid (store_let hul hu1 5 16 W7 W8 _ rfl e8)
  have HEX3 : Hid (∀ {a : Act} {op : Oper} {w : World}, op.op = .build 49 #[(0, .const (.int .i64 1)), (2, .const (.int .i64 1)), (3, .const (.int .i64 5)), (4, .const (.int .i64 4)), (5, .tmp 14)] → a.eval (.tmp 14) = .agg pv.toArray → (execOp a.eval op).run Tryz.prog w = .ok (.value (.agg vs.toArray)) w) := Lib.hid fun ho hx => by rw [evs]; exact exec_prop (.tmp 14) ho (by rw [hx, epv])
  obtain ⟨zs, ezs⟩ : ∃ zs, zs = encLet (nilL, hd0) := ⟨_, rfl⟩
  have HEX4 : Hid (∀ {a : Act} {op : Oper} {w : World}, op.op = .build 49 #[] → (execOp a.eval op).run Tryz.prog w = .ok (.value (.agg zs.toArray)) w) := Lib.hid fun ho => by rw [ezs]; exact exec_nil ho
  rw [← epv]
  have hb79 : Below w6.heap.size w6 W9 := hb3.trans (hb35.mono hb3.size)
  have hb59 : Below W5.heap.size W5 W9 := hb6.trans (hb79.mono hb6.size)
  obtain ⟨d1, d2, d3, d4, d5⟩ := HD5.out
  have HD : Hid (HdIs W W9 g1 g2 w1.heap.size W2.heap.size W3.heap.size w6.heap.size W7.heap.size ms us ul vs vl) := Lib.hid ⟨d1.trans (hb59.mono d1.size), d2.below hb59 d2.lt, (hg6.below hb3 hg6.lt).below hb35 ((hg6.below hb3 hg6.lt).lt), d3.below hb59 d3.lt, d4.below hb59 d4.lt, d5.below hb59 d5.lt, hr3.below hb35 hr3.lt, hr5⟩
  have HTA : Hid (∀ w, Below W.heap.size W w → HasT w) := Lib.hid fun w hb => HT.out.below hb (Nat.le_refl _)
  have EVS := Lib.hid evs
  have EVL := Lib.hid evl
  have CA1 := Lib.hid (a2_keep (nilL, hd0) W9 (HTA.out _ HD.out.below) nil_at nil_ok (fun g => ag_keep DG g _ (cnt_zero _ _) (cnt_zero _ _) (fun h => by rw [cnt_zero] at h; cases h)))
  rw [← ezs] at CA1
  have HLEN := Lib.hid hul
  clear hb6 hg6 evs evl epv hul hu1 hset hu3 e7 e8 e9 hr3 hr4 hb3 hb4 hb5 hr5 hb35 ezs hb79 hb59 d1 d2 d3 d4 d5 HD5 HT HBS HEX HEX2 HST2 HST3 HM2 CW2 c3 f3 E5
  generalize w1.heap.size = b1 at *
  generalize W2.heap.size = b2 at *
  generalize W3.heap.size = b3 at *
  go_wp2_with (first
    | (refine at_bd (.tmp 14) ?_; refine Row.still rfl (HEX3.out rfl rfl) ?_; simp only [Act.put, List.setIfInBounds_toArray, List.set_cons_succ, List.set_cons_zero])
    | (refine at_bd0 ?_; refine Row.still rfl (HEX4.out rfl) ?_; simp only [Act.put, List.setIfInBounds_toArray, List.set_cons_succ, List.set_cons_zero])
    | (refine at_store (.tmp 4) ?_; refine HST4.out _ _ _ _ _ rfl rfl rfl rfl _ (by simp) ?_; simp only [Act.put, List.setIfInBounds_toArray, List.set_cons_succ, List.set_cons_zero])
    | (refine at_store (.tmp 5) ?_; refine HST5.out _ _ _ _ _ rfl rfl rfl rfl _ (by simp) ?_; simp only [Act.put, List.setIfInBounds_toArray, List.set_cons_succ, List.set_cons_zero])
    | (refine at_load (.tmp 4) ?_; refine wpList_load_mid rfl 49 (.tmp 4) rfl w6.heap.size 0 rfl vs _ HM4.out Tryz.underlying49 rfl HIV.out ?_)
    | (simp only [E9.out]))
  refine CA1.out.mono ?_
  rintro e w10 ⟨hb10, A1, n1, x1, rfl, s1, s2, s3⟩
  have hd10 := HD.out.next hb10
  generalize w6.heap.size = b4 at *
  generalize W7.heap.size = b5 at *
  -- the first comparison
  have ONE : Hid (∀ w, HdIs W w g1 g2 b1 b2 b3 b4 b5 ms us ul vs vl → ∀ A c x, SL w 22 encAm A [x] → AmAt w x → (∀ g, amSame x (am0 g) = true) → Calls Tryz.prog 39 #[.slice A 1 c, .slice (some ⟨b1, 0, none⟩) 1 1] w fun e w' => e = .returned (.bool true) ∧ Below w.heap.size w w') := Lib.hid fun w h A c x h1 h2 h3 => sas_yes A c b1 g1 x w h1 h2 h3 (by rw [← EMS.out]; exact h.one) h.w1
  have CS1 := Lib.hid (ONE.out w10 hd10 A1 n1 x1 s1 s2 s3)
  have HD10 := Lib.hid hd10
  have HIUL := Lib.hid (info_l ul (by rw [EUL.out]; rfl))
  have HIVL := Lib.hid (info_l vl (by rw [EVL.out]; rfl))
  clear hb10 s1 s2 s3 hd10 CA1 HD HEX3 HEX4 HST4 HST5 HM4 c3' f3' E9 HLEN
  go_wp2_with fail
  refine CS1.out.mono ?_
  rintro e w11 ⟨rfl, hb11⟩
  have hd11 := HD10.out.next hb11
  have HM11 : Hid (w11.rangeAt b2 0 us) := Lib.hid hd11.wd.rg
  have CA2 := Lib.hid (a2_gone (wdL 4, hd0) w11 (HTA.out _ hd11.below) nil_at (wd_ok (by decide)) (fun g => ag_gone DG g 4 (by decide)))
  rw [← EUS.out] at CA2
  have HD11 := Lib.hid hd11
  clear hb11 hd11 CS1 HD10
  go_wp2_with (first
    | (refine at_load (.tmp 2) ?_; refine Row.still (by first | exact Free.wanted_of rfl rfl rfl | rfl) (Hk.exec_mid 49 (.tmp 2) rfl b2 0 rfl us _ HM11.out Tryz.underlying49 rfl HIU.out) ?_; simp only [Act.put, List.setIfInBounds_toArray, List.set_cons_succ, List.set_cons_zero]))
  refine CA2.out.mono ?_
  rintro e w12 ⟨hb12, A2, n2, rfl⟩
  have hd12 := HD11.out.next hb12
  have HM12 : Hid (w12.rangeAt b3 0 ul) := Lib.hid hd12.late.rg
  have CA3 := Lib.hid (a2_keep (wdL 5, hd0) w12 (HTA.out _ hd12.below) nil_at (wd_ok (by decide)) (fun g => ag_keep DG g _ (by rw [cnt_wd 5 (by decide) 1 2 (by decide)]; rfl) (by rw [cnt_wd 5 (by decide) 2 2 (by decide)]; rfl) (fun _ => Or.inr (by decide))))
  rw [← EUL.out] at CA3
  have HD12 := Lib.hid hd12
  clear hb12 hd12 CA2 HD11 HM11
  go_wp2_with (first
    | (refine at_load (.tmp 3) ?_; refine Row.still (by first | exact Free.wanted_of rfl rfl rfl | rfl) (Hk.exec_mid 49 (.tmp 3) rfl b3 0 rfl ul _ HM12.out Tryz.underlying49 rfl HIUL.out) ?_; simp only [Act.put, List.setIfInBounds_toArray, List.set_cons_succ, List.set_cons_zero]))
  refine CA3.out.mono ?_
  rintro e w13 ⟨hb13, A3, n3, x3, rfl, s1, s2, s3⟩
  have hd13 := HD12.out.next hb13
  have CS3 := Lib.hid (ONE.out w13 hd13 A3 n3 x3 s1 s2 s3)
  have HD13 := Lib.hid hd13
  clear hb13 hd13 s1 s2 s3 CA3 HD12 HM12
  go_wp2_with fail
  refine CS3.out.mono ?_
  rintro e w14 ⟨rfl, hb14⟩
  have hd14 := HD13.out.next hb14
  have HD14 := Lib.hid hd14
  clear hb14 hd14 CS3 HD13
  go_wp2_with fail
  -- the contradictions
  refine Free.wp_region_free 4 [(2, .ind (fun g => .agg (encPat (waiveP 0) (hdW g)).toArray) (fun g w => Row w g 3 [.int .i64 0]))] (fun w => HdIs W w g1 g2 b1 b2 b3 b4 b5 ms us ul vs vl) (by kernel_rfl) (by kernel_rfl) ?_ (HD14.out.next (Below.refl _ _).drew) (fun w w' h hg => h.next hg) ?_
  · intro j mk r hf x w w' hr hg
    simp only [Free.find] at hf
    split at hf
    · injection hf with hf
      injection hf with e1 e2
      subst e2
      exact hr.below hg hr.lt
    · cases hf
  simp only [List.take_succ_cons, List.take_zero]
  apply Free.chain_still rfl rfl
  · intro w' hB hA
    exact Hk.exec_mid 49 (.tmp 4) rfl b4 0 rfl vs _ hB.oth.rg Tryz.underlying49 rfl HIV.out
  simp only [Act.put, List.setIfInBounds_toArray, List.set_cons_succ, List.set_cons_zero]
  apply Free.chain_still rfl rfl
  · intro w' hB hA
    exact Hk.exec_mid 49 (.tmp 2) rfl b2 0 rfl us _ hB.wd.rg Tryz.underlying49 rfl HIU.out
  simp only [Act.put, List.setIfInBounds_toArray, List.set_cons_succ, List.set_cons_zero]
  apply Free.chain_ind rfl rfl
  · intro w' hB hA
    refine Free.opRun_call (f := 38) (args := #[.int .i64 0]) (by go_light; go_simp <;> rfl) ?_
    refine (wv_any 0 w').mono ?_
    rintro e w2 ⟨g, rfl, h1, h2⟩
    exact ⟨_, rfl, h2, g, rfl, h1⟩
  intro g3
  simp only [Act.put, List.setIfInBounds_toArray, List.set_cons_succ, List.set_cons_zero]
  obtain ⟨pt, ept⟩ : ∃ pt, pt = encPat (waiveP 0) (hdW g3) := ⟨_, rfl⟩
  obtain ⟨ts, ets⟩ : ∃ ts, ts = encLet (propL 0 0 0, hdW g3) := ⟨_, rfl⟩
  rw [← ept]
  apply Free.chain_still (v := .agg ts.toArray) rfl rfl
  · intro w' hB hA
    rw [ets]
    exact exec_third (.tmp 36) rfl (by rw [← ept]; rfl)
  simp only [Act.put, List.setIfInBounds_toArray, List.set_cons_succ, List.set_cons_zero]
  apply Free.chain_nil
  intro w15 hd15 hg15 hh15
  have hrw := hh15 _ List.mem_cons_self
  dsimp only at hrw
  simp only [List.drop_succ_cons, List.drop_zero]
  have htl : ts.length = 25 := by rw [ets]; rfl
  have hvl : vs.length = 25 := by rw [EVS.out]; rfl
  have hul : us.length = 25 := by rw [EUS.out]; rfl
  obtain ⟨i1, hi1, hz1, hs1, _⟩ := info_of info_let
  obtain ⟨W16, e16⟩ : ∃ W16, W16 = w15.alloc (.cells (vs ++ us ++ ts).toArray 49) := ⟨_, rfl⟩
  have hb16 : Below w15.heap.size w15 W16 := by rw [e16]; exact (Below.refl _ _).alloc (Nat.le_refl _) _
  have hr16 : Row W16 w15.heap.size 49 (vs ++ us ++ ts) := by rw [e16]; exact Row.new _ _ _
  have HB3 : Hid ((Instr.buildSlice 28 3 #[(0, .agg vs.toArray), (1, .agg us.toArray), (2, .agg ts.toArray)]).run Tryz.prog w15 = .ok (.slice (some ⟨w15.heap.size, 0, none⟩) 3 3) W16) := Lib.hid (by
    rw [e16]
    exact run_slice_three w15 28 49 i1 _ Tryz.underlying28 hi1 hz1 vs us ts (by rw [hvl, hs1]) (by rw [hul, hs1]) (by rw [htl, hs1]) (by rw [hs1]; decide) (by rw [hs1]; decide))
  obtain ⟨l, el⟩ : ∃ l : List Rl, l = [(propL 5 4 1, hdW g2), (wdL 4, hd0), (propL 0 0 0, hdW g3)] := ⟨_, rfl⟩
  have hll : l.length = 3 := by rw [el]; rfl
  have hd16 := hd15.next hb16
  have hlets : LetsAt W16 (some ⟨w15.heap.size, 0, none⟩) l := by
    refine ⟨?_, ?_, ?_⟩
    · refine Apl.sl_of_cells (fun _ => rfl) hr16 (fun j u hj => ?_)
      rw [el] at hj
      simp only [List.flatMap_cons, List.flatMap_nil, List.append_nil] at hj
      rw [← EVS.out, ← ets, ← EUS.out, ← List.append_assoc] at hj
      simpa using hj
    · intro q hq
      rw [el] at hq
      simp only [List.mem_cons, List.not_mem_nil, or_false] at hq
      rcases hq with rfl | rfl | rfl
      · exact waive_at hd16.w2
      · exact nil_at
      · exact waive_at (hrw.below hb16 hrw.lt)
    · intro q hq
      rw [el] at hq
      simp only [List.mem_cons, List.not_mem_nil, or_false] at hq
      rcases hq with rfl | rfl | rfl
      · exact prop_ok (by decide) (by decide) (by decide) (by decide)
      · exact wd_ok (by decide)
      · exact prop_ok (by decide) (by decide) (by decide) (by decide)
  have CC := Lib.hid (co_any (some ⟨w15.heap.size, 0, none⟩) 3 l W16 (HTA.out _ hd16.below) hlets (by rw [hll]; decide))
  rw [hll] at CC
  have HPS : Hid (pairsF DG l = [(0, 2)]) := Lib.hid (by rw [el]; exact pairs_02 _ _ _)
  have HD16 := Lib.hid hd16
  clear htl hvl hul hi1 hz1 hs1 e16 hb16 hr16 el hll hd16 hlets hrw hh15 hg15 hd15 HD14 ept ets
  generalize w15.heap.size = b6 at *
  go_wp2_with (first
    | (refine at_bs3 (.tmp 34) ?_; refine Row.moved rfl (exec_slice3 rfl HB3.out) ?_; simp only [Act.put, List.setIfInBounds_toArray, List.set_cons_succ, List.set_cons_zero]))
  refine CC.out.mono ?_
  rintro e w17 ⟨hb17, A7, c7, ps, rfl, sp, ep⟩
  rw [HPS.out] at ep
  subst ep
  have hd17 := HD16.out.next hb17
  have HM17 : Hid (w17.rangeAt b4 0 vs) := Lib.hid hd17.oth.rg
  have HTR : Hid (Below w17.heap.size w17 w17 → True) := Lib.hid (fun _ => trivial)
  have CA4 := Lib.hid (a2_gone (propL 5 4 1, hdW g2) w17 (HTA.out _ hd17.below) (waive_at hd17.w2) (prop_ok (by decide) (by decide) (by decide) (by decide)) (fun g => (ag_late DG g 5 (by decide) _ (dg_late 5 (by decide))).trans (by rfl)))
  rw [← EVS.out] at CA4
  have HSP := Lib.hid sp
  have HD17 := Lib.hid hd17
  clear hb17 hd17 sp CC HD16 HPS HB3
  go_wp2_with (first
    | (refine at_load (.tmp 4) ?_; refine Row.still (by first | exact Free.wanted_of rfl rfl rfl | rfl) (Hk.exec_mid 49 (.tmp 4) rfl b4 0 rfl vs _ HM17.out Tryz.underlying49 rfl HIV.out) ?_; simp only [Act.put, List.setIfInBounds_toArray, List.set_cons_succ, List.set_cons_zero]))
  refine CA4.out.mono ?_
  rintro e w18 ⟨hb18, A8, c8, rfl⟩
  have hd18 := HD17.out.next hb18
  have hsp18 := HSP.out.below hb18 (Nat.le_refl _)
  have HM18 : Hid (w18.rangeAt b5 0 vl) := Lib.hid hd18.lat.rg
  have CA5 := Lib.hid (a2_keep (propL 6 4 1, hdW g2) w18 (HTA.out _ hd18.below) (waive_at hd18.w2) (prop_ok (by decide) (by decide) (by decide) (by decide)) (fun g => (ag_late DG g 6 (by decide) _ (dg_late 6 (by decide))).trans (by rfl)))
  rw [← EVL.out] at CA5
  have HSP18 := Lib.hid hsp18
  have HD18 := Lib.hid hd18
  clear hb18 hd18 hsp18 CA4 HD17 HM17 HSP
  go_wp2_with (first
    | (refine at_load (.tmp 5) ?_; refine Row.still (by first | exact Free.wanted_of rfl rfl rfl | rfl) (Hk.exec_mid 49 (.tmp 5) rfl b5 0 rfl vl _ HM18.out Tryz.underlying49 rfl HIVL.out) ?_; simp only [Act.put, List.setIfInBounds_toArray, List.set_cons_succ, List.set_cons_zero]))
  refine CA5.out.mono ?_
  rintro e w19 ⟨hb19, A9, c9, x9, rfl, s1, s2, s3⟩
  have hd19 := HD18.out.next hb19
  have hsp19 := HSP18.out.below hb19 (Nat.le_refl _)
  have CS5 := Lib.hid (ONE.out w19 hd19 A9 c9 x9 s1 s2 s3)
  have HSP19 := Lib.hid hsp19
  have HD19 := Lib.hid hd19
  clear hb19 hd19 hsp19 s1 s2 s3 CA5 HD18 HM18 HSP18
  go_wp2_with fail
  refine CS5.out.mono ?_
  rintro e w20 ⟨rfl, hb20⟩
  have hd20 := HD19.out.next hb20
  have hsp20 := HSP19.out.below hb20 (Nat.le_refl _)
  obtain ⟨i2, hi2, hz2, hs2, _⟩ := info_of info_pair
  obtain ⟨W21, e21⟩ : ∃ W21, W21 = w20.alloc (.cells #[.int .i64 0, .int .i64 2] 106) := ⟨_, rfl⟩
  have hb21 : Below w20.heap.size w20 W21 := by rw [e21]; exact (Below.refl _ _).alloc (Nat.le_refl _) _
  have hr21 : Row W21 w20.heap.size 106 [.int .i64 0, .int .i64 2] := by rw [e21]; exact Row.new _ _ _
  have HB1 : Hid ((Instr.buildSlice 103 1 #[(0, .agg #[.int .i64 0, .int .i64 2])]).run Tryz.prog w20 = .ok (.slice (some ⟨w20.heap.size, 0, none⟩) 1 1) W21) := Lib.hid (by
    rw [e21]
    exact Apk.run_slice_one (P := Tryz.prog) w20 103 106 i2 _ Tryz.underlying103 hi2 hz2 #[.int .i64 0, .int .i64 2] (by rw [hs2]; rfl) (by rw [hs2]; decide) (by rw [hs2]; decide))
  have hd21 := hd20.next hb21
  have CP := Lib.hid (pairs_any A7 c7 [(0, 2)] (some ⟨w20.heap.size, 0, none⟩) 1 [(0, 2)] W21 (hsp20.below hb21 (Nat.le_refl _)) (Apl.sl_of_cells (fun _ => rfl) hr21 (fun j u hj => by simpa [encP] using hj)) (by simp) (by simp))
  have HD21 := Lib.hid hd21
  clear hb20 hd20 hsp20 hi2 hz2 hs2 e21 hb21 hr21 hd21 CS5 HD19 HSP19
  generalize w20.heap.size = b7 at *
  go_wp2_with (first
    | (refine at_bs (.tmp 55) ?_; refine Row.moved (by first | exact Free.wanted_of rfl rfl rfl | rfl) (Apl.exec_slice rfl HB1.out) ?_; simp only [Act.put, List.setIfInBounds_toArray, List.set_cons_succ, List.set_cons_zero]))
  refine CP.out.mono ?_
  rintro e w22 ⟨rfl, hb22⟩
  have hd22 := HD21.out.next hb22
  have HM22 : Hid (w22.rangeAt b2 0 us) := Lib.hid hd22.wd.rg
  have CD := Lib.hid (dg_any (wdL 4, hd0) w22 (HTA.out _ hd22.below) nil_at (wd_ok (by decide)))
  rw [dg_wd 4 (by decide), ← EUS.out, ← empty_eq] at CD
  have HD22 := Lib.hid hd22
  clear hb22 hd22 CP HD21 HB1
  go_wp2_with (first
    | (refine at_load (.tmp 2) ?_; refine Row.still (by first | exact Free.wanted_of rfl rfl rfl | rfl) (Hk.exec_mid 49 (.tmp 2) rfl b2 0 rfl us _ HM22.out Tryz.underlying49 rfl HIU.out) ?_; simp only [Act.put, List.setIfInBounds_toArray, List.set_cons_succ, List.set_cons_zero]))
  refine CD.out.mono ?_
  rintro e w23 ⟨rfl, hb23⟩
  have HF := Lib.hid (FIN.out w23 (HD22.out.next hb23).below)
  clear hb23 CD HD22 HM22
  go_wp2_with fail
  exact HF.out
end Go.Proofs.YtekfoaenomgjgaaGreatDoor

namespace Go.Opn
open Go Go.RowKit Go.ChangeShapes Go.WideShapes Go.Deep
section
variable {H : Type} {enc : TypeId × Value → H} {P : Program} {w : World} {base : Nat} {spare : Nat → Bool} {held : Bool}
/-- A value of a slice's type, as the one cell that reads. -/
theorem one_of {t e : TypeId} {v : Value} {d : DataW H} {ps : List MemPlace} {r : Reach} {b0 : Nat} (ht : P.underlying t = some (.slice e)) (hv : Value.okWide P w r b0 t v) (h : DataW.Trod enc P w base spare held t v d ps) :
    ∃ f x, DataW.trod enc P w base spare held f t [v] = some x := by
  obtain ⟨fuel, hf⟩ := h
  have hvc : ∀ x : Value, v.cells.toList = [x] → v = x := by
    intro x hx
    cases v <;> simp [Value.cells] at hx <;> first | exact hx | skip
    simp only [Value.okWide, ht] at hv
    simp [Cell.okWide, Cell.ok, ht] at hv
  rcases open_slice ht hf with ⟨h0, _⟩ | ⟨a, len, cap, m, n, D, Pl, hcs, _⟩
  · rw [h0] at hf; rw [hvc _ h0]; exact ⟨_, _, hf⟩
  · rw [hcs] at hf; rw [hvc _ hcs]; exact ⟨_, _, hf⟩
/-- A slice's cell: its value and a list of what its elements read as. -/
theorem open_list {α : Type} [Inhabited α] {ec : α → List Value} {K : α → Prop} {t e : TypeId} {v : Value} {f : Nat} {x : DataW H × List MemPlace} (ht : P.underlying t = some (.slice e)) (h0 : 0 < P.cellsOf e)
    (hel : ∀ (f : Nat) (cs : List Value) (x : DataW H × List MemPlace), DataW.trod enc P w base spare held f e cs = some x → ∃ a : α, K a ∧ ∀ (p : Nat) u, (ec a)[p]? = some u → cs[p]? = some u)
    (h : DataW.trod enc P w base spare held f t [v] = some x) :
    ∃ (A : Option Addr) (c : Nat) (l : List α), v = .slice A l.length c ∧ l.length ≤ 9223372036854775807 ∧ l.length ≤ c ∧ SL w (P.cellsOf e) ec A l ∧ ∀ a ∈ l, K a := by
  rcases open_slice ht h with ⟨h1, _⟩ | ⟨a, len, cap, m, n, D, Pl, hcs, hb, hl, hm, hmm, hx, hi⟩
  · cases h1
    exact ⟨none, 0, [], rfl, Nat.zero_le _, Nat.zero_le _, SL.nil, fun a ha => by cases ha⟩
  · cases hcs
    have hi2 : ∀ i, i < len → ∃ y : α, K y ∧ ∃ b off, a = ⟨b, off, none⟩ ∧ ∀ p u, (ec y)[p]? = some u → w.cell? ⟨b, off + (i * P.cellsOf e + p), none⟩ = some u := by
      intro i hil
      have him : i < m := by rw [hmm]; split <;> omega
      obtain ⟨cs', hc, ht'⟩ := hi i him
      obtain ⟨_, hcl, hat⟩ := World.cells?_some hc
      have hs : a.spot = none := by
        obtain ⟨cs0, hc0, _⟩ := hi 0 (by omega)
        obtain ⟨_, hcl0, hat0⟩ := World.cells?_some hc0
        have h1 := hat0 0 h0
        rw [Nat.zero_mul, List.getElem?_eq_getElem (by omega)] at h1
        have e0 : (a.add 0).add 0 = a := rfl
        rw [e0] at h1
        unfold World.cell? at h1
        split at h1
        · split at h1
          · cases h1
          · rename_i hsp
            simpa using hsp
        · cases h1
      obtain ⟨y, hy, hyc⟩ := hel _ _ _ ht'
      obtain ⟨b, off, sp⟩ := a
      simp only at hs
      subst hs
      refine ⟨y, hy, b, off, rfl, fun p u hu => ?_⟩
      have hu' := hyc p u hu
      have hp : p < P.cellsOf e := by rw [← hcl]; exact (List.getElem?_eq_some_iff.1 hu').1
      have h2 := hat p hp
      rw [add_add, hu'] at h2
      rw [← h2]
      congr 1
      unfold Addr.add
      split
      · rename_i hz; rw [hz]; rfl
      · rfl
    obtain ⟨g, hg⟩ := choose_lt hi2
    unfold maxLen at hm
    refine ⟨some a, cap, (List.range len).map g, by simp, by simp; omega, by simpa using hl, ⟨fun hn => ?_⟩, fun y hy => ?_⟩
    · have h0 : 0 < len := by
        rcases Nat.eq_zero_or_pos len with h | h
        · subst h; simp at hn
        · exact h
      obtain ⟨_, b, off, hA, _⟩ := hg 0 h0
      refine ⟨b, off, by rw [hA], fun i y hie p u hu => ?_⟩
      have hil : i < len := by
        have := (List.getElem?_eq_some_iff.1 hie).1
        simpa using this
      have he : g i = y := by
        rw [List.getElem?_map, List.getElem?_range hil] at hie
        simpa using hie
      obtain ⟨_, b', off', hA', hcell⟩ := hg i hil
      rw [hA] at hA'
      injection hA' with e1 e2
      subst e1 e2
      rw [← he] at hu
      exact hcell p u hu
    · obtain ⟨i, hi, rfl⟩ := List.mem_map.1 hy
      exact (hg i (List.mem_range.1 hi)).1
/-- A slice in a struct. -/
theorem leaf_list {α : Type} [Inhabited α] {ec : α → List Value} {K : α → Prop} {t t' e : TypeId} {f fuel p : Nat} {cs : List Value} {x : DataW H × List MemPlace} (ht : P.underlying t' = some (.slice e)) (h0 : 0 < P.cellsOf e)
    (hel : ∀ (f : Nat) (cs : List Value) (x : DataW H × List MemPlace), DataW.trod enc P w base spare held f e cs = some x → ∃ a : α, K a ∧ ∀ (p : Nat) u, (ec a)[p]? = some u → cs[p]? = some u)
    (h : leafAt P f t p = some t') (hx : DataW.trod enc P w base spare held fuel t cs = some x) :
    ∃ (A : Option Addr) (c : Nat) (l : List α), cs[p]? = some (.slice A l.length c) ∧ l.length ≤ 9223372036854775807 ∧ l.length ≤ c ∧ SL w (P.cellsOf e) ec A l ∧ ∀ a ∈ l, K a := by
  obtain ⟨v, m, y, hv, hy⟩ := leaf f h hx
  obtain ⟨A, c, l, rfl, h1, h2, h3, h4⟩ := open_list ht h0 hel hy
  exact ⟨A, c, l, hv, h1, h2, h3, h4⟩
end
end Go.Opn

namespace Go.Proofs.YtekfoaenomgjgaaGreatDoor
open Go.RowKit Go.Blk Go.Cs Go.Opn Go.ChangeShapes Go.WideShapes Go.Deep Go.OpenShut

theorem cells_int1 : Tryz.prog.cellsOf 3 = 1 := by kernel_rfl
theorem cells_cond2 : Tryz.prog.cellsOf 133 = 2 := by kernel_rfl
theorem cells_let25 : Tryz.prog.cellsOf 49 = 25 := by kernel_rfl
/-- The numbers of a letter are numbers of 64 bits. -/
structure LetN (x : Let) : Prop where
  nums : i64P x.kind ∧ i64P x.party ∧ i64P x.number ∧ i64P x.sent ∧ i64P x.day
  patch : ∀ n ∈ x.patch.nums, i64P n
/-- A letter that lies in memory, of whatever size. -/
structure LetW (w : World) (r : Rl) : Prop where
  pat : PatAt w r.1.patch r.2
  nm : LetN r.1
theorem b2i_i64 (b : Bool) : i64P (b2i b) := by cases b <;> (unfold i64P b2i; decide)
theorem int_of {H : Type} {enc : TypeId × Value → H} {w : World} {base : Nat} {spare : Nat → Bool} {held : Bool} {fuel : Nat} {cs : List Value} {x : DataW H × List MemPlace} (h : DataW.trod enc Tryz.prog w base spare held fuel 3 cs = some x) :
    ∃ a : Int, i64P a ∧ ∀ (p : Nat) u, (Cs.encI a)[p]? = some u → cs[p]? = some u := by
  obtain ⟨n, hn, _, hw⟩ := DataW.trod_int Tryz.underlying3 h
  refine ⟨n, bounds_i64 hw, fun p u hu => ?_⟩
  rw [hn]; exact hu
theorem cond_of {H : Type} {enc : TypeId × Value → H} {w : World} {base : Nat} {spare : Nat → Bool} {held : Bool} {fuel : Nat} {cs : List Value} {x : DataW H × List MemPlace} (hf : DataW.trod enc Tryz.prog w base spare held fuel 133 cs = some x) :
    ∃ a : Int × Int, (i64P a.1 ∧ i64P a.2) ∧ ∀ (p : Nat) u, (encCond a)[p]? = some u → cs[p]? = some u := by
  obtain ⟨a0, h0, w0⟩ := leaf_int (f := 3) (p := 0) Tryz.underlying3 (by kernel_rfl) hf
  obtain ⟨a1, h1, w1⟩ := leaf_int (f := 3) (p := 1) Tryz.underlying3 (by kernel_rfl) hf
  refine ⟨(a0, a1), ⟨bounds_i64 w0, bounds_i64 w1⟩, fun p u hu => ?_⟩
  match p, hu with
  | 0, hu => cases hu; exact h0
  | 1, hu => cases hu; exact h1
  | p + 2, hu => simp [encCond] at hu
instance : Inhabited Rl := ⟨(⟨0, 0, 0, 0, 0, Pat.zero, ⟨#[]⟩⟩, ⟨none, 0, none, 0⟩)⟩
theorem nums_i64 {p : Pat} (h1 : i64P p.kind ∧ i64P p.days) (h2 : p.cl.length ≤ 9223372036854775807) (h3 : ∀ a ∈ p.cl, i64P a) (h4 : p.new.start.length ≤ 9223372036854775807) (h5 : ∀ a ∈ p.new.start, i64P a.1 ∧ i64P a.2)
    (h6 : ∀ n ∈ p.new.front, i64P n) (h7 : ∀ n ∈ p.new.back, i64P n) : ∀ n ∈ p.nums, i64P n := by
  intro n hn
  have hl : ∀ k : Nat, k ≤ 9223372036854775807 → i64P (k : Int) := fun k hk => by unfold i64P; omega
  simp only [Pat.nums, Cls.nums, List.mem_append, List.mem_cons, List.not_mem_nil, or_false, List.mem_flatMap] at hn
  rcases hn with ((rfl | rfl | rfl) | hn) | ((((hn | hn) | hn) | hn) | hn)
  · exact h1.1
  · exact h1.2
  · exact hl _ h2
  · exact h3 n hn
  · exact h6 n hn
  · rcases hn with rfl | rfl <;> exact b2i_i64 _
  · exact h7 n hn
  · rcases hn with rfl | rfl
    · exact b2i_i64 _
    · exact hl _ h4
  · obtain ⟨s, hs, hn⟩ := hn
    rcases hn with rfl | rfl
    · exact (h5 s hs).1
    · exact (h5 s hs).2
set_option maxRecDepth 100000 in
theorem let_of {H : Type} {enc : TypeId × Value → H} {w : World} {base : Nat} {spare : Nat → Bool} {held : Bool} {fuel : Nat} {cs : List Value} {x : DataW H × List MemPlace} (hf : DataW.trod enc Tryz.prog w base spare held fuel 49 cs = some x) :
    ∃ a : Rl, LetW w a ∧ ∀ (p : Nat) u, (encLet a)[p]? = some u → cs[p]? = some u := by
  obtain ⟨a0, h0, w0⟩ := leaf_int (f := 5) (p := 0) Tryz.underlying3 (by kernel_rfl) hf
  obtain ⟨a1, h1, w1⟩ := leaf_int (f := 5) (p := 1) Tryz.underlying3 (by kernel_rfl) hf
  obtain ⟨a2, h2, w2⟩ := leaf_int (f := 5) (p := 2) Tryz.underlying3 (by kernel_rfl) hf
  obtain ⟨a3, h3, w3⟩ := leaf_int (f := 5) (p := 3) Tryz.underlying3 (by kernel_rfl) hf
  obtain ⟨a4, h4, w4⟩ := leaf_int (f := 5) (p := 4) Tryz.underlying3 (by kernel_rfl) hf
  obtain ⟨a5, h5, w5⟩ := leaf_int (f := 5) (p := 5) Tryz.underlying3 (by kernel_rfl) hf
  obtain ⟨a7, h7, w7⟩ := leaf_int (f := 5) (p := 7) Tryz.underlying3 (by kernel_rfl) hf
  obtain ⟨a8, h8, w8⟩ := leaf_int (f := 5) (p := 8) Tryz.underlying3 (by kernel_rfl) hf
  obtain ⟨a9, h9, w9⟩ := leaf_int (f := 5) (p := 9) Tryz.underlying3 (by kernel_rfl) hf
  obtain ⟨a10, h10, w10⟩ := leaf_int (f := 5) (p := 10) Tryz.underlying3 (by kernel_rfl) hf
  obtain ⟨a12, h12, w12⟩ := leaf_int (f := 5) (p := 12) Tryz.underlying3 (by kernel_rfl) hf
  obtain ⟨a13, h13, w13⟩ := leaf_int (f := 5) (p := 13) Tryz.underlying3 (by kernel_rfl) hf
  obtain ⟨a16, h16, w16⟩ := leaf_int (f := 5) (p := 16) Tryz.underlying3 (by kernel_rfl) hf
  obtain ⟨a17, h17, w17⟩ := leaf_int (f := 5) (p := 17) Tryz.underlying3 (by kernel_rfl) hf
  obtain ⟨a18, h18, w18⟩ := leaf_int (f := 5) (p := 18) Tryz.underlying3 (by kernel_rfl) hf
  obtain ⟨a19, h19, w19⟩ := leaf_int (f := 5) (p := 19) Tryz.underlying3 (by kernel_rfl) hf
  obtain ⟨a20, h20, w20⟩ := leaf_int (f := 5) (p := 20) Tryz.underlying3 (by kernel_rfl) hf
  obtain ⟨a21, h21, w21⟩ := leaf_int (f := 5) (p := 21) Tryz.underlying3 (by kernel_rfl) hf
  obtain ⟨a23, h23, w23⟩ := leaf_int (f := 5) (p := 23) Tryz.underlying3 (by kernel_rfl) hf
  obtain ⟨A, c, l, h6, e1, e2, e3, e4⟩ := leaf_list (α := Int) (ec := Cs.encI) (K := i64P) (f := 5) (p := 6) Tryz.underlying22 (by rw [cells_int1]; decide) (fun f cs x h => int_of h) (by kernel_rfl) hf
  rw [cells_int1] at e3
  obtain ⟨B, d, m, h11, g1, g2, g3, g4⟩ := leaf_list (α := Int × Int) (ec := encCond) (K := fun a => i64P a.1 ∧ i64P a.2) (f := 5) (p := 11) Tryz.underlying41 (by rw [cells_cond2]; decide) (fun f cs x h => cond_of h) (by kernel_rfl) hf
  rw [cells_cond2] at g3
  obtain ⟨a14, h14⟩ := leaf_bool (f := 5) (p := 14) Tryz.underlying4 (by kernel_rfl) hf
  obtain ⟨a15, h15⟩ := leaf_bool (f := 5) (p := 15) Tryz.underlying4 (by kernel_rfl) hf
  obtain ⟨a22, h22⟩ := leaf_bool (f := 5) (p := 22) Tryz.underlying4 (by kernel_rfl) hf
  obtain ⟨a24, h24, w24⟩ := leaf_string (f := 5) (p := 24) Tryz.underlying9 (by kernel_rfl) hf
  refine ⟨(⟨a0, a1, a2, a3, a4, ⟨a5, l, ⟨a7, a8, a9, a10, m, a12, a13, a14, a15, a16, a17, a18, a19, a20, a21, a22⟩, a23⟩, a24⟩, ⟨A, c, B, d⟩), ⟨⟨e3, g3⟩, ⟨⟨bounds_i64 w0, bounds_i64 w1, bounds_i64 w2, bounds_i64 w3, bounds_i64 w4⟩, nums_i64 ⟨bounds_i64 w5, bounds_i64 w23⟩ e1 e4 g1 g4 ?_ ?_⟩⟩, fun p u hu => ?_⟩
  · intro n hn
    simp only [Cls.front, List.mem_cons, List.not_mem_nil, or_false] at hn
    rcases hn with rfl | rfl | rfl | rfl | rfl | rfl <;> (apply bounds_i64; assumption)
  · intro n hn
    simp only [Cls.back, List.mem_cons, List.not_mem_nil, or_false] at hn
    rcases hn with rfl | rfl | rfl | rfl | rfl | rfl <;> (apply bounds_i64; assumption)
  match p, hu with
  | 0, hu => cases hu; exact h0
  | 1, hu => cases hu; exact h1
  | 2, hu => cases hu; exact h2
  | 3, hu => cases hu; exact h3
  | 4, hu => cases hu; exact h4
  | 5, hu => cases hu; exact h5
  | 6, hu => cases hu; exact h6
  | 7, hu => cases hu; exact h7
  | 8, hu => cases hu; exact h8
  | 9, hu => cases hu; exact h9
  | 10, hu => cases hu; exact h10
  | 11, hu => cases hu; exact h11
  | 12, hu => cases hu; exact h12
  | 13, hu => cases hu; exact h13
  | 14, hu => cases hu; exact h14
  | 15, hu => cases hu; exact h15
  | 16, hu => cases hu; exact h16
  | 17, hu => cases hu; exact h17
  | 18, hu => cases hu; exact h18
  | 19, hu => cases hu; exact h19
  | 20, hu => cases hu; exact h20
  | 21, hu => cases hu; exact h21
  | 22, hu => cases hu; exact h22
  | 23, hu => cases hu; exact h23
  | 24, hu => cases hu; exact h24
  | p + 25, hu => simp [encLet, encPat] at hu
set_option maxRecDepth 100000 in
theorem open_letters {H : Type} {enc : TypeId × Value → H} {w : World} {base : Nat} {spare : Nat → Bool} {held : Bool} {v : Value} {d : DataW H} {ps : List MemPlace} {r : Reach} {b0 : Nat} (hv : Value.okWide Tryz.prog w r b0 28 v) (h : DataW.Trod enc Tryz.prog w base spare held 28 v d ps) :
    ∃ (A : Option Addr) (c : Nat) (l : List Rl), v = .slice A l.length c ∧ l.length ≤ 9223372036854775807 ∧ l.length ≤ c ∧ SL w 25 encLet A l ∧ ∀ a ∈ l, LetW w a := by
  obtain ⟨f, x, hf⟩ := one_of Tryz.underlying28 hv h
  have := open_list (α := Rl) (ec := encLet) (K := fun a => LetW w a) Tryz.underlying28 (by rw [cells_let25]; decide) (fun f cs x h => let_of h) hf
  rw [cells_let25] at this
  exact this
set_option maxRecDepth 100000 in
theorem open_letter {H : Type} {enc : TypeId × Value → H} {w : World} {base : Nat} {spare : Nat → Bool} {held : Bool} {v : Value} {d : DataW H} {ps : List MemPlace} {r : Reach} {b0 : Nat} (hv : Value.okWide Tryz.prog w r b0 49 v) (h : DataW.Trod enc Tryz.prog w base spare held 49 v d ps) :
    ∃ x : Rl, v = .agg (encLet x).toArray ∧ LetW w x := by
  obtain ⟨cs, rfl, hsz⟩ := okWide_struct Tryz.underlying49 hv
  rw [cells_let25] at hsz
  obtain ⟨fuel, hf⟩ := h
  obtain ⟨a, ha, hcs⟩ := let_of hf
  refine ⟨a, ?_, ha⟩
  congr 1
  apply Array.ext'
  show cs.toList = encLet a
  apply List.ext_getElem?
  intro i
  by_cases hi : i < 25
  · obtain ⟨u, hu⟩ : ∃ u, (encLet a)[i]? = some u := ⟨_, List.getElem?_eq_getElem (by rw [encLet_len]; exact hi)⟩
    rw [hu]; exact hcs i u hu
  · rw [List.getElem?_eq_none (by simp; omega), List.getElem?_eq_none (by rw [encLet_len]; omega)]
/-- Letters in memory, of whatever sizes. -/
structure LetsW (w : World) (A : Option Addr) (l : List Rl) : Prop where
  sl : SL w 25 encLet A l
  el : ∀ r ∈ l, LetW w r
theorem LetW.ok {w : World} {r : Rl} (h : LetW w r) (hs : smallR r = true) : LetOk r.1 := by
  unfold smallR smallP at hs
  simp only [Bool.and_eq_true, decide_eq_true_eq] at hs
  exact ⟨h.nm.nums, ⟨h.nm.patch, by omega, by omega⟩, by omega⟩
theorem LetsW.ok {w : World} {A : Option Addr} {l : List Rl} {m : Nat} (h : LetsW w A l) (hs : smallL m l = true) : LetsAt w A l := by
  unfold smallL at hs
  simp only [Bool.and_eq_true, decide_eq_true_eq, List.all_eq_true] at hs
  exact ⟨h.sl, fun r hr => (h.el r hr).pat, fun r hr => (h.el r hr).ok (hs.2 r hr)⟩
end Go.Proofs.YtekfoaenomgjgaaGreatDoor
