/- Package chain: misplaced. No condition. -/
import Derived.Test.YtaaenobckipfkaaDoorCh3
import Derived.WalkMore
import Derived.Deep.WholeRow
import Derived.Laws.Tables
namespace Go.Proofs.YtaaenobckipfkaaDoor
open Go.RowKit Go.Blk Go.Opn

theorem stI : (Tryd.prog.info? 94).map (·.size) = some 2 := by kernel_rfl
theorem stInfo (x : Int) (g : Fn) (a b : Array Value) : (Tryd.prog.info? 94).map (·.size) = some (#[Value.int .i64 x, .func g a b] : Array Value).size := stI
theorem stAll (x : Int) (g : Fn) (a b : Array Value) : (#[Value.int .i64 x, .func g a b] : Array Value).all (·.oneCell') = true := by simp [Value.oneCell']
theorem stSize (x : Int) (g : Fn) (a b : Array Value) : (#[Value.int .i64 0, .nilFunc] : Array Value).size = (#[Value.int .i64 x, .func g a b] : Array Value).size := rfl
def RM (W : World) (l : List E31) (e : E31) (house : Int) (fd i : Value) (wr : World) : Prop :=
  ∃ k : Nat, k ≤ 3 ∧ i = .int .i64 k ∧ fd = .int .i64 0 ∧ Below W.heap.size W wr ∧ (1 ≤ k → limB l.length e = true) ∧ (2 ≤ k → argB l.length e house = true) ∧ (3 ≤ k → ordB l e = true)
set_option maxRecDepth 100000 in
set_option maxHeartbeats 4000000 in
theorem misp_any (A : Option Addr) (c : Nat) (l : List E31) (e0 : E31) (house : Int) (w : World) (hl : l.length ≤ 9223372036854775807) (h : SL w 7 encE A l) :
    Calls Tryd.prog 37 #[.slice A l.length c, .agg (encE e0).toArray, .int .i64 house] w fun en w' => en = .returned (.int .i64 (misp l e0 house)) ∧ Below w.heap.size w w' := by
  obtain ⟨xh, xq, xd, xp, xb, xr, xs⟩ := e0
  have HS := Lib.hid h
  clear h
  show Calls Tryd.prog 37 #[.slice A l.length c, .agg #[.int .i64 xh, .int .i64 xq, .int .i64 xd, .string xp, .string xb, .int .i64 xr, .int .i64 xs], .int .i64 house] w _
  go_enter Tryd.func37, Tryd.ntmps37
  go_wp2
  obtain ⟨W, eW⟩ : ∃ W, W = (((w.alloc (.cells #[.slice A l.length c] 26)).alloc (.cells #[.int .i64 xh, .int .i64 xq, .int .i64 xd, .string xp, .string xb, .int .i64 xr, .int .i64 xs] 37)).alloc (.cells #[.int .i64 house] 3)) := ⟨_, rfl⟩
  have bl : Blk W w.heap.size [.slice A l.length c] 26 := by rw [eW]; exact (Blk.alloc (Blk.alloc (Blk.new w [.slice A l.length c] 26) _) _)
  have be : Blk W (w.heap.size + 1) [.int .i64 xh, .int .i64 xq, .int .i64 xd, .string xp, .string xb, .int .i64 xr, .int .i64 xs] 37 := by
    have := Blk.new (w.alloc (.cells #[.slice A l.length c] 26)) [.int .i64 xh, .int .i64 xq, .int .i64 xd, .string xp, .string xb, .int .i64 xr, .int .i64 xs] 37
    rw [eW]; refine Blk.alloc ?_ _; simpa using this
  have bh : Blk W (w.heap.size + 1 + 1) [.int .i64 house] 3 := by
    have := Blk.new ((w.alloc (.cells #[.slice A l.length c] 26)).alloc (.cells #[.int .i64 xh, .int .i64 xq, .int .i64 xd, .string xp, .string xb, .int .i64 xr, .int .i64 xs] 37)) [.int .i64 house] 3
    rw [eW]; simpa using this
  have hb : Below w.heap.size w W := by
    rw [eW]; exact (((Below.refl _ w).alloc (Nat.le_refl _) _).alloc (by simp) _).alloc (by simp; omega) _
  rw [← eW]
  have c0 := bl.cellD 0 _ rfl
  have BL := Lib.hid bl
  have BE := Lib.hid be
  have BH := Lib.hid bh
  have HB := Lib.hid hb
  clear bl be bh hb eW
  go_step3
  go_wp2
  obtain ⟨cs, ecs⟩ : ∃ cs : List Value, cs = [.int .i64 3, (.func (.func 59) #[] #[.pointer (some ⟨W.heap.size, 0, none⟩), .pointer (some ⟨w.heap.size + 1, 0, none⟩)]), .int .i64 1, (.func (.func 60) #[] #[.pointer (some ⟨w.heap.size + 1, 0, none⟩), .pointer (some ⟨w.heap.size + 1 + 1, 0, none⟩), .pointer (some ⟨W.heap.size, 0, none⟩)]), .int .i64 15, (.func (.func 61) #[] #[.pointer (some ⟨W.heap.size, 0, none⟩), .pointer (some ⟨w.heap.size + 1, 0, none⟩), .pointer (some ⟨w.heap.size, 0, none⟩)])] := ⟨_, rfl⟩
  obtain ⟨V, eV⟩ : ∃ V, V = ((W.alloc (.cells #[.int .i64 l.length] 3)).alloc (.cells cs.toArray 94)) := ⟨_, rfl⟩
  have bn : Blk V W.heap.size [.int .i64 l.length] 3 := by rw [eV]; exact Blk.alloc (Blk.new W [.int .i64 l.length] 3) _
  have bc : Blk V (W.heap.size + 1) cs 94 := by
    have := Blk.new (W.alloc (.cells #[.int .i64 l.length] 3)) cs 94
    rw [eV]; simpa using this
  have hbv : Below W.heap.size W V := by rw [eV]; exact ((Below.refl _ W).alloc (Nat.le_refl _) _).alloc (by simp) _
  have BL2 := Lib.hid (BL.out.below hbv BL.out.lt)
  have BE2 := Lib.hid (BE.out.below hbv BE.out.lt)
  have BH2 := Lib.hid (BH.out.below hbv BH.out.lt)
  have HB2 := Lib.hid (HB.out.trans (hbv.mono HB.out.size))
  have BN := Lib.hid bn
  have BC := Lib.hid bc
  rw [ecs] at eV
  rw [← eV]
  have ECS := Lib.hid ecs
  clear bn bc hbv eV ecs BL BE BH HB c0
  go_step3
  go_wp2
  obtain ⟨e0, ee⟩ : ∃ e0 : E31, e0 = ⟨xh, xq, xd, xp, xb, xr, xs⟩ := ⟨_, rfl⟩
  have EE := Lib.hid ee
  have E0 : Hid (e0.house = xh ∧ e0.seq = xq ∧ e0.day = xd ∧ e0.body = xb) := by rw [ee]; exact ⟨rfl, rfl, rfl, rfl⟩
  have HST : Hid (RM V l e0 house (.int .i64 0) (.int .i64 0) V) := ⟨0, by decide, rfl, rfl, Below.refl _ _, fun h => by omega, fun h => by omega, fun h => by omega⟩
  clear ee
  go_loopw [8, 23] (fun fd i wr => RM V l e0 house fd i wr) (fun _ i _ => 3 - (intOf i).toNat)
  case atStart => exact HST.out
  case round =>
    clear HST
    obtain ⟨k, hk, rfl, rfl, hb, g1, g2, g3⟩ := hrel
    have bc := BC.out.below hb BC.out.lt
    have be := BE2.out.below hb BE2.out.lt
    have bn := BN.out.below hb BN.out.lt
    have bh := BH2.out.below hb BH2.out.lt
    have bl := BL2.out.below hb BL2.out.lt
    rw [ECS.out] at bc
    have hsz := hb.size
    match k, hk with
    | 0, _ =>
      have d0 := bc.cellD 0 _ rfl
      have d1 := bc.cellD 1 _ rfl
      have C1 : Hid (∀ w' : World, Below wr.heap.size wr w' → Calls Tryd.prog 59 #[.pointer (some ⟨W.heap.size, 0, none⟩), .pointer (some ⟨w.heap.size + 1, 0, none⟩)] w' fun en w2 => en = .returned (.bool (limB l.length e0)) ∧ Below w'.heap.size w' w2) := fun w' h => (lim_any W.heap.size (w.heap.size + 1) l.length e0 w' ((bn.below h bn.lt).cellD 0 _ rfl) (by rw [E0.out.2.2.2]; exact (be.below h be.lt).cellD 4 _ rfl)).mono (by rintro e v ⟨rfl, rfl⟩; exact ⟨rfl, Below.refl _ _⟩)
      have HBK := Lib.hid hb
      clear bc be bn bh bl hb g1 g2 g3
      go_wp2_with (with_reducible refine wpList_store_row rfl 94 (.tmp 11) (.tmp 26) rfl wr.heap.size #[.int .i64 3, (.func (.func 59) #[] #[.pointer (some ⟨W.heap.size, 0, none⟩), .pointer (some ⟨w.heap.size + 1, 0, none⟩)])] rfl rfl 94 #[.int .i64 0, .nilFunc] (heap_alloc_last wr _) (stInfo _ _ _ _) (stSize _ _ _ _) (stAll _ _ _ _) ?_; rw [World.setRow_alloc_new])
      refine (C1.out _ ((Below.refl _ _).alloc (Nat.le_refl _) _)).mono ?_
      rintro e w2 ⟨rfl, hb2⟩
      have H2 := Lib.hid ((HBK.out.alloc HBK.out.size (.cells #[.int .i64 3, (.func (.func 59) #[] #[.pointer (some ⟨W.heap.size, 0, none⟩), .pointer (some ⟨w.heap.size + 1, 0, none⟩)])] 94)).trans (hb2.mono (by simp; omega)))
      have cz : w2.cell? ⟨wr.heap.size, 0, none⟩ = some (.int .i64 3) := ((Blk.new wr [.int .i64 3, (.func (.func 59) #[] #[.pointer (some ⟨W.heap.size, 0, none⟩), .pointer (some ⟨w.heap.size + 1, 0, none⟩)])] 94).below hb2 (by simp)).cellD 0 _ rfl
      clear hb2 d0 d1 C1
      cases hL : limB l.length e0 with
      | true =>
        have KEY : Hid (RM V l e0 house (.int .i64 0) (.int .i64 1) w2) := ⟨1, by decide, rfl, rfl, H2.out, fun _ => hL, fun h => by omega, fun h => by omega⟩
        clear hL
        go_wp2_with fail
        go_roundw
        case rel =>
          go_light
          have key := KEY.out
          first | exact key | ((repeat apply Exists.intro); exact ⟨key, rfl⟩)
        case measure => simp [intOf]
      | false =>
        have FIN := Lib.hid (HB2.out.trans (H2.out.mono HB2.out.size))
        have hm : misp l e0 house = 3 := by unfold misp; rw [hL]; rfl
        have HM := Lib.hid hm
        clear hm hL
        go_wp2_with fail
        rw [Exit.noGoto_ret]
        go_ret
        exact ⟨by rw [← EE.out, HM.out]; rfl, FIN.out⟩
    | 1, _ =>
      have d0 := bc.cellD 2 _ rfl
      have d1 := bc.cellD 3 _ rfl
      have C1 : Hid (∀ w' : World, Below wr.heap.size wr w' → Calls Tryd.prog 60 #[.pointer (some ⟨w.heap.size + 1, 0, none⟩), .pointer (some ⟨w.heap.size + 1 + 1, 0, none⟩), .pointer (some ⟨W.heap.size, 0, none⟩)] w' fun en w2 => en = .returned (.bool (argB l.length e0 house)) ∧ Below w'.heap.size w' w2) := fun w' h => (arg_any W.heap.size (w.heap.size + 1) (w.heap.size + 1 + 1) l.length e0 house w' ((bn.below h bn.lt).cellD 0 _ rfl) ((bh.below h bh.lt).cellD 0 _ rfl) (by rw [E0.out.1]; exact (be.below h be.lt).cellD 0 _ rfl) (by rw [E0.out.2.1]; exact (be.below h be.lt).cellD 1 _ rfl) (by rw [E0.out.2.2.1]; exact (be.below h be.lt).cellD 2 _ rfl)).mono (by rintro e v ⟨rfl, rfl⟩; exact ⟨rfl, Below.refl _ _⟩)
      have HBK := Lib.hid hb
      have G1 := Lib.hid (g1 (by decide))
      clear bc be bn bh bl hb g1 g2 g3
      go_wp2_with (with_reducible refine wpList_store_row rfl 94 (.tmp 11) (.tmp 26) rfl wr.heap.size #[.int .i64 1, (.func (.func 60) #[] #[.pointer (some ⟨w.heap.size + 1, 0, none⟩), .pointer (some ⟨w.heap.size + 1 + 1, 0, none⟩), .pointer (some ⟨W.heap.size, 0, none⟩)])] rfl rfl 94 #[.int .i64 0, .nilFunc] (heap_alloc_last wr _) (stInfo _ _ _ _) (stSize _ _ _ _) (stAll _ _ _ _) ?_; rw [World.setRow_alloc_new])
      refine (C1.out _ ((Below.refl _ _).alloc (Nat.le_refl _) _)).mono ?_
      rintro e w2 ⟨rfl, hb2⟩
      have H2 := Lib.hid ((HBK.out.alloc HBK.out.size (.cells #[.int .i64 1, (.func (.func 60) #[] #[.pointer (some ⟨w.heap.size + 1, 0, none⟩), .pointer (some ⟨w.heap.size + 1 + 1, 0, none⟩), .pointer (some ⟨W.heap.size, 0, none⟩)])] 94)).trans (hb2.mono (by simp; omega)))
      have cz : w2.cell? ⟨wr.heap.size, 0, none⟩ = some (.int .i64 1) := ((Blk.new wr [.int .i64 1, (.func (.func 60) #[] #[.pointer (some ⟨w.heap.size + 1, 0, none⟩), .pointer (some ⟨w.heap.size + 1 + 1, 0, none⟩), .pointer (some ⟨W.heap.size, 0, none⟩)])] 94).below hb2 (by simp)).cellD 0 _ rfl
      clear hb2 d0 d1 C1
      cases hL : argB l.length e0 house with
      | true =>
        have KEY : Hid (RM V l e0 house (.int .i64 0) (.int .i64 2) w2) := ⟨2, by decide, rfl, rfl, H2.out, fun _ => G1.out, fun _ => hL, fun h => by omega⟩
        clear hL
        go_wp2_with fail
        go_roundw
        case rel =>
          go_light
          have key := KEY.out
          first | exact key | ((repeat apply Exists.intro); exact ⟨key, rfl⟩)
        case measure => simp [intOf]
      | false =>
        have FIN := Lib.hid (HB2.out.trans (H2.out.mono HB2.out.size))
        have hm : misp l e0 house = 1 := by unfold misp; rw [G1.out, hL]; rfl
        have HM := Lib.hid hm
        clear hm hL
        go_wp2_with fail
        rw [Exit.noGoto_ret]
        go_ret
        exact ⟨by rw [← EE.out, HM.out]; rfl, FIN.out⟩
    | 2, _ =>
      have d0 := bc.cellD 4 _ rfl
      have d1 := bc.cellD 5 _ rfl
      have C1 : Hid (∀ w' : World, Below wr.heap.size wr w' → Calls Tryd.prog 61 #[.pointer (some ⟨W.heap.size, 0, none⟩), .pointer (some ⟨w.heap.size + 1, 0, none⟩), .pointer (some ⟨w.heap.size, 0, none⟩)] w' fun en w2 => en = .returned (.bool (ordB l e0)) ∧ Below w'.heap.size w' w2) := fun w' h => ord_any W.heap.size (w.heap.size + 1) w.heap.size A c l e0 w' hl ((bn.below h bn.lt).cellD 0 _ rfl) ((bl.below h bl.lt).cellD 0 _ rfl) (HS.out.below ((HB2.out.trans (hb.mono HB2.out.size)).trans (h.mono (Nat.le_trans HB2.out.size hsz))) (Nat.le_refl _)) (by rw [E0.out.2.2.1]; exact (be.below h be.lt).cellD 2 _ rfl)
      have HBK := Lib.hid hb
      have G1 := Lib.hid (g1 (by decide))
      have G2 := Lib.hid (g2 (by decide))
      clear bc be bn bh bl hb g1 g2 g3
      go_wp2_with (with_reducible refine wpList_store_row rfl 94 (.tmp 11) (.tmp 26) rfl wr.heap.size #[.int .i64 15, (.func (.func 61) #[] #[.pointer (some ⟨W.heap.size, 0, none⟩), .pointer (some ⟨w.heap.size + 1, 0, none⟩), .pointer (some ⟨w.heap.size, 0, none⟩)])] rfl rfl 94 #[.int .i64 0, .nilFunc] (heap_alloc_last wr _) (stInfo _ _ _ _) (stSize _ _ _ _) (stAll _ _ _ _) ?_; rw [World.setRow_alloc_new])
      refine (C1.out _ ((Below.refl _ _).alloc (Nat.le_refl _) _)).mono ?_
      rintro e w2 ⟨rfl, hb2⟩
      have H2 := Lib.hid ((HBK.out.alloc HBK.out.size (.cells #[.int .i64 15, (.func (.func 61) #[] #[.pointer (some ⟨W.heap.size, 0, none⟩), .pointer (some ⟨w.heap.size + 1, 0, none⟩), .pointer (some ⟨w.heap.size, 0, none⟩)])] 94)).trans (hb2.mono (by simp; omega)))
      have cz : w2.cell? ⟨wr.heap.size, 0, none⟩ = some (.int .i64 15) := ((Blk.new wr [.int .i64 15, (.func (.func 61) #[] #[.pointer (some ⟨W.heap.size, 0, none⟩), .pointer (some ⟨w.heap.size + 1, 0, none⟩), .pointer (some ⟨w.heap.size, 0, none⟩)])] 94).below hb2 (by simp)).cellD 0 _ rfl
      clear hb2 d0 d1 C1
      cases hL : ordB l e0 with
      | true =>
        have KEY : Hid (RM V l e0 house (.int .i64 0) (.int .i64 3) w2) := ⟨3, by decide, rfl, rfl, H2.out, fun _ => G1.out, fun _ => G2.out, fun _ => hL⟩
        clear hL
        go_wp2_with fail
        go_roundw
        case rel =>
          go_light
          have key := KEY.out
          first | exact key | ((repeat apply Exists.intro); exact ⟨key, rfl⟩)
        case measure => simp [intOf]
      | false =>
        have FIN := Lib.hid (HB2.out.trans (H2.out.mono HB2.out.size))
        have hm : misp l e0 house = 15 := by unfold misp; rw [G1.out, G2.out, hL]; rfl
        have HM := Lib.hid hm
        clear hm hL
        go_wp2_with fail
        rw [Exit.noGoto_ret]
        go_ret
        exact ⟨by rw [← EE.out, HM.out]; rfl, FIN.out⟩
    | 3, _ =>
      have FIN := Lib.hid (HB2.out.trans (hb.mono HB2.out.size))
      have hm : misp l e0 house = 0 := by unfold misp; rw [g1 (by decide), g2 (by decide), g3 (by decide)]; rfl
      have HM := Lib.hid hm
      clear bc be bn bh bl hb g1 g2 g3 hm
      go_wp2_with fail
      first | rw [Exit.noGoto_ret] | skip
      go_ret
      exact ⟨by rw [← EE.out, HM.out]; rfl, FIN.out⟩
end Go.Proofs.YtaaenobckipfkaaDoor
