/- The reference of layer 30: whether a letter is well-formed; the text and the digest of a proposal; equal proposals. Condition: the letters lie in memory. -/
import Derived.Test.YtekfoaenomgjgaaGreatDoorRcC
import Derived.Test.YtekfoaenomgjgaaGreatDoorYG
namespace Go.Proofs.YtekfoaenomgjgaaGreatDoor
open Go.RowKit Go.W32 Go.Blk Go.Cs Go.Lib Go.Opn Go.Mg

theorem at_bld {P : Program} {ops : Array Oper} {rest : List Oper} {a : Act} {Q : Exit → Act → World → Prop} (t : TypeId) {d : Option Tmp} {ty : TypeId} {ps : String} {af : Array Edge} {g : Option (Nat × Bool)} {w : World}
    (h : wpList P ops Q (⟨d, .build t #[], ty, ps, af, g⟩ :: rest) a w) : wpList P ops Q (⟨d, .build t #[], ty, ps, af, g⟩ :: rest) a w := h
theorem exec_pat0 {ρ : Operand → Value} {op : Oper} {w : World} (ho : op.op = .build 47 #[]) :
    (execOp ρ op).run Tryz.prog w = .ok (.value (.agg (encPat Pat.zero hd0).toArray)) w := by
  unfold execOp
  simp only [ho]
  go_simp
  rfl
/-- A letter boxed. -/
structure BoxL (W W1 : World) (r : Rl) (cs ps : List Value) : Prop where
  row : Row W1 W.heap.size 49 cs
  below : Below W.heap.size W W1
  e : W.alloc (.cells cs.toArray 49) = W1
  rg : W1.rangeAt W.heap.size 5 ps
  cs : cs = encLet r
  ps : ps = encPat r.1.patch r.2
theorem boxL (W : World) (r : Rl) : ∃ W1 cs ps, BoxL W W1 r cs ps := by
  have hr : Row (W.alloc (.cells (encLet r).toArray 49)) W.heap.size 49 (encLet r) := Row.new _ _ _
  exact ⟨_, _, _, hr, (Below.refl _ _).alloc (Nat.le_refl _) _, rfl, hr.range (fun j v hj => let_at hj), rfl, rfl⟩
theorem info_p (cs : List Value) (h : cs.length = 19) : (Tryz.prog.info? 47).map (·.size) = some cs.length := by rw [h]; kernel_rfl
theorem info_l25 (cs : List Value) (h : cs.length = 25) : (Tryz.prog.info? 49).map (·.size) = some cs.length := by rw [h]; kernel_rfl
set_option maxRecDepth 100000 in
set_option maxHeartbeats 1000000 in
theorem blank30_any (r : Rl) (W : World) (hp : PatAt W r.1.patch r.2) (hz : PatSz r.1.patch) : Calls Tryz.prog 48 #[.agg (encLet r).toArray] W fun e w' => e = .returned (.bool (decide (r.1.day = 0) && r.1.patch.same Pat.zero)) ∧ Below W.heap.size W w' := by
  obtain ⟨R, eR⟩ : ∃ R : Ending → World → Prop, R = fun e w' => e = .returned (.bool (decide (r.1.day = 0) && r.1.patch.same Pat.zero)) ∧ Below W.heap.size W w' := ⟨_, rfl⟩
  rw [← eR]
  have FIN : Hid (∀ w' v, v = (decide (r.1.day = 0) && r.1.patch.same Pat.zero) → Below W.heap.size W w' → R (.returned (.bool v)) w') := Lib.hid fun w' v h hb => by rw [eR, h]; exact ⟨rfl, hb⟩
  clear eR
  obtain ⟨W1, cs, ps, hx⟩ := boxL W r
  have c4 := hx.row.at (show cs[4]? = some (.int .i64 r.1.day) by rw [hx.cs]; rfl)
  have E1 := Lib.hid hx.e
  have HB1 := Lib.hid hx.below
  have HM := Lib.hid hx.rg
  have HI := Lib.hid (info_p ps (by rw [hx.ps]; rfl))
  obtain ⟨zs, ezs⟩ : ∃ zs, zs = encPat Pat.zero hd0 := ⟨_, rfl⟩
  have CS := Lib.hid (sm_any r.1.patch Pat.zero r.2 hd0 W1 (hp.below hx.below (Nat.le_refl _)) ⟨SL.nil, SL.nil⟩ hz ⟨by simp [Pat.zero], by simp [Pat.zero, Cls.zero]⟩)
  rw [← hx.ps, ← ezs] at CS
  have HEX : Hid (∀ {ρ : Operand → Value} {op : Oper} {w : World}, op.op = .build 47 #[] → (execOp ρ op).run Tryz.prog w = .ok (.value (.agg zs.toArray)) w) := Lib.hid fun ho => by rw [ezs]; exact exec_pat0 ho
  rw [← hx.cs]
  clear hx ezs
  by_cases hd : r.1.day = 0
  · obtain ⟨V, eV⟩ : ∃ V, V = r.1.patch.same Pat.zero := ⟨_, rfl⟩
    have hdb : (r.1.day == 0) = true := by simp [hd]
    have FV : Hid (∀ w', Below W.heap.size W w' → R (.returned (.bool V)) w') := Lib.hid fun w' hb => FIN.out w' V (by rw [eV, decide_eq_true hd]; rfl) hb
    rw [← eV] at CS
    clear eV hd FIN
    go_enter Tryz.func48, Tryz.ntmps48
    go_wp2_with (first
      | (simp only [E1.out])
      | (refine at_load (.tmp 7) ?_; refine Row.still (by first | exact Free.wanted_of rfl rfl rfl | rfl) (Hk.exec_mid 47 (.tmp 7) rfl W.heap.size 5 rfl ps _ HM.out Tryz.underlying47 rfl HI.out) ?_; simp only [Act.put, List.setIfInBounds_toArray, List.set_cons_succ, List.set_cons_zero])
      | (refine at_bld 47 ?_; refine Row.still (by first | exact Free.wanted_of rfl rfl rfl | rfl) (HEX.out rfl) ?_; simp only [Act.put, List.setIfInBounds_toArray, List.set_cons_succ, List.set_cons_zero]))
    refine CS.out.mono ?_
    rintro e w2 ⟨rfl, hb2⟩
    have HF := Lib.hid (FV.out w2 (HB1.out.trans (hb2.mono HB1.out.size)))
    clear hb2 CS
    go_wp2_with fail
    exact HF.out
  · have hdb : (r.1.day == 0) = false := by simp [hd]
    have HF := Lib.hid (FIN.out W1 false (by rw [decide_eq_false hd]; rfl) HB1.out)
    clear hd FIN
    go_enter Tryz.func48, Tryz.ntmps48
    go_wp2_with (simp only [E1.out])
    exact HF.out
set_option maxRecDepth 100000 in
set_option maxHeartbeats 2000000 in
theorem formed30_any (r : Rl) (W : World) (hp : PatAt W r.1.patch r.2) (ho : LetOk r.1) : Calls Tryz.prog 16 #[.agg (encLet r).toArray] W fun e w' => e = .returned (.bool r.1.formed) ∧ Below W.heap.size W w' := by
  obtain ⟨R, eR⟩ : ∃ R : Ending → World → Prop, R = fun e w' => e = .returned (.bool r.1.formed) ∧ Below W.heap.size W w' := ⟨_, rfl⟩
  rw [← eR]
  have FIN : Hid (∀ w' v, v = r.1.formed → Below W.heap.size W w' → R (.returned (.bool v)) w') := Lib.hid fun w' v h hb => by rw [eR, h]; exact ⟨rfl, hb⟩
  clear eR
  obtain ⟨W1, cs, ps, hx⟩ := boxL W r
  have c0 := hx.row.at (show cs[0]? = some (.int .i64 r.1.kind) by rw [hx.cs]; rfl)
  have c1 := hx.row.at (show cs[1]? = some (.int .i64 r.1.party) by rw [hx.cs]; rfl)
  have c2 := hx.row.at (show cs[2]? = some (.int .i64 r.1.number) by rw [hx.cs]; rfl)
  have c3 := hx.row.at (show cs[3]? = some (.int .i64 r.1.sent) by rw [hx.cs]; rfl)
  have c4 := hx.row.at (show cs[4]? = some (.int .i64 r.1.day) by rw [hx.cs]; rfl)
  have c24 := hx.row.at (show cs[24]? = some (.string r.1.sum) by rw [hx.cs]; rfl)
  have E1 := Lib.hid hx.e
  have HB1 := Lib.hid hx.below
  have HM := Lib.hid hx.rg
  have HI := Lib.hid (info_p ps (by rw [hx.ps]; rfl))
  have HM0 : Hid (W1.rangeAt W.heap.size 0 cs) := Lib.hid (hx.row.range fun j v hj => by rw [Nat.zero_add]; exact hj)
  have HI0 := Lib.hid (info_l25 cs (by rw [hx.cs]; rfl))
  have CT := Lib.hid (text24_any r.1.patch r.2 W1 (hp.below hx.below (Nat.le_refl _)) ho.patch)
  have CB := Lib.hid (blank30_any r W1 (hp.below hx.below (Nat.le_refl _)) ⟨ho.patch.cl, ho.patch.st⟩)
  rw [← hx.ps] at CT
  rw [← hx.cs] at CB ⊢
  have HLL : Hid (∀ w', Below W1.heap.size W1 w' → w'.cell? ⟨W.heap.size, 0, none⟩ = some (.int .i64 r.1.kind) ∧ w'.cell? ⟨W.heap.size, 24, none⟩ = some (.string r.1.sum)) := Lib.hid fun w' hb => ⟨by rw [hb.cell (p := ⟨W.heap.size, 0, none⟩) hx.row.lt]; exact c0, by rw [hb.cell (p := ⟨W.heap.size, 24, none⟩) hx.row.lt]; exact c24⟩
  clear hx
  by_cases b1 : r.1.party < 0
  · have HF := Lib.hid (FIN.out W1 false (by rw [formed_base (by unfold Let.base; exact decide_eq_false (by omega))]) HB1.out)
    clear FIN
    go_enter Tryz.func16, Tryz.ntmps16
    go_wp2_with (simp only [E1.out])
    exact HF.out
  by_cases b2 : 11 < r.1.party
  · have HF := Lib.hid (FIN.out W1 false (by rw [formed_base (by unfold Let.base; exact decide_eq_false (by omega))]) HB1.out)
    clear FIN
    go_enter Tryz.func16, Tryz.ntmps16
    go_wp2_with (simp only [E1.out])
    exact HF.out
  by_cases b3 : r.1.number < 1
  · have HF := Lib.hid (FIN.out W1 false (by rw [formed_base (by unfold Let.base; exact decide_eq_false (by omega))]) HB1.out)
    clear FIN
    go_enter Tryz.func16, Tryz.ntmps16
    go_wp2_with (simp only [E1.out])
    exact HF.out
  by_cases b4 : 1000000 < r.1.number
  · have HF := Lib.hid (FIN.out W1 false (by rw [formed_base (by unfold Let.base; exact decide_eq_false (by omega))]) HB1.out)
    clear FIN
    go_enter Tryz.func16, Tryz.ntmps16
    go_wp2_with (simp only [E1.out])
    exact HF.out
  by_cases b5 : r.1.sent < 0
  · have HF := Lib.hid (FIN.out W1 false (by rw [formed_base (by unfold Let.base; exact decide_eq_false (by omega))]) HB1.out)
    clear FIN
    go_enter Tryz.func16, Tryz.ntmps16
    go_wp2_with (simp only [E1.out])
    exact HF.out
  by_cases b6 : 2000 < r.1.sent
  · have HF := Lib.hid (FIN.out W1 false (by rw [formed_base (by unfold Let.base; exact decide_eq_false (by omega))]) HB1.out)
    clear FIN
    go_enter Tryz.func16, Tryz.ntmps16
    go_wp2_with (simp only [E1.out])
    exact HF.out
  have HFE := Lib.hid (formed_eq (x := r.1) (by unfold Let.base; exact decide_eq_true (by omega)))
  by_cases k1 : r.1.kind = 1
  · have k1b : (r.1.kind == 1) = true := by simp [k1]
    have HK : Hid (r.1.formed = (decide (0 ≤ r.1.day ∧ r.1.day ≤ 2000 ∧ r.1.sum = ByteArray.empty) && r.1.patch.small)) := Lib.hid (by rw [HFE.out, if_pos k1])
    clear k1 HFE CB
    by_cases d1 : 0 ≤ r.1.day
    rotate_left
    · have HF := Lib.hid (FIN.out W1 false (by rw [HK.out, decide_eq_false (fun h => d1 h.1)]; rfl) HB1.out)
      clear FIN HK
      go_enter Tryz.func16, Tryz.ntmps16
      go_wp2_with (simp only [E1.out])
      exact HF.out
    by_cases d2 : r.1.day ≤ 2000
    rotate_left
    · have HF := Lib.hid (FIN.out W1 false (by rw [HK.out, decide_eq_false (fun h => d2 h.2.1)]; rfl) HB1.out)
      clear FIN HK
      go_enter Tryz.func16, Tryz.ntmps16
      go_wp2_with (simp only [E1.out])
      exact HF.out
    obtain ⟨T, eT⟩ : ∃ T, T = tx r.1.patch.text := ⟨_, rfl⟩
    obtain ⟨S, eS⟩ : ∃ S, S = r.1.patch.small := ⟨_, rfl⟩
    have hTS : T.toList.isEmpty = !S := by
      rw [eT, eS, ByteArray.toList_eq, tx_data]
      unfold Pat.text
      cases r.1.patch.small <;> rfl
    have HK2 : Hid (r.1.formed = (r.1.sum.toList.isEmpty && S)) := Lib.hid (by
      rw [HK.out, empty_iff, eS]
      congr 1
      rw [decide_eq_decide]
      exact ⟨fun h => h.2.2, fun h => ⟨d1, d2, h⟩⟩)
    rw [← eT] at CT
    clear eT eS HK
    go_enter Tryz.func16, Tryz.ntmps16
    go_wp2_with (first
      | (simp only [E1.out])
      | (refine at_load (.tmp 43) ?_; refine Row.still (by first | exact Free.wanted_of rfl rfl rfl | rfl) (Hk.exec_mid 47 (.tmp 43) rfl W.heap.size 5 rfl ps _ HM.out Tryz.underlying47 rfl HI.out) ?_; simp only [Act.put, List.setIfInBounds_toArray, List.set_cons_succ, List.set_cons_zero]))
    refine CT.out.mono ?_
    rintro e w2 ⟨rfl, hb2⟩
    obtain ⟨_, l24⟩ := HLL.out w2 hb2
    have HB2 := Lib.hid (HB1.out.trans (hb2.mono HB1.out.size))
    clear hb2 CT
    cases S with
    | false =>
      have hTe : T.toList = [] := List.isEmpty_iff.1 hTS
      have HF := Lib.hid (FIN.out w2 false (by rw [HK2.out, Bool.and_false]) HB2.out)
      clear FIN HK2
      go_wp2_with fail
      exact HF.out
    | true =>
      have hTe : T.toList.isEmpty = false := hTS
      have hTn : T.toList ≠ [] := fun h => by rw [h] at hTe; cases hTe
      have HF := Lib.hid (FIN.out w2 (r.1.sum.toList.isEmpty) (by rw [HK2.out, Bool.and_true]) HB2.out)
      clear FIN HK2 hTS
      obtain ⟨V, eV⟩ : ∃ V, V = r.1.sum.toList.isEmpty := ⟨_, rfl⟩
      rw [← eV] at HF
      cases V with
      | false =>
        have hs0 : r.1.sum.toList.isEmpty = false := eV.symm
        clear eV
        go_wp2_with fail
        exact HF.out
      | true =>
        have hs0 : r.1.sum.toList = [] := List.isEmpty_iff.1 eV.symm
        clear eV
        go_wp2_with fail
        exact HF.out
  · have k1b : (r.1.kind == 1) = false := by simp [k1]
    obtain ⟨Z, eZ⟩ : ∃ Z, Z = (decide (r.1.day = 0) && r.1.patch.same Pat.zero) := ⟨_, rfl⟩
    have HK : Hid (r.1.formed = (Z && (decide (r.1.kind = 2) || (decide (r.1.kind = 3) && r.1.sum.toList.isEmpty)))) := Lib.hid (by
      rw [HFE.out, if_neg k1, eZ, empty_iff]
      by_cases k2 : r.1.kind = 2
      · rw [if_pos k2, decide_eq_true k2]; simp
      · rw [if_neg k2, decide_eq_false k2]
        by_cases k3 : r.1.kind = 3
        · rw [if_pos k3, decide_eq_true k3]; simp
        · rw [if_neg k3, decide_eq_false k3]; simp)
    rw [← eZ] at CB
    clear k1 HFE CT eZ
    go_enter Tryz.func16, Tryz.ntmps16
    go_wp2_with (first
      | (simp only [E1.out])
      | (refine at_load (.tmp 1) ?_; refine wpList_load_mid rfl 49 (.tmp 1) rfl W.heap.size 0 rfl cs _ HM0.out Tryz.underlying49 rfl HI0.out ?_))
    refine CB.out.mono ?_
    rintro e w2 ⟨rfl, hb2⟩
    obtain ⟨l0, l24⟩ := HLL.out w2 hb2
    have HB2 := Lib.hid (HB1.out.trans (hb2.mono HB1.out.size))
    clear hb2 CB
    cases Z with
    | false =>
      have HF := Lib.hid (FIN.out w2 false (by rw [HK.out]; rfl) HB2.out)
      clear FIN HK
      go_wp2_with fail
      exact HF.out
    | true =>
      by_cases k2 : r.1.kind = 2
      · have k2b : (r.1.kind == 2) = true := by simp [k2]
        have HF := Lib.hid (FIN.out w2 true (by rw [HK.out, decide_eq_true k2]; rfl) HB2.out)
        clear FIN HK k2
        go_wp2_with fail
        exact HF.out
      · have k2b : (r.1.kind == 2) = false := by simp [k2]
        by_cases k3 : r.1.kind = 3
        · have k3b : (r.1.kind == 3) = true := by simp [k3]
          obtain ⟨V, eV⟩ : ∃ V, V = r.1.sum.toList.isEmpty := ⟨_, rfl⟩
          have HF := Lib.hid (FIN.out w2 V (by rw [HK.out, decide_eq_true k3, decide_eq_false k2, eV]; rfl) HB2.out)
          clear FIN HK k2 k3
          cases V with
          | false =>
            have hs0 : r.1.sum.toList.isEmpty = false := eV.symm
            clear eV
            go_wp2_with fail
            exact HF.out
          | true =>
            have hs0 : r.1.sum.toList = [] := List.isEmpty_iff.1 eV.symm
            clear eV
            go_wp2_with fail
            exact HF.out
        · have k3b : (r.1.kind == 3) = false := by simp [k3]
          have HF := Lib.hid (FIN.out w2 false (by rw [HK.out, decide_eq_false k3, decide_eq_false k2]; rfl) HB2.out)
          clear FIN HK k2 k3
          go_wp2_with fail
          exact HF.out
end Go.Proofs.YtekfoaenomgjgaaGreatDoor
