/- The law ConsentDigests: it holds. Condition: the variables of digest and strconv hold their numbers, the letters lie in memory. -/
import Derived.Test.YtekfoaenomgjgaaGreatDoorRcE
namespace Go.Proofs.YtekfoaenomgjgaaGreatDoor
open Go.RowKit Go.W32 Go.Blk Go.Cs Go.Lib Go.Opn Go.Mg

theorem unwanted2 {o : Oper} {ops : Array Oper} {a : Act} {j t : Nat} {b b' : Bool} (hg : o.guard = some (j, b')) (hj : (ops[j]?).bind (·.dst) = some t) (ht : a.tmps[t]? = some (.bool b)) (hne : (b == b') = false) : Region.wanted o (yielded ops a.tmps) = false := by
  unfold Region.wanted yielded
  rw [hg]
  simp only [hj, Option.bind_some, ht]
  simpa using hne
theorem unwanted3 {o : Oper} {ops : Array Oper} {a : Act} {j t : Nat} {b' : Bool} (hg : o.guard = some (j, b')) (hj : (ops[j]?).bind (·.dst) = some t) (ht : a.tmps[t]? = some undef) : Region.wanted o (yielded ops a.tmps) = false := by
  unfold Region.wanted yielded
  rw [hg]
  simp only [hj, Option.bind_some, ht]
  rfl
theorem run_slice_two {P : Program} (w : World) (t e : TypeId) (i : TypeInfo) (z : Value) (ht : P.underlying t = some (.slice e)) (hi : P.info? e = some i) (hz : i.zero = some z) (A B : List Value) (hA : A.length = i.size) (hB : B.length = i.size) (hs0 : 0 < i.size) (hs1 : i.size ≤ 1000) :
    (Instr.buildSlice t 2 #[(0, .agg A.toArray), (1, .agg B.toArray)]).run P w = .ok (.slice (some ⟨w.heap.size, 0, none⟩) 2 2) (w.alloc (.cells (A ++ B).toArray e)) := by
  refine run_buildSlice w t e 2 _ (A ++ B).toArray i z ht hi hz (by omega) (by omega) ?_
  have zs : ((Array.range (2 * i.size)).map (z.cells[· % z.cells.size]!)).size = 2 * i.size := by simp
  obtain ⟨Z, eZ⟩ : ∃ Z, Z = (Array.range (2 * i.size)).map (z.cells[· % z.cells.size]!) := ⟨_, rfl⟩
  rw [← eZ] at zs ⊢
  have zl : Z.toList.length = 2 * i.size := by simp [zs]
  show Instr.fill _ Z [(0, .agg A.toArray), (1, .agg B.toArray)] = _
  rw [fill_step (n := 0) (off := 0) hA (by omega) (by omega) (z' := (Z.toList.take 0 ++ A ++ Z.toList.drop (0 + i.size)).toArray) (by simp)]
  have e2 : (A ++ B) = (Z.toList.take 0 ++ A ++ Z.toList.drop (0 + i.size)).take i.size ++ B ++ (Z.toList.take 0 ++ A ++ Z.toList.drop (0 + i.size)).drop (i.size + i.size) := by
    rw [List.take_zero, List.nil_append, Nat.zero_add, ← hA, List.take_left, List.drop_append, List.drop_drop, List.drop_of_length_le (by omega), List.drop_of_length_le (by rw [zl]; omega)]
    simp
  rw [fill_step (n := 0) (off := i.size) hB (by omega) (by simp [zl, hA]; omega) (z' := (A ++ B).toArray) (by simpa using e2)]
  rfl
theorem at_bs2 {P : Program} {ops : Array Oper} {rest : List Oper} {a : Act} {Q : Exit → Act → World → Prop} (x : Operand) {t : TypeId} {n : Nat} {y : Operand} {d : Option Tmp} {ty : TypeId} {ps : String} {af : Array Edge} {g : Option (Nat × Bool)} {w : World}
    (h : wpList P ops Q (⟨d, .buildSlice t n #[(0, x), (1, y)], ty, ps, af, g⟩ :: rest) a w) : wpList P ops Q (⟨d, .buildSlice t n #[(0, x), (1, y)], ty, ps, af, g⟩ :: rest) a w := h
theorem exec_slice2 {P : Program} {o : Oper} {ρ : Operand → Value} {w w' : World} {t : TypeId} {x y : Operand} {v : Value} (ho : o.op = .buildSlice t 2 #[(0, x), (1, y)]) (h : (Instr.buildSlice t 2 #[(0, ρ x), (1, ρ y)]).run P w = .ok v w') : (execOp ρ o).run P w = .ok (.value v) w' := by
  unfold execOp
  simp [ho, h]
theorem beq_ba (X Y : ByteArray) : (X.toList == Y.toList) = decide (X = Y) := by
  rw [Bool.eq_iff_iff]
  simp only [beq_iff_eq, decide_eq_true_eq, ByteArray.toList_eq]
  exact ⟨fun h => ba_ext h, fun h => by rw [h]⟩
theorem exec_eqls {ρ : Operand → Value} {op : Oper} {w : World} {x y : Operand} {X Y : ByteArray} {v : Bool} (ho : op.op = .binOp .eql 9 x y 9) (hx : ρ x = .string X) (hy : ρ y = .string Y) (hv : decide (X = Y) = v) : (execOp ρ op).run Tryz.prog w = .ok (.value (.bool v)) w := by
  unfold execOp
  simp only [ho, hx, hy]
  go_simp
  rw [← hv, ← beq_ba]
theorem exec_neqs {ρ : Operand → Value} {op : Oper} {w : World} {x y : Operand} {X Y : ByteArray} {v : Bool} (ho : op.op = .binOp .neq 9 x y 9) (hx : ρ x = .string X) (hy : ρ y = .string Y) (hv : (!decide (X = Y)) = v) : (execOp ρ op).run Tryz.prog w = .ok (.value (.bool v)) w := by
  unfold execOp
  simp only [ho, hx, hy]
  go_simp
  rw [← hv, ← beq_ba]
  simp
theorem hex_len (x : S8) : (hexOf x).length = 64 := rfl
theorem SD_ne (t : ByteArray) : SD t ≠ ByteArray.empty := by
  intro h
  have h2 := congrArg (fun b : ByteArray => b.data.toList.length) h
  have h1 : ((SD t).data.toList.length) = 64 := hex_len _
  rw [h1] at h2
  cases h2
theorem dg_same {x y : Let} (h : sameP x y = true) (hx : DG x ≠ ByteArray.empty) (hy : DG y ≠ ByteArray.empty) : DG x = DG y := by
  unfold sameP at h
  simp only [Bool.and_eq_true, decide_eq_true_eq] at h
  obtain ⟨h1, h2, h3, h4⟩ := h
  have h5 := Pat.same_iff.1 h4
  rw [dg_cases] at hx hy
  rw [dg_cases, dg_cases]
  split at hx
  · split at hy
    · rename_i k1 k2
      rw [if_pos k1, if_pos k2]
      unfold Let.text
      rw [h1, h2, h3, h5]
    · exact absurd rfl hy
  · exact absurd rfl hx
theorem dg_none {x : Let} (h : DG x = ByteArray.empty) (hk : x.kind = 1) : x.formed = false := by
  cases hf : x.formed with
  | false => rfl
  | true => rw [dg_cases, if_pos ⟨hk, hf⟩] at h; exact absurd h (SD_ne _)
set_option maxRecDepth 100000 in
set_option maxHeartbeats 4000000 in
theorem dig30_any (a b : Rl) (W : World) (hT : HasT W) (ha : LetW W a) (hb : LetW W b) :
    Calls Tryz.prog 4 #[.agg (encLet a).toArray, .agg (encLet b).toArray] W fun e w' => e = .returned (.bool true) ∧ Below W.heap.size W w' := by
  obtain ⟨R, eR⟩ : ∃ R : Ending → World → Prop, R = fun e w' => e = .returned (.bool true) ∧ Below W.heap.size W w' := ⟨_, rfl⟩
  rw [← eR]
  have FIN : Hid (∀ w', Below W.heap.size W w' → R (.returned (.bool true)) w') := Lib.hid fun w' hb => by rw [eR]; exact ⟨rfl, hb⟩
  clear eR
  obtain ⟨cs, ecs⟩ : ∃ cs, cs = encLet a := ⟨_, rfl⟩
  obtain ⟨ds, eds⟩ : ∃ ds, ds = encLet b := ⟨_, rfl⟩
  obtain ⟨hr1, hr2, hbw⟩ := two_boxes W 49 cs ds
  rw [← ecs, ← eds]
  generalize eW : (W.alloc (.cells cs.toArray 49)).alloc (.cells ds.toArray 49) = W2 at *
  have E1 := Lib.hid eW
  have HM1 : Hid (∀ w', Below W2.heap.size W2 w' → w'.rangeAt W.heap.size 0 cs ∧ w'.rangeAt (W.heap.size + 1) 0 ds ∧ w'.cell? ⟨W.heap.size, 0, none⟩ = some (.int .i64 a.1.kind)) := Lib.hid fun w' h => ⟨(hr1.below h hr1.lt).range fun j v hj => by rw [Nat.zero_add]; exact hj, (hr2.below h hr2.lt).range fun j v hj => by rw [Nat.zero_add]; exact hj, (hr1.below h hr1.lt).at (show cs[0]? = _ by rw [ecs]; rfl)⟩
  have HI1 := Lib.hid (info_l25 cs (by rw [ecs]; rfl))
  have HI2 := Lib.hid (info_l25 ds (by rw [eds]; rfl))
  have HB2 := Lib.hid hbw
  have HT2 : Hid (∀ w', Below W2.heap.size W2 w' → HasT w' ∧ LetW w' a ∧ LetW w' b ∧ Below W.heap.size W w') := Lib.hid fun w' h => by
    have h2 := hbw.trans (h.mono hbw.size)
    exact ⟨hT.below h2 (Nat.le_refl _), ⟨ha.pat.below h2 (Nat.le_refl _), ha.nm⟩, ⟨hb.pat.below h2 (Nat.le_refl _), hb.nm⟩, h2⟩
  have CH := Lib.hid (head30_any W2 (HT2.out W2 (Below.refl _ _)).1)
  have ECS := Lib.hid ecs
  have EDS := Lib.hid eds
  clear eW hr1 hr2 ecs eds hbw hT ha hb
  go_enter Tryz.func4, Tryz.ntmps4
  go_wp2_with (simp only [E1.out])
  refine CH.out.mono ?_
  rintro e w3 ⟨rfl, hb3⟩
  obtain ⟨m1, m2, _⟩ := HM1.out w3 hb3
  have HMA := Lib.hid m1
  have HMB := Lib.hid m2
  obtain ⟨i1, hi1, hz1, hs1, _⟩ := info_of info_let
  obtain ⟨W4, e4⟩ : ∃ W4, W4 = w3.alloc (.cells (cs ++ ds).toArray 49) := ⟨_, rfl⟩
  have hb4 : Below w3.heap.size w3 W4 := by rw [e4]; exact (Below.refl _ _).alloc (Nat.le_refl _) _
  have hr4 : Row W4 w3.heap.size 49 (cs ++ ds) := by rw [e4]; exact Row.new _ _ _
  have HBS : Hid ((Instr.buildSlice 28 2 #[(0, .agg cs.toArray), (1, .agg ds.toArray)]).run Tryz.prog w3 = .ok (.slice (some ⟨w3.heap.size, 0, none⟩) 2 2) W4) := Lib.hid (by
    rw [e4]
    exact run_slice_two w3 28 49 i1 _ Tryz.underlying28 hi1 hz1 cs ds (by rw [ECS.out, hs1]; rfl) (by rw [EDS.out, hs1]; rfl) (by rw [hs1]; decide) (by rw [hs1]; decide))
  have hsl : SL W4 25 encLet (some ⟨w3.heap.size, 0, none⟩) [a, b] := Apl.sl_of_cells (fun _ => rfl) hr4 (fun j u hj => by
    simp only [List.flatMap_cons, List.flatMap_nil, List.append_nil] at hj
    rw [← ECS.out, ← EDS.out] at hj
    simpa using hj)
  have CS := Lib.hid (sl_any 2 (some ⟨w3.heap.size, 0, none⟩) 2 [a, b] W4 hsl (by simp) (by decide))
  rw [show [a, b].length = 2 from rfl] at CS
  have HB4 := Lib.hid (hb3.trans (hb4.mono hb3.size))
  clear hb3 m1 m2 hi1 hz1 hs1 e4 hb4 hr4 hsl CH
  obtain ⟨sm, esm⟩ : ∃ sm, sm = smallL 2 [a, b] := ⟨_, rfl⟩
  rw [← esm] at CS
  have ESM := Lib.hid esm
  clear esm
  generalize w3.heap.size = b6 at *
  go_wp2_with (first
    | (refine at_load (.tmp 2) ?_; refine wpList_load_mid rfl 49 (.tmp 2) rfl W.heap.size 0 rfl cs _ HMA.out Tryz.underlying49 rfl HI1.out ?_)
    | (refine at_load (.tmp 3) ?_; refine wpList_load_mid rfl 49 (.tmp 3) rfl (W.heap.size + 1) 0 rfl ds _ HMB.out Tryz.underlying49 rfl HI2.out ?_)
    | (refine at_bs2 (.tmp 9) ?_; refine Row.moved rfl (exec_slice2 rfl HBS.out) ?_; simp only [Act.put, List.setIfInBounds_toArray, List.set_cons_succ, List.set_cons_zero]))
  refine CS.out.mono ?_
  rintro e w5 ⟨rfl, hb5⟩
  have HB5 := Lib.hid (HB4.out.trans (hb5.mono HB4.out.size))
  clear hb5 CS HBS HMA HMB HB4
  cases sm with
  | false =>
    have HF := Lib.hid (FIN.out w5 (HT2.out w5 HB5.out).2.2.2)
    go_wp2_with fail
    exact HF.out
  | true =>
  have HOK : Hid (LetOk a.1 ∧ LetOk b.1) := Lib.hid (by
    have h := ESM.out.symm
    unfold smallL at h
    simp only [Bool.and_eq_true, List.all_cons, List.all_nil, and_true] at h
    obtain ⟨_, h2, h3, _⟩ := HT2.out w5 HB5.out
    exact ⟨h2.ok h.2.1, h3.ok h.2.2⟩)
  have CDA : Hid (∀ w', Below w5.heap.size w5 w' → Calls Tryz.prog 15 #[.agg cs.toArray] w' fun e w'' => e = .returned (.string (DG a.1)) ∧ Below w'.heap.size w' w'') := Lib.hid fun w' h => by
    obtain ⟨h1, h2, _, _⟩ := HT2.out w' (HB5.out.trans (h.mono HB5.out.size))
    rw [ECS.out]; exact dg_any a w' h1 h2.pat HOK.out.1
  have CDB : Hid (∀ w', Below w5.heap.size w5 w' → Calls Tryz.prog 15 #[.agg ds.toArray] w' fun e w'' => e = .returned (.string (DG b.1)) ∧ Below w'.heap.size w' w'') := Lib.hid fun w' h => by
    obtain ⟨h1, _, h3, _⟩ := HT2.out w' (HB5.out.trans (h.mono HB5.out.size))
    rw [EDS.out]; exact dg_any b w' h1 h3.pat HOK.out.2
  have HM5 : Hid (∀ w', Below w5.heap.size w5 w' → w'.rangeAt W.heap.size 0 cs ∧ w'.rangeAt (W.heap.size + 1) 0 ds ∧ w'.cell? ⟨W.heap.size, 0, none⟩ = some (.int .i64 a.1.kind)) := Lib.hid fun w' h => HM1.out w' (HB5.out.trans (h.mono HB5.out.size))
  obtain ⟨X, eX⟩ : ∃ X, X = DG a.1 := ⟨_, rfl⟩
  obtain ⟨Y, eY⟩ : ∃ Y, Y = DG b.1 := ⟨_, rfl⟩
  rw [← eX] at CDA
  rw [← eY] at CDB
  have EX := Lib.hid eX
  have EY := Lib.hid eY
  clear eX eY ESM
  go_wp2_with fail
  refine Free.wp_region_free 6 [(1, .det (.string X)), (3, .det (.string Y))] (fun w' => Below w5.heap.size w5 w') (by kernel_rfl) (by kernel_rfl) (Free.mono_det (fun j mk r hf => by simp only [Free.find] at hf; repeat' (first | cases hf | split at hf))) (Below.refl _ _).drew (fun _ _ h g => h.trans (Below.mono g h.size)) ?_
  simp only [List.take_succ_cons, List.take_zero]
  apply Free.chain_still (by first | exact Free.wanted_of rfl rfl rfl | rfl) rfl
  · intro w' hB hA
    exact Hk.exec_mid 49 (.tmp 2) rfl W.heap.size 0 rfl cs _ (HM5.out _ hB).1 Tryz.underlying49 rfl HI1.out
  simp only [Act.put, List.setIfInBounds_toArray, List.set_cons_succ, List.set_cons_zero]
  apply Free.chain_det (by first | exact Free.wanted_of rfl rfl rfl | rfl) rfl
  · intro w' hB hA
    refine Free.opRun_call (f := 15) (args := #[.agg cs.toArray]) (by clear hB hA; go_simp <;> rfl) ?_
    refine (CDA.out _ hB).mono ?_
    rintro e w3 ⟨rfl, hb3⟩
    exact ⟨_, rfl, hb3, rfl⟩
  simp only [Act.put, List.setIfInBounds_toArray, List.set_cons_succ, List.set_cons_zero]
  apply Free.chain_still (by first | exact Free.wanted_of rfl rfl rfl | rfl) rfl
  · intro w' hB hA
    exact Hk.exec_mid 49 (.tmp 3) rfl (W.heap.size + 1) 0 rfl ds _ (HM5.out _ hB).2.1 Tryz.underlying49 rfl HI2.out
  simp only [Act.put, List.setIfInBounds_toArray, List.set_cons_succ, List.set_cons_zero]
  apply Free.chain_det (by first | exact Free.wanted_of rfl rfl rfl | rfl) rfl
  · intro w' hB hA
    refine Free.opRun_call (f := 15) (args := #[.agg ds.toArray]) (by clear hB hA; go_simp <;> rfl) ?_
    refine (CDB.out _ hB).mono ?_
    rintro e w3 ⟨rfl, hb3⟩
    exact ⟨_, rfl, hb3, rfl⟩
  simp only [Act.put, List.setIfInBounds_toArray, List.set_cons_succ, List.set_cons_zero]
  iterate 2 (apply Free.chain_still (by first | exact Free.wanted_of rfl rfl rfl | rfl) rfl; (intro w' hB hA; obtain qB := hB; clear hA ; go_light; go_simp <;> rfl); (try simp only [Act.put, List.setIfInBounds_toArray, List.set_cons_succ, List.set_cons_zero]))
  apply Free.chain_nil
  intro w6 hw6 _ _
  have HB6 := Lib.hid (HB5.out.trans (hw6.mono HB5.out.size))
  simp only [List.drop_succ_cons, List.drop_zero]
  clear hw6 CDA CDB HM5 HB5
  by_cases hX : X = ByteArray.empty
  · have hX0 : X.toList = [] := List.isEmpty_iff.1 ((empty_iff X).trans (decide_eq_true hX))
    have hX1 : X.toList.isEmpty = true := (empty_iff X).trans (decide_eq_true hX)
    obtain ⟨m1, _, m0⟩ := HM1.out w6 HB6.out
    have HMA := Lib.hid m1
    have HXE := Lib.hid hX
    clear m1 hX
    by_cases k1 : a.1.kind = 1
    · have k1b : (a.1.kind == 1) = true := by simp [k1]
      have k1n : (a.1.kind != 1) = false := by simp [k1]
      have HNF : Hid (a.1.formed = false) := Lib.hid (dg_none (by rw [← EX.out]; exact HXE.out) k1)
      have CF := Lib.hid (formed30_any a w6 (HT2.out w6 HB6.out).2.1.pat HOK.out.1)
      rw [← ECS.out, HNF.out] at CF
      clear k1
      go_wp2_with (refine at_load (.tmp 2) ?_; refine Row.still (by first | exact Free.wanted_of rfl rfl rfl | rfl) (Hk.exec_mid 49 (.tmp 2) rfl W.heap.size 0 rfl cs _ HMA.out Tryz.underlying49 rfl HI1.out) ?_; simp only [Act.put, List.setIfInBounds_toArray, List.set_cons_succ, List.set_cons_zero])
      refine CF.out.mono ?_
      rintro e w7 ⟨rfl, hb7⟩
      have HF := Lib.hid (FIN.out w7 ((HT2.out w6 HB6.out).2.2.2.trans (hb7.mono (HT2.out w6 HB6.out).2.2.2.size)))
      clear hb7 CF
      go_wp2_with fail
      exact HF.out
    · have k1b : (a.1.kind == 1) = false := by simp [k1]
      have k1n : (a.1.kind != 1) = true := by simp [k1]
      have HF := Lib.hid (FIN.out w6 (HT2.out w6 HB6.out).2.2.2)
      clear k1
      go_wp2_with fail
      exact HF.out
  have hX1 : X.toList.isEmpty = false := (empty_iff X).trans (decide_eq_false hX)
  have hX0 : X.toList ≠ [] := fun h => by rw [h] at hX1; cases hX1
  have HXN := Lib.hid hX
  clear hX
  by_cases hY : Y = ByteArray.empty
  · have hY0 : Y.toList = [] := List.isEmpty_iff.1 ((empty_iff Y).trans (decide_eq_true hY))
    have HF := Lib.hid (FIN.out w6 (HT2.out w6 HB6.out).2.2.2)
    clear hY
    go_wp2_with fail
    exact HF.out
  have hY1 : Y.toList.isEmpty = false := (empty_iff Y).trans (decide_eq_false hY)
  have hY0 : Y.toList ≠ [] := fun h => by rw [h] at hY1; cases hY1
  have HYN := Lib.hid hY
  clear hY
  obtain ⟨m1, m2, m0⟩ := HM1.out w6 HB6.out
  have HMA := Lib.hid m1
  have HMB := Lib.hid m2
  have CSa := Lib.hid (same30_any a b w6 (HT2.out w6 HB6.out).2.1.pat (HT2.out w6 HB6.out).2.2.1.pat ⟨HOK.out.1.patch.cl, HOK.out.1.patch.st⟩ ⟨HOK.out.2.patch.cl, HOK.out.2.patch.st⟩)
  rw [← ECS.out, ← EDS.out] at CSa
  obtain ⟨v, ev⟩ : ∃ v, v = sameP a.1 b.1 := ⟨_, rfl⟩
  rw [← ev] at CSa
  have EV := Lib.hid ev
  clear m1 m2 m0 ev
  go_wp2_with (first
    | (refine at_load (.tmp 2) ?_; refine Row.still (by first | exact Free.wanted_of rfl rfl rfl | rfl) (Hk.exec_mid 49 (.tmp 2) rfl W.heap.size 0 rfl cs _ HMA.out Tryz.underlying49 rfl HI1.out) ?_; simp only [Act.put, List.setIfInBounds_toArray, List.set_cons_succ, List.set_cons_zero])
    | (refine at_load (.tmp 3) ?_; refine Row.still (by first | exact Free.wanted_of rfl rfl rfl | rfl) (Hk.exec_mid 49 (.tmp 3) rfl (W.heap.size + 1) 0 rfl ds _ HMB.out Tryz.underlying49 rfl HI2.out) ?_; simp only [Act.put, List.setIfInBounds_toArray, List.set_cons_succ, List.set_cons_zero]))
  refine CSa.out.mono ?_
  rintro e w7 ⟨rfl, hb7⟩
  have HB7 := Lib.hid (HB6.out.trans (hb7.mono HB6.out.size))
  clear hb7 CSa HMA HMB
  cases v with
  | true =>
    have hXY : Y = X := by
      have h := dg_same EV.out.symm (by rw [← EX.out]; exact HXN.out) (by rw [← EY.out]; exact HYN.out)
      rw [EX.out, EY.out]; exact h.symm
    subst hXY
    have HF := Lib.hid (FIN.out w7 (HT2.out w7 HB7.out).2.2.2)
    go_wp2_with fail
    exact HF.out
  | false =>
    by_cases hXY : X = Y
    · have CDA : Hid (∀ w', Below w7.heap.size w7 w' → Calls Tryz.prog 18 #[.agg cs.toArray] w' fun e w'' => e = .returned (.string X) ∧ Below w'.heap.size w' w'') := Lib.hid fun w' h => by
        obtain ⟨h1, h2, _, _⟩ := HT2.out w' (HB7.out.trans (h.mono HB7.out.size))
        rw [ECS.out, EX.out]; exact digest30_any a w' h2.pat HOK.out.1
      have CDB : Hid (∀ w', Below w7.heap.size w7 w' → Calls Tryz.prog 18 #[.agg ds.toArray] w' fun e w'' => e = .returned (.string Y) ∧ Below w'.heap.size w' w'') := Lib.hid fun w' h => by
        obtain ⟨h1, _, h3, _⟩ := HT2.out w' (HB7.out.trans (h.mono HB7.out.size))
        rw [EDS.out, EY.out]; exact digest30_any b w' h3.pat HOK.out.2
      have HM7 : Hid (∀ w', Below w7.heap.size w7 w' → w'.rangeAt W.heap.size 0 cs ∧ w'.rangeAt (W.heap.size + 1) 0 ds ∧ w'.cell? ⟨W.heap.size, 0, none⟩ = some (.int .i64 a.1.kind)) := Lib.hid fun w' h => HM1.out w' (HB7.out.trans (h.mono HB7.out.size))
      have HXY : Hid (decide (X = Y) = true) := Lib.hid (decide_eq_true hXY)
      have HXZ : Hid ((!decide (X = Y)) = false) := Lib.hid (by rw [decide_eq_true hXY]; rfl)
      clear hXY
      go_wp2_with fail
      refine Free.wp_region_free 13 [(7, .det (.string X)), (9, .det (.string Y))] (fun w' => Below w7.heap.size w7 w') (by kernel_rfl) (by kernel_rfl) (Free.mono_det (fun j mk r hf => by simp only [Free.find] at hf; repeat' (first | cases hf | split at hf))) (Below.refl _ _).drew (fun _ _ h g => h.trans (Below.mono g h.size)) ?_
      simp only [List.take_succ_cons, List.take_zero]
      iterate 4 (apply Free.chain_still (by first | exact Free.wanted_of rfl rfl rfl | rfl) rfl; (intro w' hB hA; obtain qB := hB; clear hA ; go_light; go_simp <;> rfl); (try simp only [Act.put, List.setIfInBounds_toArray, List.set_cons_succ, List.set_cons_zero]))
      apply Free.chain_still (by first | exact Free.wanted_of rfl rfl rfl | rfl) rfl
      · intro w' hB hA
        exact exec_neqs rfl rfl rfl HXZ.out
      simp only [Act.put, List.setIfInBounds_toArray, List.set_cons_succ, List.set_cons_zero]
      iterate 1 (apply Free.chain_still (by first | exact Free.wanted_of rfl rfl rfl | rfl) rfl; (intro w' hB hA; obtain qB := hB; clear hA ; go_light; go_simp <;> rfl); (try simp only [Act.put, List.setIfInBounds_toArray, List.set_cons_succ, List.set_cons_zero]))
      apply Free.chain_still (by first | exact Free.wanted_of rfl rfl rfl | rfl) rfl
      · intro w' hB hA
        exact Hk.exec_mid 49 (.tmp 2) rfl W.heap.size 0 rfl cs _ (HM7.out _ hB).1 Tryz.underlying49 rfl HI1.out
      simp only [Act.put, List.setIfInBounds_toArray, List.set_cons_succ, List.set_cons_zero]
      apply Free.chain_det (by first | exact Free.wanted_of rfl rfl rfl | rfl) rfl
      · intro w' hB hA
        refine Free.opRun_call (f := 18) (args := #[.agg cs.toArray]) (by clear hB hA; go_simp <;> rfl) ?_
        refine (CDA.out _ hB).mono ?_
        rintro e w3 ⟨rfl, hb3⟩
        exact ⟨_, rfl, hb3, rfl⟩
      simp only [Act.put, List.setIfInBounds_toArray, List.set_cons_succ, List.set_cons_zero]
      apply Free.chain_still (by first | exact Free.wanted_of rfl rfl rfl | rfl) rfl
      · intro w' hB hA
        exact Hk.exec_mid 49 (.tmp 3) rfl (W.heap.size + 1) 0 rfl ds _ (HM7.out _ hB).2.1 Tryz.underlying49 rfl HI2.out
      simp only [Act.put, List.setIfInBounds_toArray, List.set_cons_succ, List.set_cons_zero]
      apply Free.chain_det (by first | exact Free.wanted_of rfl rfl rfl | rfl) rfl
      · intro w' hB hA
        refine Free.opRun_call (f := 18) (args := #[.agg ds.toArray]) (by clear hB hA; go_simp <;> rfl) ?_
        refine (CDB.out _ hB).mono ?_
        rintro e w3 ⟨rfl, hb3⟩
        exact ⟨_, rfl, hb3, rfl⟩
      simp only [Act.put, List.setIfInBounds_toArray, List.set_cons_succ, List.set_cons_zero]
      apply Free.chain_still (by first | exact Free.wanted_of rfl rfl rfl | rfl) rfl
      · intro w' hB hA
        exact exec_eqls rfl rfl rfl HXY.out
      simp only [Act.put, List.setIfInBounds_toArray, List.set_cons_succ, List.set_cons_zero]
      iterate 2 (apply Free.chain_still (by first | exact Free.wanted_of rfl rfl rfl | rfl) rfl; (intro w' hB hA; obtain qB := hB; clear hA ; go_light; go_simp <;> rfl); (try simp only [Act.put, List.setIfInBounds_toArray, List.set_cons_succ, List.set_cons_zero]))
      apply Free.chain_nil
      intro w8 hw8 _ _
      have HF := Lib.hid (FIN.out w8 (HT2.out w8 (HB7.out.trans (hw8.mono HB7.out.size))).2.2.2)
      simp only [List.drop_succ_cons, List.drop_zero]
      clear hw8 CDA CDB HM7
      go_wp2_with fail
      exact HF.out
    · have HXZ : Hid ((!decide (X = Y)) = true) := Lib.hid (by rw [decide_eq_false hXY]; rfl)
      clear hXY
      go_wp2_with fail
      refine Free.wp_region_free 13 [] (fun w' => Below w7.heap.size w7 w') (by kernel_rfl) (by kernel_rfl) (Free.mono_det (fun j mk r hf => by simp only [Free.find] at hf; repeat' (first | cases hf | split at hf))) (Below.refl _ _).drew (fun _ _ h g => h.trans (Below.mono g h.size)) ?_
      simp only [List.take_succ_cons, List.take_zero]
      iterate 4 (apply Free.chain_still (by first | exact Free.wanted_of rfl rfl rfl | rfl) rfl; (intro w' hB hA; obtain qB := hB; clear hA ; go_light; go_simp <;> rfl); (try simp only [Act.put, List.setIfInBounds_toArray, List.set_cons_succ, List.set_cons_zero]))
      apply Free.chain_still (by first | exact Free.wanted_of rfl rfl rfl | rfl) rfl
      · intro w' hB hA
        exact exec_neqs rfl rfl rfl HXZ.out
      simp only [Act.put, List.setIfInBounds_toArray, List.set_cons_succ, List.set_cons_zero]
      iterate 1 (apply Free.chain_still (by first | exact Free.wanted_of rfl rfl rfl | rfl) rfl; (intro w' hB hA; obtain qB := hB; clear hA ; go_light; go_simp <;> rfl); (try simp only [Act.put, List.setIfInBounds_toArray, List.set_cons_succ, List.set_cons_zero]))
      iterate 5 (apply Free.chain_skip (by first | exact unwanted2 rfl rfl rfl rfl | exact unwanted3 rfl rfl rfl); simp only [Act.put, List.setIfInBounds_toArray, List.set_cons_succ, List.set_cons_zero])
      iterate 2 (apply Free.chain_still (by first | exact Free.wanted_of rfl rfl rfl | rfl) rfl; (intro w' hB hA; obtain qB := hB; clear hA ; go_light; go_simp <;> rfl); (try simp only [Act.put, List.setIfInBounds_toArray, List.set_cons_succ, List.set_cons_zero]))
      apply Free.chain_nil
      intro w8 hw8 _ _
      have HF := Lib.hid (FIN.out w8 (HT2.out w8 (HB7.out.trans (hw8.mono HB7.out.size))).2.2.2)
      simp only [List.drop_succ_cons, List.drop_zero]
      clear hw8
      go_wp2_with fail
      exact HF.out
end Go.Proofs.YtekfoaenomgjgaaGreatDoor
