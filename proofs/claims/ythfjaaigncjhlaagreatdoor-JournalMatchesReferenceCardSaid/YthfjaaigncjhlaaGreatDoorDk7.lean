/- The disk's Write: what it returns and changes. -/
import Derived.Test.YthfjaaigncjhlaaGreatDoorDk6
import Derived.Test.YthfjaaigncjhlaaGreatDoorFre2
import Derived.Test.YthfjaaigncjhlaaGreatDoorApk
import Derived.Lib.BufferWrite
namespace Go.Proofs.YthfjaaigncjhlaaGreatDoor
open Go.RowKit Go.Blk Go.Dk Go.Mp

/-- As DkPost; a call without an error leaves the map's block. -/
def DkPost2 (w : World) (b bs bm n : Nat) (pv : Value) (d : DD) (v : Value) (e : Ending) (w' : World) : Prop :=
  e = .returned v ∧ ∃ bm' pv', DiskAt w' b bs bm' pv' d n ∧ Keep (Fp b bs bm pv) w w' ∧ (bm' = bm ∨ w.heap.size ≤ bm') ∧ (∀ k, pv'.ownBlock = some k → pv.ownBlock = some k ∨ w.heap.size ≤ k) ∧ (v = .int .i64 0 → bm' = bm)
theorem dk_same2 {w : World} {b bs bm n : Nat} {pv : Value} {d : DD} (h : DiskAt w b bs bm pv d n) (v : Value) : DkPost2 w b bs bm n pv d v (.returned v) w := ⟨rfl, bm, pv, h, Keep.refl _ _, .inl rfl, fun _ h => .inl h, fun _ => rfl⟩
theorem DkPost2.less {w w' : World} {b bs bm n : Nat} {pv v : Value} {d : DD} {e : Ending} (h : DkPost2 w b bs bm n pv d v e w') : DkPost w b bs bm n pv d v e w' := by
  obtain ⟨h1, bm', pv', h2, h3, h4, h5, _⟩ := h
  exact ⟨h1, bm', pv', h2, h3, h4, h5⟩
theorem infoW : (Tryz.prog.info? 95).map (fun i => (i.zero, i.size, i.bytes)) = some (some (.agg (Array.mk (.int .i64 0 :: List.replicate 32 (.int .u8 0)))), 33, 40) := by kernel_rfl
section
variable {w : World} {b bs bm n : Nat} {pv : Value} {d : DD}
theorem grown_set {i : Nat} {v : Value} (h : w.grownBy w (some b)) : w.grownBy (w.setCell ⟨b, i, none⟩ v) (some b) :=
  ⟨h.os, h.tape, h.output, by simp [World.setCell], fun k _ hne => Below.heap_setCell w ⟨b, i, none⟩ v k (fun e => hne (by rw [e]))⟩
def zw (s : Int) : Array Value := #[.int .i64 s, .int .u8 0, .int .u8 0, .int .u8 0, .int .u8 0, .int .u8 0, .int .u8 0, .int .u8 0, .int .u8 0, .int .u8 0, .int .u8 0, .int .u8 0, .int .u8 0, .int .u8 0, .int .u8 0, .int .u8 0, .int .u8 0, .int .u8 0, .int .u8 0, .int .u8 0, .int .u8 0, .int .u8 0, .int .u8 0, .int .u8 0, .int .u8 0, .int .u8 0, .int .u8 0, .int .u8 0, .int .u8 0, .int .u8 0, .int .u8 0, .int .u8 0, .int .u8 0]
theorem zw_all (s : Int) : (zw s).all (·.oneCell') = true := by simp [zw, Value.oneCell']
theorem zw_size (s : Int) : (zw s).size = 33 := rfl
theorem zw_info (s : Int) : (Tryz.prog.info? 95).map (·.size) = some (zw s).size := by rw [zw_size]; kernel_rfl
theorem zw_list (s : Int) : (zw s).toList = .int .i64 s :: List.replicate 32 (.int .u8 0) := rfl
set_option maxRecDepth 100000 in
theorem run_copy_text (W : World) (m : Nat) (t : ByteArray) (h : t.size = 32) (ty : TypeId) : (Builtin.copy_ #[50, 9] ty #[.slice (some ⟨W.heap.size, 1, none⟩) 32 32, .string t]).run Tryz.prog (W.alloc (.cells (zw m) 95)) =
    .ok (goInt 32) (W.alloc (.cells (encW (m, t.data.toList)).toArray 95)) := by
  have hc := Lib.run_copy_row_string (P := Tryz.prog) (W.alloc (.cells (zw m) 95)) 50 9 ty 5 W.heap.size 1 32 32 t (zw m) 95 Tryz.underlying50 (by kernel_rfl) (heap_alloc_last W _) (by omega) (by rw [zw_size]; omega)
  rw [hc, World.setRow_alloc_new, h]
  congr 3
  rw [zw_list]
  have hl : t.data.toList.length = 32 := by simpa using h
  simp [encW, Lib.byteCells, C8]
/-- Only the row's spare place may turn, and only to the new cells. -/
def RowR (g o : Nat) (E : List Value) (sz : Nat) (w w' : World) : Prop :=
  Keep (fun k => k = g) w w' ∧ ∀ cc : Array Value, w.heap[g]? = some (.cells cc 95 (0, 0)) → cc.size = sz → w'.heap[g]? = some (.cells cc 95 (0, 0)) ∨ w'.heap[g]? = some (.cells (Apk.spl cc o E) 95 (0, 0))
theorem RowR.refl (g o : Nat) (E : List Value) (sz : Nat) (w : World) : RowR g o E sz w w := ⟨Keep.refl _ _, fun _ h _ => .inl h⟩
theorem RowR.trans {g o : Nat} {E : List Value} {sz : Nat} (hf : ∀ cc : Array Value, cc.size = sz → o + E.length ≤ cc.size) (a b c : World) (h : RowR g o E sz a b) (k : RowR g o E sz b c) : RowR g o E sz a c :=
  ⟨h.1.trans k.1 (fun _ _ f => f), fun cc hc hs => by
    rcases h.2 cc hc hs with h1 | h1
    · exact k.2 cc h1 hs
    · rcases k.2 _ h1 (by rw [Apk.spl_size _ _ _ (hf cc hs)]; exact hs) with h2 | h2
      · exact .inr h2
      · exact .inr (by rw [h2, Apk.spl_spl _ _ _ (hf cc hs)])⟩
theorem rel_grow {g o : Nat} {E : List Value} {sz : Nat} {w w' : World} (h : Below w.heap.size w w') : RowR g o E sz w w' :=
  ⟨Keep.of_below h, fun _ hc _ => .inl ((h.block g (Array.getElem?_eq_some_iff.1 hc).1).trans hc)⟩
theorem rel_set {g o : Nat} {E : List Value} {sz : Nat} {w : World} {cc : Array Value} (hc : w.heap[g]? = some (.cells cc 95 (0, 0))) : RowR g o E sz w (w.setRow g (Apk.spl cc o E)) :=
  ⟨(Keep.refl (fun k => k = g) w).setRow (fun _ => rfl) _, fun c2 h2 _ => by rw [hc] at h2; cases h2; exact .inr (setRow_heap w g cc _ 95 _ hc)⟩
theorem exec_row {P : Program} {o : Oper} {ρ : Operand → Value} {w : World} {ty : TypeId} {x : Operand} {g : Nat} {t : TypeId} {cs : List Value} {dsc : TypeDesc} (ho : o.op = .load ty x) (hx : ρ x = .pointer (some ⟨g, 0, none⟩)) (hg : Blk w g cs t)
    (hu : P.underlying ty = some dsc) (hd : (match dsc with | .struct _ | .array _ _ => true | _ => false) = true) (hi : (P.info? ty).map (·.size) = some cs.toArray.size) : (execOp ρ o).run P w = .ok (.value (.agg cs.toArray)) w := by
  unfold execOp
  simp only [ho, hx, Instr.loadAt, Instr.sureAddr, Sem.run_bind, Sem.run_pure, Result.andThen_ok, run_loadVar_row w g t ty cs.toArray (0, 0) dsc hg hu hd hi]
theorem exec_slice {P : Program} {o : Oper} {ρ : Operand → Value} {w w' : World} {t : TypeId} {x : Operand} {v : Value} (ho : o.op = .buildSlice t 1 #[(0, x)]) (h : (Instr.buildSlice t 1 #[(0, ρ x)]).run P w = .ok v w') : (execOp ρ o).run P w = .ok (.value v) w' := by
  unfold execOp
  simp [ho, h]
theorem exec_append {P : Program} {o : Oper} {ρ : Operand → Value} {w w' : World} {t : TypeId} {s x : Operand} {u y v : Value} (ho : o.op = .call { callee := .builtin .append, args := #[s, x], argTypes := #[t, t] }) (hs : ρ s = u) (hx : ρ x = y)
    (h : (Builtin.append_ #[t, t] o.type #[u, y]).run P w = .ok v w') : (execOp ρ o).run P w = .ok (.value v) w' := by
  unfold execOp
  simp only [ho, resolve, invoke, builtin, Sem.run_bind, Sem.run_pure, Result.andThen_ok, List.map_toArray, List.map_cons, List.map_nil, hs, hx, h]
set_option maxRecDepth 100000 in
set_option maxHeartbeats 2000000 in
theorem write_any2 (h : DiskAt w b bs bm pv d n) (s : Int) (t : ByteArray) (hfew : d.pend.length < 1000000) :
    Calls Tryz.prog 23 #[.pointer (some ⟨b, 0, none⟩), .int .i64 s, .string t] w (DkPost2 w b bs bm n pv (DD.write n d s t.data.toList).1 (.int .i64 (DD.write n d s t.data.toList).2)) := by
  have c0 := h.blk.cellD 0 _ rfl
  have htl : t.data.toList.length = t.size := by simp
  cases hon : d.on with
  | false =>
    have e2 : DD.write n d s t.data.toList = (d, 21) := by simp [DD.write, hon]
    rw [e2]
    rw [hon] at c0
    have HD := Lib.hid (dk_same2 h (.int .i64 21))
    clear e2 h hon htl
    go_enter Tryz.func23, Tryz.ntmps23
    go_wp2
    go_ret
    exact HD.out
  | true =>
    rw [hon] at c0
    have H1 := Lib.hid (has_any h s)
    cases hh : DD.hasB n s with
    | false =>
      have e2 : DD.write n d s t.data.toList = (d, 1) := by simp [DD.write, hon, hh]
      rw [e2]
      rw [hh] at H1
      have HD := Lib.hid (dk_same2 h (.int .i64 1))
      clear e2 h hon hh htl
      go_enter Tryz.func23, Tryz.ntmps23
      go_wp2_with fail
      refine H1.out.mono ?_
      rintro e w' ⟨rfl, rfl⟩
      go_wp2_with fail
      go_ret
      exact HD.out
    | true =>
      by_cases h32 : t.size = 32
      · have e2 : DD.write n d s t.data.toList = if d.failsB then ((d.push s t.data.toList).fail d.writes d.bytes, 21) else ((d.push s t.data.toList).tick, 0) := by simp [DD.write, hon, hh, htl, h32]
        rw [hh] at H1
        have hs := hh
        simp [DD.hasB] at hs
        obtain ⟨m, rfl⟩ : ∃ m : Nat, s = m := ⟨s.toNat, by omega⟩
        have hsz1 : ((t.size : Int) != 32) = false := by simp; omega
        have hsz2 : t.size ≤ 32 := by omega
        have hsz3 : 32 ≤ t.size := by omega
        have HSZ := Lib.hid h32
        have HOK := Lib.hid (h.ok.push (s := (m : Int)) (t := t.data.toList) hh (by omega) hfew)
        have E2 := Lib.hid e2
        have HD := Lib.hid h
        clear e2 hon hh hs h htl h32
        go_enter Tryz.func23, Tryz.ntmps23
        go_wp2_with fail
        refine H1.out.mono ?_
        rintro e w' ⟨rfl, rfl⟩
        clear H1
        have hcp := run_copy_text w m t HSZ.out 3
        go_wp2_with (with_reducible refine wpList_store_row rfl 95 (.tmp 7) (.tmp 26) rfl w.heap.size (zw m) rfl rfl 95 (zw 0) (heap_alloc_last w _) (zw_info m) ((zw_size 0).trans (zw_size m).symm) (zw_all m) ?_; rw [World.setRow_alloc_new])
        clear hcp
        obtain ⟨x, ex⟩ : ∃ x : Nat × List UInt8, x = (m, t.data.toList) := ⟨_, rfl⟩
        rw [← ex]
        have HE := Lib.hid (show (encW x).length = 33 by rw [ex]; exact encW_len (by simpa using HSZ.out))
        have HX := Lib.hid ex
        clear ex
        obtain ⟨A, c, hpv⟩ := pv_form HD.out
        have HPV := Lib.hid hpv
        have hDa := HD.out.alloc (.cells (encW x).toArray 95)
        have HDA := Lib.hid hDa
        have HBL := Lib.hid (Blk.new w (encW x) 95)
        have HKP := Lib.hid ((Keep.refl (Fp b bs bm pv) w).alloc (.cells (encW x).toArray 95))
        obtain ⟨L, eL⟩ : ∃ L, L = d.pend.length := ⟨_, rfl⟩
        rw [← eL] at hpv hfew
        have EL := Lib.hid eL
        clear hDa eL
        have k3 := HDA.out.blk.drew.cellD 3 _ rfl
        have k2 := HDA.out.blk.drew.cellD 2 _ rfl
        rw [hpv] at k2
        clear hpv
        refine Free.wp_region_free 10 [] (fun w2 => w2.cell? ⟨b, 3, none⟩ = some (.map (some bm)) ∧ w2.cell? ⟨b, 2, none⟩ = some (.slice A L c)) (by kernel_rfl) (by kernel_rfl) ?_ ⟨k3, k2⟩ (fun _ _ h g => ⟨cell_grow' h.1 g, cell_grow' h.2 g⟩) ?_
        · intro j mk r hf
          simp only [Free.find] at hf
          cases hf
        simp only [List.take_succ_cons, List.take_zero]
        clear k3 k2 c0
        iterate 10 (apply Free.chain_still (by first | exact Free.wanted_of rfl rfl rfl | rfl) rfl; (intro w' hB hA; obtain ⟨q0, q1⟩ := hB; clear hA ; go_light; go_simp <;> rfl); (try simp only [Act.put, List.setIfInBounds_toArray, List.set_cons_succ, List.set_cons_zero]))
        apply Free.chain_nil
        intro wz _ hg _
        simp only [List.drop_succ_cons, List.drop_zero]
        have hz := grow_drew' hg
        have Dz := Lib.hid (HDA.out.below hz)
        have Bz := Lib.hid (HBL.out.below hz HBL.out.lt)
        have Kz := Lib.hid (HKP.out.trans (G := fun _ => False) (Keep.of_below hz) (fun _ _ f => f.elim))
        clear hg hz HDA HBL HKP
        refine wpList_store (b := bm) rfl (.tmp 34) (.tmp 35) (.tmp 40) rfl Dz.out.map Tryz.underlying51 Tryz.underlying3 (m : Int) (L : Int) rfl rfl rfl ?_
        intro w4 hm4 hg4
        have hne : ∀ k, k < wz.heap.size → k ≠ bm → w4.heap[k]? = wz.heap[k]? := fun k hk hn => hg4.block k hk (fun e => hn (by injection e))
        have M4 : Hid (MapIs w4 bm (lastOf (d.push (m : Int) t.data.toList).pend)) := by
          show MapIs _ _ _
          have e : lastOf (d.push (m : Int) t.data.toList).pend = fun y => if y = (m : Int) then some (L : Int) else lastOf d.pend y := by
            show lastOf (d.pend ++ [((m : Int).toNat, t.data.toList)]) = _
            rw [lastOf_snoc, EL.out]; rfl
          rw [e]; exact hm4
        have P4 := Lib.hid (Dz.out.blk.keepB (hne b Dz.out.blk.lt (Ne.symm Dz.out.ne2)))
        have S4 := Lib.hid (Dz.out.st.keepB (hne bs Dz.out.st.lt (Ne.symm Dz.out.ne3)))
        have R4 := Lib.hid (row_keep Dz.out.row (fun k e => hne k (Dz.out.row.lt k e).2 (fun e' => row_ne_map Dz.out.row Dz.out.map (by rw [← e']; exact e))))
        have B4 := Lib.hid (Bz.out.keepB (hne _ Bz.out.lt (by have := HD.out.map.lt; omega)))
        have K4 := Lib.hid (Kz.out.grown hg4 (fun k e _ => by cases e; exact .inr (.inr (.inl rfl))))
        clear hm4 hg4 hne Dz Bz Kz
        simp only [Act.put]
        obtain ⟨xs, exs⟩ : ∃ xs, xs = d.pend.flatMap encW := ⟨_, rfl⟩
        rw [← exs, ← EL.out] at R4
        have EXS := Lib.hid exs
        have hpv := HPV.out
        rw [← EL.out] at hpv
        have HPV2 := Lib.hid hpv
        have hxsE : (d.push (m : Int) t.data.toList).pend.flatMap encW = xs ++ encW x := by
          rw [EXS.out, HX.out]
          show (d.pend ++ [((m : Int).toNat, t.data.toList)]).flatMap encW = _
          simp
        have HXE := Lib.hid hxsE
        have hLp : (d.push (m : Int) t.data.toList).pend.length = L + 1 := by rw [EL.out]; simp [DD.push]
        have HLP := Lib.hid hLp
        obtain ⟨i0, hi, hz0, hz1, hz2⟩ := info_parts infoW
        have HI := Lib.hid hi
        have HZ0 := Lib.hid hz0
        have HZ1 := Lib.hid hz1
        have HZ2 := Lib.hid hz2
        have HLW := Lib.hid HD.out.blk.lt
        clear exs hpv hxsE hLp hi hz0 hz1 hz2
        by_cases hroom : ∃ g cap, pv = .slice (some ⟨g, 0, none⟩) L cap ∧ L + 1 ≤ cap
        · obtain ⟨g, cap, hpv, hcap⟩ := hroom
          obtain ⟨cur, hcur, hcap2, hcs, htk⟩ : ∃ cur, w4.heap[g]? = some (.cells cur 95 (0, 0)) ∧ cap ≤ maxLen ∧ cur.size = cap * 33 ∧ cur.toList.take (L * 33) = xs := by
            obtain ⟨_, h0 | ⟨g', cap', cur', e', _, h2, _, h4, h5, h6⟩⟩ := R4.out
            · rw [hpv] at h0; cases h0.1
            · rw [hpv] at e'; injection e' with e1 _ e3; injection e1 with e1; injection e1 with e1; subst e1 e3
              exact ⟨cur', h2, h4, h5, h6⟩
          have hAc : A = some ⟨g, 0, none⟩ ∧ c = cap := by have := HPV2.out; rw [hpv] at this; injection this with e1 _ e3; exact ⟨e1.symm, e3.symm⟩
          obtain ⟨rfl, rfl⟩ := hAc
          have hgb : g ≠ b := fun e => row_ne R4.out P4.out (by decide) (by rw [hpv, ← e]; rfl)
          have hgs : g ≠ bs := fun e => row_ne R4.out S4.out (by decide) (by rw [hpv, ← e]; rfl)
          have hgm : g ≠ bm := fun e => row_ne_map R4.out M4.out (by rw [hpv, ← e]; rfl)
          have hgw : g < w.heap.size := by
            have := (HD.out.row.lt g (by rw [hpv]; rfl)).2; exact this
          have hfit : ∀ cc : Array Value, cc.size = c * 33 → L * 33 + (encW x).length ≤ cc.size := fun cc e => by rw [e, HE.out]; omega
          have HFIT := Lib.hid hfit
          have HHP := Lib.hid hpv
          letI : Fre2.Rel := ⟨RowR g (L * 33) (encW x) (c * 33), RowR.refl _ _ _ _, RowR.trans HFIT.out⟩
          have k2 := P4.out.drew.cellD 2 _ rfl
          rw [hpv] at k2
          clear hfit hpv
          go_wp2_with fail
          refine Fre2.wp_region_free 10 [(6, .ind (fun g6 => .slice (some ⟨g6, 0, none⟩) 1 1) (fun g6 w2 => Blk w2 g6 (encW x) 95 ∧ g6 ≠ g)), (7, .ind (fun _ => .slice (some ⟨g, 0, none⟩) (L + 1) c) (fun _ w2 => ∃ cc : Array Value, w2.heap[g]? = some (.cells (Apk.spl cc (L * 33) (encW x)) 95 (0, 0)) ∧ cc.size = c * 33 ∧ cc.toList.take (L * 33) = xs))]
            (fun w2 => w2.cell? ⟨b, 2, none⟩ = some (.slice (some ⟨g, 0, none⟩) L c) ∧ Blk w2 w.heap.size (encW x) 95 ∧ (∃ cc : Array Value, w2.heap[g]? = some (.cells cc 95 (0, 0)) ∧ cc.size = c * 33 ∧ cc.toList.take (L * 33) = xs) ∧ w4.heap.size ≤ w2.heap.size) (by kernel_rfl) (by kernel_rfl) ?_ ⟨k2, B4.out.drew, ⟨cur, hcur, hcs, htk⟩, Nat.le_refl _⟩
            (fun w1 w2 h r => ?_) ?_
          · intro j mk r hf y w1 w2 hr rr
            obtain ⟨rk, rc⟩ := rr
            simp only [Free.find] at hf
            repeat' split at hf
            · cases hf; exact ⟨hr.1.keepB (rk.block _ hr.1.lt hr.2), hr.2⟩
            · cases hf
              obtain ⟨cc, h1, h2, h3⟩ := hr
              refine ⟨cc, ?_, h2, h3⟩
              rcases rc _ h1 (by rw [Apk.spl_size _ _ _ (HFIT.out cc h2)]; exact h2) with h4 | h4
              · exact h4
              · rw [h4, Apk.spl_spl _ _ _ (HFIT.out cc h2)]
            · cases hf
          · obtain ⟨rk, rc⟩ := r
            obtain ⟨h1, h2, ⟨cc, h3, h4, h5⟩, h6⟩ := h
            refine ⟨?_, h2.keepB (rk.block _ h2.lt (by omega)), ?_, Nat.le_trans h6 rk.size⟩
            · rw [World.cell?_of_block (rk.block b (World.block_lt_of_cell? w1 _ h1) (Ne.symm hgb))]; exact h1
            · rcases rc _ h3 h4 with h7 | h7
              · exact ⟨cc, h7, h4, h5⟩
              · exact ⟨_, h7, by rw [Apk.spl_size _ _ _ (HFIT.out cc h4)]; exact h4, by rw [Apk.spl_take _ _ _ (HFIT.out cc h4)]; exact h5⟩
          simp only [List.take_succ_cons, List.take_zero]
          clear k2
          iterate 5 (apply Fre2.chain_still (by first | exact Free.wanted_of rfl rfl rfl | rfl) rfl; (intro w' hB hA; obtain ⟨q0, q1, q2, q3⟩ := hB; clear hA  q1 q2 q3; go_light; go_simp <;> rfl); (try simp only [Act.put, List.setIfInBounds_toArray, List.set_cons_succ, List.set_cons_zero]))
          apply Fre2.chain_still rfl rfl
          · intro w' hB hA
            exact exec_row rfl (by rfl) hB.2.1 Tryz.underlying95 rfl (by rw [List.size_toArray, HE.out]; kernel_rfl)
          simp only [Act.put, List.setIfInBounds_toArray, List.set_cons_succ, List.set_cons_zero]
          apply Fre2.chain_ind rfl rfl
          · intro w' hB hA
            refine Free.opRun_of (v := .slice (some ⟨w'.heap.size, 0, none⟩) 1 1) (w' := w'.alloc (.cells (encW x).toArray 95)) ?_ ⟨rel_grow ((Below.refl _ _).alloc (Nat.le_refl _) _), w'.heap.size, rfl, Blk.new w' (encW x) 95, ?_⟩
            · have hb := Apk.run_slice_one (P := Tryz.prog) w' 52 95 i0 _ Tryz.underlying52 HI.out HZ0.out (encW x).toArray (by rw [List.size_toArray, HE.out, HZ1.out]) (by rw [HZ1.out]; decide) (by rw [HZ1.out]; decide)
              exact exec_slice rfl hb
            · have := hB.2.1.lt; omega
          intro g6
          simp only [Act.put, List.setIfInBounds_toArray, List.set_cons_succ, List.set_cons_zero]
          apply Fre2.chain_ind rfl rfl
          · intro w' hB hA
            have h6 : Blk w' g6 (encW x) 95 ∧ g6 ≠ g := hA _ List.mem_cons_self (by kernel_rfl)
            obtain ⟨_, _, ⟨cc, h3, h4, h5⟩, _⟩ := hB
            have hrun := Apk.append_room (P := Tryz.prog) w' 52 52 95 i0 33 Tryz.underlying52 HI.out HZ1.out g L c cc h3 ⟨g6, 0, none⟩ 1 1 (encW x) (by rw [HE.out]) (fun j u hu => by rw [addr_add, Nat.zero_add]; exact h6.1.cellD j u hu) (fun u hu => encW_one u hu) hcap h4
            refine Free.opRun_of (v := .slice (some ⟨g, 0, none⟩) (L + 1) c) (w' := w'.setRow g (Apk.spl cc (L * 33) (encW x))) ?_ ⟨rel_set h3, 0, rfl, cc, setRow_heap w' g cc _ 95 _ h3, h4, h5⟩
            exact exec_append (s := .tmp 45) (x := .tmp 47) rfl rfl rfl hrun
          intro y
          simp only [Act.put, List.setIfInBounds_toArray, List.set_cons_succ, List.set_cons_zero]
          iterate 2 (apply Fre2.chain_still (by first | exact Free.wanted_of rfl rfl rfl | rfl) rfl; (intro w' hB hA; obtain ⟨q0, q1, q2, q3⟩ := hB; clear hA  q0 q1 q2 q3; go_light; go_simp <;> rfl); (try simp only [Act.put, List.setIfInBounds_toArray, List.set_cons_succ, List.set_cons_zero]))
          apply Fre2.chain_nil
          intro wz hBz hg hh
          have h7 := hh _ List.mem_cons_self
          simp only at h7
          obtain ⟨cc, hc1, hc2, hc3⟩ := h7
          obtain ⟨hz, _⟩ : Keep (fun k => k = g) w4.drew wz ∧ _ := hg
          have Pz := P4.out.drew.keepB (hz.block b P4.out.lt (Ne.symm hgb))
          have f2 := Pz.frozen 2
          have c2 := Pz.cellD 2 _ rfl
          have hlen : (xs ++ encW x).length = (L + 1) * 33 := by rw [List.length_append, R4.out.1, HE.out, Nat.add_mul]
          have hown7 : wz.ownsRow 0 95 33 (.slice (some ⟨g, 0, none⟩) (L + 1) c) (L + 1) (xs ++ encW x) := by
            refine ⟨hlen, .inr ⟨g, c, _, rfl, Nat.zero_le _, hc1, hcap, hcap2, by rw [Apk.spl_size _ _ _ (HFIT.out cc hc2)]; exact hc2, ?_⟩⟩
            unfold Apk.spl
            rw [hc3, List.take_append_of_le_length (by rw [hlen]; exact Nat.le_refl _), List.take_of_length_le (by rw [hlen]; exact Nat.le_refl _)]
          have D6 : Hid (DiskAt (wz.setCell ⟨b, 2, none⟩ (.slice (some ⟨g, 0, none⟩) (L + 1) c)) b bs bm (.slice (some ⟨g, 0, none⟩) (L + 1) c) (d.push (m : Int) t.data.toList) n) := by
            show DiskAt _ _ _ _ _ _ _
            have hne : ∀ k, k ≠ b → (wz.setCell ⟨b, 2, none⟩ (.slice (some ⟨g, 0, none⟩) (L + 1) c)).heap[k]? = wz.heap[k]? := fun k hk => Below.heap_setCell wz ⟨b, 2, none⟩ _ k hk
            refine ⟨HOK.out, Pz.set 2 _, (S4.out.drew.keepB (hz.block bs S4.out.lt (Ne.symm hgs))).keepB (hne bs HD.out.ne1), ?_, (M4.out.keep (hz.block bm M4.out.lt (Ne.symm hgm))).keep (hne bm HD.out.ne2)⟩
            rw [HLP.out, HXE.out]
            exact row_keep hown7 (fun k e => hne k (by have : g = k := by simpa [Value.ownBlock] using e
                                                       omega))
          have K6 := Lib.hid ((K4.out.drew.trans (G := fun k => k = g) hz (fun k _ f => by subst f; exact .inr (.inr (.inr (by rw [HHP.out]; rfl))))).setCell (p := ⟨b, 2, none⟩) (fun _ => .inl rfl) (.slice (some ⟨g, 0, none⟩) (L + 1) c))
          have HP6 : Hid (∀ k, (Value.slice (some ⟨g, 0, none⟩) (L + 1) c).ownBlock = some k → pv.ownBlock = some k ∨ w.heap.size ≤ k) := fun k e => .inl (by
            rw [HHP.out]; exact e)
          simp only [List.drop_succ_cons, List.drop_zero]
          clear hBz hh hown7 hz Pz HPV HPV2 P4 S4 R4 M4 B4 K4 HXE HLP HI HZ0 HZ1 HZ2 EXS hc1 hc2 hc3 hcur hcs htk hlen HHP
          have F6 := Lib.hid (fails_any D6.out)
          have hw0 := D6.out.ok.w0
          have hw1 := D6.out.ok.w1
          cases hf : d.failsB with
          | true =>
            have hf' : (d.push (m : Int) t.data.toList).failsB = true := hf
            rw [hf', tick_fails _ hf'] at F6
            have e3 : DD.write n d (m : Int) t.data.toList = ((d.push (m : Int) t.data.toList).fail d.writes d.bytes, 21) := by rw [E2.out, hf]; rfl
            have E3 := Lib.hid e3
            clear e3 hf hf'
            go_wp2_with fail
            refine F6.out.mono ?_
            rintro e w7 ⟨rfl, h7, k7⟩
            have c6 := h7.blk.cellD 6 _ rfl
            have c7 := h7.blk.cellD 7 _ rfl
            have D7 := Lib.hid h7
            have K7 := Lib.hid (K6.out.trans k7 (fun k hk f => fp_more (w0 := w) (.inl rfl) HP6.out k hk f))
            clear h7 k7 F6
            go_wp2_with fail
            refine Free.wp_region_free 9 [] (fun w2 => w2.cell? ⟨b, 6, none⟩ = some (.int .i64 d.writes) ∧ w2.cell? ⟨b, 7, none⟩ = some (.int .i64 d.bytes)) (by kernel_rfl) (by kernel_rfl) ?_ ⟨c6, c7⟩ (fun _ _ h g => ⟨cell_grow' h.1 g, cell_grow' h.2 g⟩) ?_
            · intro j mk r hf
              simp only [Free.find] at hf
              cases hf
            simp only [List.take_succ_cons, List.take_zero]
            clear c6 c7
            iterate 9 (apply Free.chain_still (by first | exact Free.wanted_of rfl rfl rfl | rfl) rfl; (intro w' hB hA; obtain ⟨q0, q1⟩ := hB; clear hA ; go_light; go_simp <;> rfl); (try simp only [Act.put, List.setIfInBounds_toArray, List.set_cons_succ, List.set_cons_zero]))
            apply Free.chain_nil
            intro w8 _ hg _
            simp only [List.drop_succ_cons, List.drop_zero]
            have hz := grow_drew' hg
            have D8 := Lib.hid (D7.out.below hz)
            have K8 := Lib.hid (K7.out.trans (G := fun _ => False) (Keep.of_below hz) (fun _ _ f => f.elim))
            clear hg hz
            go_wp2_with fail
            refine (fail_any D8.out d.writes d.bytes hw0 hw1).mono ?_
            rintro e w9 ⟨rfl, bm9, pv9, h9, k9, hb9, hp9⟩
            have fin : DkPost2 w b bs bm n pv ((d.push (m : Int) t.data.toList).fail d.writes d.bytes) (.int .i64 21) (.returned (.int .i64 21)) w9 :=
              ⟨rfl, bm9, pv9, h9, K8.out.trans k9 (fun k hk f => fp_more (w0 := w) (.inl rfl) HP6.out k hk f), hb9.imp id (fun h => Nat.le_trans K8.out.size h), fun k e => (hp9 k e).elim (fun e' => HP6.out k e') (fun h => .inr (Nat.le_trans K8.out.size h)), fun e => by cases e⟩
            have FIN : Hid (DkPost2 w b bs bm n pv (DD.write n d (m : Int) t.data.toList).1 (.int .i64 (DD.write n d (m : Int) t.data.toList).2) (.returned (.int .i64 21)) w9) := by show DkPost2 _ _ _ _ _ _ _ _ _ _; rw [E3.out]; exact fin
            clear fin h9 k9 hb9 hp9
            go_wp2_with fail
            go_ret
            exact FIN.out
          | false =>
            have hf' : (d.push (m : Int) t.data.toList).failsB = false := hf
            rw [hf'] at F6
            have e3 : DD.write n d (m : Int) t.data.toList = ((d.push (m : Int) t.data.toList).tick, 0) := by rw [E2.out, hf]; rfl
            have E3 := Lib.hid e3
            clear e3 hf hf'
            go_wp2_with fail
            refine F6.out.mono ?_
            rintro e w7 ⟨rfl, h7, k7⟩
            have fin : DkPost2 w b bs bm n pv (d.push (m : Int) t.data.toList).tick (.int .i64 0) (.returned (.int .i64 0)) w7 :=
              ⟨rfl, bm, _, h7, K6.out.trans k7 (fun k hk f => fp_more (w0 := w) (.inl rfl) HP6.out k hk f), .inl rfl, HP6.out, fun _ => rfl⟩
            have FIN : Hid (DkPost2 w b bs bm n pv (DD.write n d (m : Int) t.data.toList).1 (.int .i64 (DD.write n d (m : Int) t.data.toList).2) (.returned (.int .i64 0)) w7) := by show DkPost2 _ _ _ _ _ _ _ _ _ _; rw [E3.out]; exact fin
            clear fin h7 k7 F6
            go_wp2_with fail
            go_ret
            exact FIN.out
        · have HRM : Hid (∀ g cap, pv = .slice (some ⟨g, 0, none⟩) L cap → cap < L + 1) := fun g cap e => Nat.lt_of_not_le (fun hc => hroom ⟨g, cap, e, hc⟩)
          clear hroom
          have k2 := P4.out.drew.cellD 2 _ rfl
          rw [HPV2.out] at k2
          go_wp2_with fail
          refine Free.wp_region_free 10 [(6, .ind (fun g => .slice (some ⟨g, 0, none⟩) 1 1) (fun g w2 => Blk w2 g (encW x) 95)), (7, .ind (fun y => .slice (some ⟨y / 18446744073709551616, 0, none⟩) (L + 1) (y % 18446744073709551616)) (fun y w2 => w2.ownsRow 0 95 33 (.slice (some ⟨y / 18446744073709551616, 0, none⟩) (L + 1) (y % 18446744073709551616)) (L + 1) (xs ++ encW x) ∧ w4.heap.size ≤ y / 18446744073709551616))]
            (fun w2 => w2.cell? ⟨b, 2, none⟩ = some (.slice A L c) ∧ Blk w2 w.heap.size (encW x) 95 ∧ w2.ownsRow 0 95 33 pv L xs ∧ w4.heap.size ≤ w2.heap.size) (by kernel_rfl) (by kernel_rfl) ?_ ⟨k2, B4.out.drew, R4.out, Nat.le_refl _⟩
            (fun w1 w2 h g => ⟨cell_grow' h.1 g, h.2.1.below g h.2.1.lt, row_keep h.2.2.1 (fun k e => g.block k (h.2.2.1.lt k e).2), Nat.le_trans h.2.2.2 g.size⟩) ?_
          · intro j mk r hf y w1 w2 hr g
            simp only [Free.find] at hf
            repeat' split at hf
            · cases hf; exact hr.below g hr.lt
            · cases hf; exact ⟨row_keep hr.1 (fun k e => g.block k (hr.1.lt k e).2), hr.2⟩
            · cases hf
          simp only [List.take_succ_cons, List.take_zero]
          clear k2
          iterate 5 (apply Free.chain_still (by first | exact Free.wanted_of rfl rfl rfl | rfl) rfl; (intro w' hB hA; obtain ⟨q0, q1, q2, q3⟩ := hB; clear hA  q1 q2 q3; go_light; go_simp <;> rfl); (try simp only [Act.put, List.setIfInBounds_toArray, List.set_cons_succ, List.set_cons_zero]))
          apply Free.chain_still rfl rfl
          · intro w' hB hA
            exact exec_row rfl (by rfl) hB.2.1 Tryz.underlying95 rfl (by rw [List.size_toArray, HE.out]; kernel_rfl)
          simp only [Act.put, List.setIfInBounds_toArray, List.set_cons_succ, List.set_cons_zero]
          apply Free.chain_ind rfl rfl
          · intro w' hB hA
            refine Free.opRun_of (v := .slice (some ⟨w'.heap.size, 0, none⟩) 1 1) (w' := w'.alloc (.cells (encW x).toArray 95)) ?_ ⟨(Below.refl _ _).alloc (Nat.le_refl _) _, w'.heap.size, rfl, Blk.new w' (encW x) 95⟩
            have hb := Apk.run_slice_one (P := Tryz.prog) w' 52 95 i0 _ Tryz.underlying52 HI.out HZ0.out (encW x).toArray (by rw [List.size_toArray, HE.out, HZ1.out]) (by rw [HZ1.out]; decide) (by rw [HZ1.out]; decide)
            exact exec_slice rfl hb
          intro g6
          simp only [Act.put, List.setIfInBounds_toArray, List.set_cons_succ, List.set_cons_zero]
          apply Free.chain_ind rfl rfl
          · intro w' hB hA
            have h6 : Blk w' g6 (encW x) 95 := hA _ List.mem_cons_self (by kernel_rfl)
            obtain ⟨cap, w5, hrun, hown5, hgr5⟩ := Apk.append_grows (P := Tryz.prog) w' 0 52 52 95 i0 _ 33 40 Tryz.underlying52 HI.out HZ0.out HZ1.out HZ2.out rfl (by decide) pv L xs hB.2.2.1 ⟨g6, 0, none⟩ 1 1 (encW x) (by rw [HE.out]) (fun j u hu => by rw [addr_add, Nat.zero_add]; exact h6.cellD j u hu) (fun u hu => encW_one u hu) (by unfold maxLen; omega) (by omega) (Nat.zero_le _) (by decide) HRM.out
            have hcap : cap < 18446744073709551616 := by
              obtain ⟨_, h0 | ⟨g', cap', cur', e', _, _, _, hc', _⟩⟩ := hown5
              · exact absurd h0.2 (by omega)
              · injection e' with _ _ e3; subst e3; unfold maxLen at hc'; omega
            have e1 : (w'.heap.size * 18446744073709551616 + cap) / 18446744073709551616 = w'.heap.size := by omega
            have e2 : (w'.heap.size * 18446744073709551616 + cap) % 18446744073709551616 = cap := by omega
            refine Free.opRun_of (v := .slice (some ⟨w'.heap.size, 0, none⟩) (L + 1) cap) (w' := w5) ?_ ⟨⟨hgr5.os, hgr5.tape, hgr5.output, hgr5.size, fun k hk => hgr5.block k hk (by simp)⟩, w'.heap.size * 18446744073709551616 + cap, by rw [e1, e2], by rw [e1, e2]; exact ⟨hown5, hB.2.2.2⟩⟩
            exact exec_append (s := .tmp 45) (x := .tmp 47) rfl (by rw [HPV2.out]; rfl) rfl hrun
          intro y
          simp only [Act.put, List.setIfInBounds_toArray, List.set_cons_succ, List.set_cons_zero]
          iterate 2 (apply Free.chain_still (by first | exact Free.wanted_of rfl rfl rfl | rfl) rfl; (intro w' hB hA; obtain ⟨q0, q1, q2, q3⟩ := hB; clear hA  q0 q1 q2 q3; go_light; go_simp <;> rfl); (try simp only [Act.put, List.setIfInBounds_toArray, List.set_cons_succ, List.set_cons_zero]))
          apply Free.chain_nil
          intro wz hBz hg hh
          have h7 := hh _ List.mem_cons_self
          simp only at h7
          obtain ⟨hown7, hfr7⟩ := h7
          have hz := grow_drew' hg
          have Pz := P4.out.below hz P4.out.lt
          have hlb : b < w4.heap.size := P4.out.lt
          have f2 := Pz.frozen 2
          have c2 := Pz.cellD 2 _ rfl
          have D6 : Hid (DiskAt (wz.setCell ⟨b, 2, none⟩ (.slice (some ⟨y / 18446744073709551616, 0, none⟩) (L + 1) (y % 18446744073709551616))) b bs bm (.slice (some ⟨y / 18446744073709551616, 0, none⟩) (L + 1) (y % 18446744073709551616)) (d.push (m : Int) t.data.toList) n) := by
            show DiskAt _ _ _ _ _ _ _
            have hne : ∀ k, k ≠ b → (wz.setCell ⟨b, 2, none⟩ (.slice (some ⟨y / 18446744073709551616, 0, none⟩) (L + 1) (y % 18446744073709551616))).heap[k]? = wz.heap[k]? := fun k hk => Below.heap_setCell wz ⟨b, 2, none⟩ _ k hk
            refine ⟨HOK.out, Pz.set 2 _, (S4.out.below hz S4.out.lt).keepB (hne bs HD.out.ne1), ?_, (M4.out.keep (hz.block bm M4.out.lt)).keep (hne bm HD.out.ne2)⟩
            rw [HLP.out, HXE.out]
            exact row_keep hown7 (fun k e => hne k (by have : y / 18446744073709551616 = k := by simpa [Value.ownBlock] using e
                                                       omega))
          have K6 := Lib.hid ((K4.out.trans (G := fun _ => False) (Keep.of_below hz) (fun _ _ f => f.elim)).setCell (p := ⟨b, 2, none⟩) (fun _ => .inl rfl) (.slice (some ⟨y / 18446744073709551616, 0, none⟩) (L + 1) (y % 18446744073709551616)))
          have HP6 : Hid (∀ k, (Value.slice (some ⟨y / 18446744073709551616, 0, none⟩) (L + 1) (y % 18446744073709551616)).ownBlock = some k → pv.ownBlock = some k ∨ w.heap.size ≤ k) := fun k e => .inr (by
            have : y / 18446744073709551616 = k := by simpa [Value.ownBlock] using e
            have := K4.out.size
            omega)
          simp only [List.drop_succ_cons, List.drop_zero]
          clear hBz hg hh hown7 hfr7 hz Pz hlb HPV HPV2 HRM P4 S4 R4 M4 B4 K4 HXE HLP HI HZ0 HZ1 HZ2 EXS
          have F6 := Lib.hid (fails_any D6.out)
          have hw0 := D6.out.ok.w0
          have hw1 := D6.out.ok.w1
          cases hf : d.failsB with
          | true =>
            have hf' : (d.push (m : Int) t.data.toList).failsB = true := hf
            rw [hf', tick_fails _ hf'] at F6
            have e3 : DD.write n d (m : Int) t.data.toList = ((d.push (m : Int) t.data.toList).fail d.writes d.bytes, 21) := by rw [E2.out, hf]; rfl
            have E3 := Lib.hid e3
            clear e3 hf hf'
            go_wp2_with fail
            refine F6.out.mono ?_
            rintro e w7 ⟨rfl, h7, k7⟩
            have c6 := h7.blk.cellD 6 _ rfl
            have c7 := h7.blk.cellD 7 _ rfl
            have D7 := Lib.hid h7
            have K7 := Lib.hid (K6.out.trans k7 (fun k hk f => fp_more (w0 := w) (.inl rfl) HP6.out k hk f))
            clear h7 k7 F6
            go_wp2_with fail
            refine Free.wp_region_free 9 [] (fun w2 => w2.cell? ⟨b, 6, none⟩ = some (.int .i64 d.writes) ∧ w2.cell? ⟨b, 7, none⟩ = some (.int .i64 d.bytes)) (by kernel_rfl) (by kernel_rfl) ?_ ⟨c6, c7⟩ (fun _ _ h g => ⟨cell_grow' h.1 g, cell_grow' h.2 g⟩) ?_
            · intro j mk r hf
              simp only [Free.find] at hf
              cases hf
            simp only [List.take_succ_cons, List.take_zero]
            clear c6 c7
            iterate 9 (apply Free.chain_still (by first | exact Free.wanted_of rfl rfl rfl | rfl) rfl; (intro w' hB hA; obtain ⟨q0, q1⟩ := hB; clear hA ; go_light; go_simp <;> rfl); (try simp only [Act.put, List.setIfInBounds_toArray, List.set_cons_succ, List.set_cons_zero]))
            apply Free.chain_nil
            intro w8 _ hg _
            simp only [List.drop_succ_cons, List.drop_zero]
            have hz := grow_drew' hg
            have D8 := Lib.hid (D7.out.below hz)
            have K8 := Lib.hid (K7.out.trans (G := fun _ => False) (Keep.of_below hz) (fun _ _ f => f.elim))
            clear hg hz
            go_wp2_with fail
            refine (fail_any D8.out d.writes d.bytes hw0 hw1).mono ?_
            rintro e w9 ⟨rfl, bm9, pv9, h9, k9, hb9, hp9⟩
            have fin : DkPost2 w b bs bm n pv ((d.push (m : Int) t.data.toList).fail d.writes d.bytes) (.int .i64 21) (.returned (.int .i64 21)) w9 :=
              ⟨rfl, bm9, pv9, h9, K8.out.trans k9 (fun k hk f => fp_more (w0 := w) (.inl rfl) HP6.out k hk f), hb9.imp id (fun h => Nat.le_trans K8.out.size h), fun k e => (hp9 k e).elim (fun e' => HP6.out k e') (fun h => .inr (Nat.le_trans K8.out.size h)), fun e => by cases e⟩
            have FIN : Hid (DkPost2 w b bs bm n pv (DD.write n d (m : Int) t.data.toList).1 (.int .i64 (DD.write n d (m : Int) t.data.toList).2) (.returned (.int .i64 21)) w9) := by show DkPost2 _ _ _ _ _ _ _ _ _ _; rw [E3.out]; exact fin
            clear fin h9 k9 hb9 hp9
            go_wp2_with fail
            go_ret
            exact FIN.out
          | false =>
            have hf' : (d.push (m : Int) t.data.toList).failsB = false := hf
            rw [hf'] at F6
            have e3 : DD.write n d (m : Int) t.data.toList = ((d.push (m : Int) t.data.toList).tick, 0) := by rw [E2.out, hf]; rfl
            have E3 := Lib.hid e3
            clear e3 hf hf'
            go_wp2_with fail
            refine F6.out.mono ?_
            rintro e w7 ⟨rfl, h7, k7⟩
            have fin : DkPost2 w b bs bm n pv (d.push (m : Int) t.data.toList).tick (.int .i64 0) (.returned (.int .i64 0)) w7 :=
              ⟨rfl, bm, _, h7, K6.out.trans k7 (fun k hk f => fp_more (w0 := w) (.inl rfl) HP6.out k hk f), .inl rfl, HP6.out, fun _ => rfl⟩
            have FIN : Hid (DkPost2 w b bs bm n pv (DD.write n d (m : Int) t.data.toList).1 (.int .i64 (DD.write n d (m : Int) t.data.toList).2) (.returned (.int .i64 0)) w7) := by show DkPost2 _ _ _ _ _ _ _ _ _ _; rw [E3.out]; exact fin
            clear fin h7 k7 F6
            go_wp2_with fail
            go_ret
            exact FIN.out
      · have e2 : DD.write n d s t.data.toList = (d, 1) := by simp [DD.write, hon, hh, htl, h32]
        rw [e2]
        rw [hh] at H1
        have HD := Lib.hid (dk_same2 h (.int .i64 1))
        have hsz1 : ((t.size : Int) != 32) = true := by simp; omega
        clear e2 h hon hh htl h32
        go_enter Tryz.func23, Tryz.ntmps23
        go_wp2_with fail
        refine H1.out.mono ?_
        rintro e w' ⟨rfl, rfl⟩
        go_wp2_with fail
        go_ret
        exact HD.out
theorem write_any (h : DiskAt w b bs bm pv d n) (s : Int) (t : ByteArray) (hfew : d.pend.length < 1000000) :
    Calls Tryz.prog 23 #[.pointer (some ⟨b, 0, none⟩), .int .i64 s, .string t] w (DkPost w b bs bm n pv (DD.write n d s t.data.toList).1 (.int .i64 (DD.write n d s t.data.toList).2)) :=
  (write_any2 h s t hfew).mono fun _ _ h => h.less
end
end Go.Proofs.YthfjaaigncjhlaaGreatDoor
