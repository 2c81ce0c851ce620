/- The statements on package disk: fill, ok, size, do. -/
import Derived.Test.YtkccfmaimpnbcaaDl1
namespace Go.Proofs.Ytkccfmaimpnbcaa
open Go.RowKit Go.Blk Go.Dk Go.Mp Go.Opn

theorem fill_any (t : ByteArray) (w : World) (ht : t.size ≤ 100) : Calls Try.prog 20 #[.string t] w fun e w' => e = .returned (.string (actText t false)) ∧ Below w.heap.size w w' := by
  have C := Lib.hid (fun w => text_any 0 0 0 t false 0 w ht)
  go_enter Try.func20, Try.ntmps20
  go_wp2_with fail
  refine (C.out _).mono ?_
  rintro e w1 ⟨rfl, hb1⟩
  have HB := Lib.hid hb1
  clear hb1
  go_wp2_with fail
  go_ret
  exact ⟨rfl, HB.out⟩
theorem size_any (r : Int) (w : World) (h0 : 0 ≤ r) (h1 : r ≤ 255) : Calls Try.prog 8 #[.int .u8 r] w fun e w' => e = .returned (.int .i64 (1 + r % 12)) ∧ w = w' := by
  go_enter Try.func8, Try.ntmps8
  go_wp2
  go_ret
  exact ⟨rfl, rfl⟩
/-- Whether the operations can be performed here. -/
def okL (l : List Act44) : Bool := l.all (fun a => decide (a.text.size ≤ 100)) && decide (l.length ≤ 60)
def RO (l : List Act44) (i : Value) : Prop := ∃ k : Nat, k ≤ l.length ∧ i = .int .i64 k ∧ (l.take k).all (fun a => decide (a.text.size ≤ 100)) = true
theorem take_all {α : Type} (l : List α) (p : α → Bool) (k : Nat) (x : α) (hx : l[k]? = some x) (h : (l.take k).all p = true) (hp : p x = true) : (l.take (k + 1)).all p = true := by
  obtain ⟨hk, rfl⟩ := List.getElem?_eq_some_iff.1 hx
  rw [List.take_succ_eq_append_getElem hk, List.all_append, h]; simp [hp]
theorem all_false {α : Type} (l : List α) (p : α → Bool) (k : Nat) (x : α) (hx : l[k]? = some x) (hp : p x = false) : l.all p = false := by
  cases h : l.all p
  · rfl
  · have := List.all_eq_true.1 h x (List.mem_of_getElem? hx); rw [this] at hp; cases hp
set_option maxRecDepth 100000 in
theorem ok_any (A : Option Addr) (c : Nat) (l : List Act44) (w : World) (h : SL w 6 encA A l) (hl : l.length ≤ 9223372036854775807) :
    Calls Try.prog 7 #[.slice A l.length c] w fun e w' => e = .returned (.bool (okL l)) ∧ w = w' := by
  have HS := Lib.hid h
  have HST : Hid (RO l (.int .i64 0)) := ⟨0, Nat.zero_le _, rfl, by simp⟩
  clear h
  go_enter Try.func7, Try.ntmps7
  go_wp2_with fail
  go_loop [3] (fun i => RO l i) (fun i => l.length - (intOf i).toNat)
  case atStart => exact HST.out
  case round =>
    clear HST
    obtain ⟨k, hk, rfl, hall⟩ := hrel
    by_cases hlt : k < l.length
    · obtain ⟨x, hx⟩ : ∃ x, l[k]? = some x := ⟨_, List.getElem?_eq_getElem hlt⟩
      obtain ⟨b, off, rfl, hc⟩ := HS.out.at_ hx
      have c3 := hc 3 _ rfl
      have hki : (k : Int) < (l.length : Int) := by omega
      have HA := Lib.hid hall
      have HX := Lib.hid hx
      have c3' : w.cell? ⟨b, off + k * 6 + 3, none⟩ = some (.string x.text) := by rw [Nat.add_assoc]; exact c3
      clear hall hx hc c3
      by_cases h1 : x.text.size ≤ 100
      · go_wp2_with fail
        go_round
        case rel => exact ⟨k + 1, by omega, by go_num, take_all l _ k x HX.out HA.out (by simpa using h1)⟩
        case measure => simp [intOf]; omega
      · have hf : okL l = false := by unfold okL; rw [all_false l _ k x HX.out (by simpa using h1)]; rfl
        have HF := Lib.hid hf
        clear hf
        go_wp2_with fail
        go_ret
        exact ⟨by rw [HF.out]; rfl, rfl⟩
    · obtain rfl : k = l.length := by omega
      have hf : okL l = decide ((l.length : Int) ≤ 60) := by
        unfold okL; rw [List.take_length] at hall; rw [hall, Bool.true_and]
        by_cases h6 : l.length ≤ 60
        · rw [decide_eq_true h6, decide_eq_true (by omega)]
        · rw [decide_eq_false h6, decide_eq_false (by omega)]
      have HF := Lib.hid hf
      clear hf hall
      go_wp2_with fail
      go_ret
      exact ⟨by rw [HF.out]; rfl, rfl⟩
/-- What an operation makes of a disk. -/
def actD (n : Nat) (d : DD) (a : Act44) : DD :=
  if a.kind = 0 then (DD.write n d a.sector (actText a.text a.odd).data.toList).1
  else if a.kind = 2 then d.sync.1
  else if a.kind = 3 then d.fail a.sector a.bytes
  else if a.kind = 4 then d.start
  else if a.kind = 5 then d.arm a.after a.sector a.bytes
  else d
def DoPost (w : World) (b bs bm n : Nat) (pv : Value) (d : DD) (e : Ending) (w' : World) : Prop :=
  ∃ r z, e = .returned (.tuple #[.string r, .int .i64 z]) ∧ ∃ bm' pv', DiskAt w' b bs bm' pv' d n ∧ Keep (Fp b bs bm pv) w w' ∧ (bm' = bm ∨ w.heap.size ≤ bm') ∧ (∀ k, pv'.ownBlock = some k → pv.ownBlock = some k ∨ w.heap.size ≤ k)
section
variable {w : World} {b bs bm n : Nat} {pv : Value} {d : DD}
set_option maxRecDepth 100000 in
set_option maxHeartbeats 2000000 in
theorem do_any (h : DiskAt w b bs bm pv d n) (k s x : Int) (t : ByteArray) (o : Bool) (f : Int) (ha : (⟨k, s, x, t, o, f⟩ : Act44).Ok) (ht : t.size ≤ 100) (hfew : d.pend.length < 1000000) :
    Calls Try.prog 10 #[.pointer (some ⟨b, 0, none⟩), .agg #[.int .i64 k, .int .i64 s, .int .i64 x, .string t, .bool o, .int .i64 f]] w (DoPost w b bs bm n pv (actD n d ⟨k, s, x, t, o, f⟩)) := by
  have s0 : -9223372036854775808 ≤ s := ha.s0
  have s1 : s ≤ 9223372036854775807 := ha.s1
  have x0 : -9223372036854775808 ≤ x := ha.b0
  have x1 : x ≤ 9223372036854775807 := ha.b1
  have f0 : -9223372036854775808 ≤ f := ha.a0
  have f1 : f ≤ 9223372036854775807 := ha.a1
  have B0 := Blk.new w [.int .i64 k, .int .i64 s, .int .i64 x, .string t, .bool o, .int .i64 f] 32
  have c0 := B0.cellD 0 _ rfl
  have c1 := B0.cellD 1 _ rfl
  have c2 := B0.cellD 2 _ rfl
  have c5 := B0.cellD 5 _ rfl
  have HBL := Lib.hid B0
  have HD := Lib.hid (h.alloc (.cells #[.int .i64 k, .int .i64 s, .int .i64 x, .string t, .bool o, .int .i64 f] 32))
  have HK := Lib.hid ((Keep.refl (Fp b bs bm pv) w).alloc (.cells #[.int .i64 k, .int .i64 s, .int .i64 x, .string t, .bool o, .int .i64 f] 32))
  clear B0
  by_cases k0 : k = 0
  · subst k0
    have C1 := Lib.hid (fun w => text_any 0 s x t o f w ht)
    have e2 : actD n d ⟨0, s, x, t, o, f⟩ = (DD.write n d s (actText t o).data.toList).1 := by simp [actD]
    rw [e2]
    obtain ⟨u, eu⟩ : ∃ u, u = actText t o := ⟨_, rfl⟩
    rw [← eu] at C1 ⊢
    clear e2 eu ha h c0 c2 c5
    go_enter Try.func10, Try.ntmps10
    go_wp2_with fail
    refine Free.wp_region_free 5 [(4, .det (.string u))] (fun w2 => w2.cell? ⟨w.heap.size, 1, none⟩ = some (.int .i64 s) ∧ Blk w2 w.heap.size [.int .i64 0, .int .i64 s, .int .i64 x, .string t, .bool o, .int .i64 f] 32) (by kernel_rfl) (by kernel_rfl) ?_ ⟨c1, HBL.out.drew⟩ (fun _ _ h g => ⟨cell_grow' h.1 g, h.2.below g h.2.lt⟩) ?_
    · intro j mk r hf
      simp only [Free.find] at hf
      repeat' split at hf
      all_goals (first | cases hf | skip)
    simp only [List.take_succ_cons, List.take_zero]
    clear c1
    iterate 3 (apply Free.chain_still (by first | exact Free.wanted_of rfl rfl rfl | rfl) rfl; (intro w' hB hA; obtain ⟨q0, q1⟩ := hB; clear hA  q1; go_light; go_simp <;> rfl); (try simp only [Act.put, List.setIfInBounds_toArray, List.set_cons_succ, List.set_cons_zero]))
    apply Free.chain_still rfl rfl
    · intro w' hB hA
      exact exec_row rfl (by rfl) hB.2 Try.underlying32 rfl (by kernel_rfl)
    simp only [Act.put, List.setIfInBounds_toArray, List.set_cons_succ, List.set_cons_zero]
    apply Free.chain_det rfl rfl
    · intro w' hB hA
      refine Free.opRun_call (f := 15) (args := #[.agg #[.int .i64 0, .int .i64 s, .int .i64 x, .string t, .bool o, .int .i64 f]]) (by clear hB hA; go_simp) ?_
      refine (C1.out _).mono ?_
      rintro e w3 ⟨rfl, hb3⟩
      exact ⟨_, rfl, hb3, rfl⟩
    simp only [Act.put, List.setIfInBounds_toArray, List.set_cons_succ, List.set_cons_zero]
    apply Free.chain_nil
    intro wz _ hg _
    simp only [List.drop_succ_cons, List.drop_zero]
    have hz := grow_drew' hg
    have DZ := Lib.hid (HD.out.below hz)
    have KZ := Lib.hid (HK.out.trans (G := fun _ => False) (Keep.of_below hz) (fun _ _ f => f.elim))
    clear hg hz HD HK
    have HK := KZ
    clear KZ
    go_wp2_with fail
    refine (write_any DZ.out s u hfew).mono ?_
    rintro e w1 ⟨rfl, bm1, pv1, h1, k1, hb1, hp1⟩
    have fin : DoPost w b bs bm n pv (DD.write n d s u.data.toList).1 (.returned (.tuple #[.string ⟨#[]⟩, .int .i64 (DD.write n d s u.data.toList).2])) w1 :=
      ⟨_, _, rfl, bm1, pv1, h1, HK.out.trans k1 (fun _ _ f => f), hb1.imp id (fun h => Nat.le_trans HK.out.size h), fun k e => (hp1 k e).imp id (fun h => Nat.le_trans HK.out.size h)⟩
    have FIN := Lib.hid fin
    obtain ⟨q, eq⟩ : ∃ q, q = (DD.write n d s u.data.toList).2 := ⟨_, rfl⟩
    rw [← eq] at FIN ⊢
    clear fin h1 k1 hb1 hp1 eq
    go_wp2_with fail
    go_ret2
    exact FIN.out
  · have n0 : (k == 0) = false := by simp [k0]
    by_cases k1 : k = 1
    · subst k1
      have e2 : actD n d ⟨1, s, x, t, o, f⟩ = d := by simp [actD]
      rw [e2]
      have R1 := Lib.hid (read_any HD.out s)
      have fin : DoPost w b bs bm n pv d (.returned (.tuple #[.string ⟨(DD.read n d s).1.toArray⟩, .int .i64 (DD.read n d s).2])) (w.alloc (.cells #[.int .i64 1, .int .i64 s, .int .i64 x, .string t, .bool o, .int .i64 f] 32)) :=
        ⟨_, _, rfl, bm, pv, HD.out, HK.out, .inl rfl, fun _ e => .inl e⟩
      have FIN := Lib.hid fin
      obtain ⟨q, eq⟩ : ∃ q, q = DD.read n d s := ⟨_, rfl⟩
      rw [← eq] at FIN R1
      clear fin e2 eq ha h n0
      go_enter Try.func10, Try.ntmps10
      go_wp2_with fail
      refine R1.out.mono ?_
      rintro e w1 ⟨rfl, rfl⟩
      go_wp2_with fail
      go_ret2
      exact FIN.out
    · have n1 : (k == 1) = false := by simp [k1]
      by_cases k2 : k = 2
      · subst k2
        have e2 : actD n d ⟨2, s, x, t, o, f⟩ = d.sync.1 := by simp [actD]
        rw [e2]
        have S1 := Lib.hid (sync_any HD.out)
        obtain ⟨q, eq⟩ : ∃ q, q = d.sync := ⟨_, rfl⟩
        rw [← eq] at S1 ⊢
        clear e2 eq ha h n0 n1 k0 k1
        go_enter Try.func10, Try.ntmps10
        go_wp2_with fail
        refine S1.out.mono ?_
        rintro e w1 ⟨rfl, bm1, pv1, h1, k1, hb1, hp1⟩
        have fin : DoPost w b bs bm n pv q.1 (.returned (.tuple #[.string ⟨#[]⟩, .int .i64 q.2])) w1 :=
          ⟨_, _, rfl, bm1, pv1, h1, HK.out.trans k1 (fun _ _ f => f), hb1.imp id (fun h => Nat.le_trans HK.out.size h), fun k e => (hp1 k e).imp id (fun h => Nat.le_trans HK.out.size h)⟩
        have FIN := Lib.hid fin
        clear fin h1 k1 hb1 hp1
        go_wp2_with fail
        go_ret2
        exact FIN.out
      · have n2 : (k == 2) = false := by simp [k2]
        by_cases k3 : k = 3
        · subst k3
          have e2 : actD n d ⟨3, s, x, t, o, f⟩ = d.fail s x := by simp [actD]
          rw [e2]
          have S1 := Lib.hid (fail_any HD.out s x s0 s1)
          clear e2 ha h n0 n1 n2 k0 k1 k2
          go_enter Try.func10, Try.ntmps10
          go_wp2_with fail
          refine S1.out.mono ?_
          rintro e w1 ⟨rfl, bm1, pv1, h1, k1, hb1, hp1⟩
          have fin : DoPost w b bs bm n pv (d.fail s x) (.returned (.tuple #[.string ⟨#[]⟩, .int .i64 0])) w1 :=
            ⟨_, _, rfl, bm1, pv1, h1, HK.out.trans k1 (fun _ _ f => f), hb1.imp id (fun h => Nat.le_trans HK.out.size h), fun k e => (hp1 k e).imp id (fun h => Nat.le_trans HK.out.size h)⟩
          have FIN := Lib.hid fin
          clear fin h1 k1 hb1 hp1
          go_wp2_with fail
          go_ret2
          exact FIN.out
        · have n3 : (k == 3) = false := by simp [k3]
          by_cases k4 : k = 4
          · subst k4
            have e2 : actD n d ⟨4, s, x, t, o, f⟩ = d.start := by simp [actD]
            rw [e2]
            have S1 := Lib.hid (start_any HD.out)
            clear e2 ha h n0 n1 n2 n3 k0 k1 k2 k3
            go_enter Try.func10, Try.ntmps10
            go_wp2_with fail
            refine S1.out.mono ?_
            rintro e w1 ⟨rfl, h1, k1⟩
            have fin : DoPost w b bs bm n pv d.start (.returned (.tuple #[.string ⟨#[]⟩, .int .i64 0])) w1 := ⟨_, _, rfl, bm, pv, h1, HK.out.trans k1 (fun _ _ f => f), .inl rfl, fun _ e => .inl e⟩
            have FIN := Lib.hid fin
            clear fin h1 k1
            go_wp2_with fail
            go_ret2
            exact FIN.out
          · have n4 : (k == 4) = false := by simp [k4]
            by_cases k5 : k = 5
            · subst k5
              have e2 : actD n d ⟨5, s, x, t, o, f⟩ = d.arm f s x := by simp [actD]
              rw [e2]
              have S1 := Lib.hid (arm_any HD.out f s x f0 f1 s0 s1 x0 x1)
              clear e2 ha h n0 n1 n2 n3 n4 k0 k1 k2 k3 k4
              go_enter Try.func10, Try.ntmps10
              go_wp2_with fail
              refine S1.out.mono ?_
              rintro e w1 ⟨rfl, h1, k1⟩
              have fin : DoPost w b bs bm n pv (d.arm f s x) (.returned (.tuple #[.string ⟨#[]⟩, .int .i64 0])) w1 := ⟨_, _, rfl, bm, pv, h1, HK.out.trans k1 (fun _ _ f => f), .inl rfl, fun _ e => .inl e⟩
              have FIN := Lib.hid fin
              clear fin h1 k1
              go_wp2_with fail
              go_ret2
              exact FIN.out
            · have n5 : (k == 5) = false := by simp [k5]
              have e2 : actD n d ⟨k, s, x, t, o, f⟩ = d := by simp [actD, k0, k2, k3, k4, k5]
              rw [e2]
              have fin : DoPost w b bs bm n pv d (.returned (.tuple #[.string ⟨#[]⟩, .int .i64 0])) (w.alloc (.cells #[.int .i64 k, .int .i64 s, .int .i64 x, .string t, .bool o, .int .i64 f] 32)) :=
                ⟨_, _, rfl, bm, pv, HD.out, HK.out, .inl rfl, fun _ e => .inl e⟩
              have FIN := Lib.hid fin
              clear fin e2 ha h k0 k1 k2 k3 k4 k5
              go_enter Try.func10, Try.ntmps10
              go_wp2_with fail
              go_ret2
              exact FIN.out
end
end Go.Proofs.Ytkccfmaimpnbcaa
