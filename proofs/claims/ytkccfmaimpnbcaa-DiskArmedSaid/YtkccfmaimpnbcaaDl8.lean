/- The law's own answer: what the first writes make of a disk. -/
import Derived.Test.YtkccfmaimpnbcaaDl6
namespace Go.Proofs.Ytkccfmaimpnbcaa
open Go.RowKit Go.Blk Go.Dk Go.Mp Go.Opn

/-- A disk that has been started and synced. -/
def synced (d0 : DD) : DD := { d0.start with st := settled d0.st d0.pend d0.pend.length 0, pend := [] }
theorem sync_is (d : DD) : d.start.sync = (synced d, 0) := sync_started d
def R4 (w : World) (b n W : Nat) (d : DD) (l : List Act44) (dn i : Value) (wr : World) : Prop :=
  ∃ k : Nat, k ≤ l.length ∧ i = .int .i64 k ∧ dn = .int .i64 (wrs n (l.take k)).length ∧ (wrs n (l.take k)).length ≤ W ∧ DW w (fun _ => False) wr b n { d with pend := wrs n (l.take k) }
theorem wrs_split (n k : Nat) (l : List Act44) : wrs n l = wrs n (l.take k) ++ wrs n (l.drop k) := by
  unfold wrs
  rw [← List.filterMap_append, List.take_append_drop]
theorem wrs_cut {n W k : Nat} {l : List Act44} (h : l.length ≤ k ∨ (wrs n (l.take k)).length = W) (hle : (wrs n (l.take k)).length ≤ W) : wrs n (l.take k) = (wrs n l).take W := by
  rcases h with h | h
  · rw [List.take_of_length_le h] at hle ⊢
    rw [List.take_of_length_le hle]
  · rw [wrs_split n k l, ← h, List.take_left]
theorem cont_low {w w4 : World} {n : Nat} {d : DD} {e : Ending} {w' : World} (hb : Below w.heap.size w w4) (h : ContPost w4 n d e w') : ContPost w n d e w' := by
  obtain ⟨A, c, rfl, ⟨h7, h8⟩, hb5⟩ := h
  refine ⟨A, c, rfl, ⟨h7, ?_⟩, hb.trans (hb5.mono hb.size)⟩
  rcases h8 with h8 | ⟨g, cap, cur, h8, h9, h10⟩
  · exact .inl h8
  · exact .inr ⟨g, cap, cur, h8, Nat.le_trans hb.size h9, h10⟩
set_option maxRecDepth 100000 in
set_option maxHeartbeats 4000000 in
theorem prefix_any (n W : Nat) (A1 A2 : Option Addr) (c1 c2 : Nat) (l1 l2 : List Act44) (w : World) (hn1 : 1 ≤ n) (hn2 : n ≤ 12) (_hW : W ≤ 60)
    (h1 : SL w 6 encA A1 l1) (h2 : SL w 6 encA A2 l2) (o1 : ∀ a ∈ l1, a.Ok) (o2 : ∀ a ∈ l2, a.Ok) (t1 : ∀ a ∈ l1, a.text.size ≤ 100) (t2 : ∀ a ∈ l2, a.text.size ≤ 100) (m1 : l1.length ≤ 60) (m2 : l2.length ≤ 60) :
    Calls Try.prog 17 #[.int .i64 n, .slice A1 l1.length c1, .slice A2 l2.length c2, .int .i64 W] w (ContPost w n { synced (runA n (DD.new n) l1) with pend := (wrs n l2).take W }) := by
  have H1 := Lib.hid h1
  have H2 := Lib.hid h2
  have O1 := Lib.hid o1
  have O2 := Lib.hid o2
  have T1 := Lib.hid t1
  have T2 := Lib.hid t2
  obtain ⟨dF, edF⟩ : ∃ dF : DD, dF = { synced (runA n (DD.new n) l1) with pend := (wrs n l2).take W } := ⟨_, rfl⟩
  rw [← edF]
  have HF := Lib.hid edF
  clear h1 h2 o1 o2 t1 t2 edF
  go_enter Try.func17, Try.ntmps17
  go_wp2_with fail
  refine (DW.new (G := fun _ => False) n hn1 (by omega) w w (Below.refl _ _) (fun _ f => f.elim)).mono ?_
  rintro e w2 ⟨b, rfl, hd, hb2⟩
  have HST : Hid (R1 w b n l1 (.int .i64 0) w2) := ⟨0, Nat.zero_le _, rfl, hd, by simp [runA, DD.new]⟩
  clear hd hb2
  go_wp2_with fail
  go_loopw [11] (fun i wr => R1 w b n l1 i wr) (fun i _ => l1.length - (intOf i).toNat)
  case atStart => exact HST.out
  case round =>
    clear HST
    obtain ⟨k, hk, rfl, hD, hp⟩ := hrel
    by_cases hlt : k < l1.length
    · obtain ⟨a, ha⟩ : ∃ a, l1[k]? = some a := ⟨_, List.getElem?_eq_getElem hlt⟩
      obtain ⟨bb, off, rfl, hc⟩ := (H1.out.below hD.bl (Nat.le_refl _)).at_ ha
      have hok := O1.out a (List.mem_of_getElem? ha)
      have htx := T1.out a (List.mem_of_getElem? ha)
      obtain ⟨ak, asx, ab, atx, ao, af⟩ := a
      have i0 := hc 0 _ rfl
      have i1 := hc 1 _ rfl
      have i2 := hc 2 _ rfl
      have i3 := hc 3 _ rfl
      have i4 := hc 4 _ rfl
      have i5 := hc 5 _ rfl
      simp only [← Nat.add_assoc, Nat.add_zero] at i0 i1 i2 i3 i4 i5
      have C1 := Lib.hid (hD.act ak asx ab atx ao af hok htx (by omega))
      have HA := Lib.hid ha
      have HP := Lib.hid hp
      have hki : (k : Int) < (l1.length : Int) := by omega
      clear hc hD hok htx ha hp
      go_wp2_with fail
      refine C1.out.mono ?_
      rintro e w3 ⟨r3, z3, rfl, hd3, hx1, hx2⟩
      have KEY := Lib.hid (R1.more HA.out HP.out hd3)
      clear hd3 C1 i0 i1 i2 i3 i4 i5 hx1 hx2
      go_wp2_with fail
      go_roundw
      case rel =>
        go_light
        have key := KEY.out
        first | exact key | ((repeat apply Exists.intro); exact ⟨key, rfl⟩) | ((repeat apply Exists.intro); exact ⟨key, rfl, rfl⟩)
      case measure => simp [intOf]; omega
    · obtain rfl : k = l1.length := by omega
      rw [List.take_length] at hD hp
      obtain ⟨d0, ed0⟩ : ∃ d0, d0 = runA n (DD.new n) l1 := ⟨_, rfl⟩
      rw [← ed0] at hD hp HF
      have S1 := Lib.hid hD.start
      clear hD ed0 hlt hk
      go_wp2_with fail
      refine S1.out.mono ?_
      rintro e w3 ⟨rfl, hd3, hx1, hx2⟩
      have S2 := Lib.hid (hd3.sync (sync_is d0))
      clear hd3 S1 hx1 hx2
      go_wp2_with fail
      refine S2.out.mono ?_
      rintro e w4 ⟨rfl, hd4, hx1, hx2⟩
      clear hx1 hx2 S2
      obtain ⟨d, ed⟩ : ∃ d : DD, d = synced d0 := ⟨_, rfl⟩
      rw [← ed] at hd4 HF
      have don : d.on = true := by rw [ed]; rfl
      have darm : d.armed = false := by rw [ed]; rfl
      have dpend : d.pend = [] := by rw [ed]; rfl
      have e0 : ({ d with pend := wrs n (l2.take 0) } : DD) = d := by
        cases d; simp at dpend; subst dpend; rfl
      have HST : Hid (R4 w b n W d l2 (.int .i64 0) (.int .i64 0) w4) := ⟨0, Nat.zero_le _, rfl, rfl, by simp [wrs], by rw [e0]; exact hd4⟩
      have DON := Lib.hid don
      have DARM := Lib.hid darm
      clear hd4 ed hp don darm dpend e0
      go_wp2_with fail
      go_loopw [12, 13] (fun dn i wr => R4 w b n W d l2 dn i wr) (fun _ i _ => l2.length - (intOf i).toNat)
      case atStart => exact HST.out
      case round =>
        clear HST
        obtain ⟨k, hk, rfl, rfl, hle, hD⟩ := hrel
        have fin : l2.length ≤ k ∨ (wrs n (l2.take k)).length = W → ∀ e w', ContPost wr n { d with pend := wrs n (l2.take k) } e w' → ContPost w n dF e w' := fun h e w' hc => by
          rw [wrs_cut h hle] at hc
          rw [HF.out]
          exact cont_low hD.bl hc
        have FIN := Lib.hid fin
        clear fin
        by_cases hlt : k < l2.length
        · by_cases hlw : (wrs n (l2.take k)).length < W
          · clear FIN
            obtain ⟨a, ha⟩ : ∃ a, l2[k]? = some a := ⟨_, List.getElem?_eq_getElem hlt⟩
            obtain ⟨bb, off, rfl, hc⟩ := (H2.out.below hD.bl (Nat.le_refl _)).at_ ha
            have hok := O2.out a (List.mem_of_getElem? ha)
            have htx := T2.out a (List.mem_of_getElem? ha)
            have hwl := wrs_len n (l2.take k)
            have hwl2 : (l2.take k).length ≤ k := List.length_take_le _ _
            have hwp := write_plain (n := n) (d := { d with pend := wrs n (l2.take k) }) DON.out DARM.out a
            have hnx : wrs n (l2.take (k + 1)) = wrs n (l2.take k) ++ (okW n a).toList := by rw [take_snoc' ha, wrs_snoc]
            obtain ⟨P, eP⟩ : ∃ P, P = wrs n (l2.take k) := ⟨_, rfl⟩
            rw [← eP] at hD hwl hwp hnx hle hlw ⊢
            have HNX := Lib.hid hnx
            cases how : okW n a with
            | some z =>
              rw [how] at hwp HNX
              obtain ⟨ak, asx, ab, atx, ao, af⟩ := a
              have i0 := hc 0 _ rfl
              have i1 := hc 1 _ rfl
              have i2 := hc 2 _ rfl
              have i3 := hc 3 _ rfl
              have i4 := hc 4 _ rfl
              have i5 := hc 5 _ rfl
              simp only [← Nat.add_assoc, Nat.add_zero] at i0 i1 i2 i3 i4 i5
              have C1 := Lib.hid (fun w => text_any ak asx ab atx ao af w htx)
              have HD := Lib.hid hD
              have HA := Lib.hid ha
              have hki : (k : Int) < (l2.length : Int) := by omega
              have hpi : (P.length : Int) < (W : Int) := by omega
              clear hc hD hok ha eP hnx how
              go_wp2_with fail
              refine Free.wp_region_free 11 [(10, .det (.string (actText atx ao)))] (fun w2 => w2.cell? ⟨bb, off + k * 6, none⟩ = some (.int .i64 ak) ∧ w2.cell? ⟨bb, off + k * 6 + 1, none⟩ = some (.int .i64 asx) ∧ w2.cell? ⟨bb, off + k * 6 + 2, none⟩ = some (.int .i64 ab) ∧ w2.cell? ⟨bb, off + k * 6 + 3, none⟩ = some (.string atx) ∧ w2.cell? ⟨bb, off + k * 6 + 4, none⟩ = some (.bool ao) ∧ w2.cell? ⟨bb, off + k * 6 + 5, none⟩ = some (.int .i64 af)) (by kernel_rfl) (by kernel_rfl) ?_ ⟨i0, i1, i2, i3, i4, i5⟩ (fun _ _ h g => ⟨cell_grow' h.1 g, cell_grow' h.2.1 g, cell_grow' h.2.2.1 g, cell_grow' h.2.2.2.1 g, cell_grow' h.2.2.2.2.1 g, cell_grow' h.2.2.2.2.2 g⟩) ?_
              · intro j mk r hf
                simp only [Free.find] at hf
                repeat' split at hf
                all_goals (first | cases hf | skip)
              simp only [List.take_succ_cons, List.take_zero]
              clear i0 i1 i2 i3 i4 i5
              have k00 : (0 : Int) ≤ (k : Int) := by omega
              iterate 10 (apply Free.chain_still (by first | exact Free.wanted_of rfl rfl rfl | rfl) rfl; (intro w' hB hA; obtain ⟨q0, q1, q2, q3, q4, q5⟩ := hB; clear hA ; go_light; go_simp <;> rfl); (try simp only [Act.put, List.setIfInBounds_toArray, List.set_cons_succ, List.set_cons_zero]))
              apply Free.chain_det rfl rfl
              · intro w' hB hA
                refine Free.opRun_call (f := 15) (args := #[.agg #[.int .i64 ak, .int .i64 asx, .int .i64 ab, .string atx, .bool ao, .int .i64 af]]) (by clear hB hA; go_simp) ?_
                refine (C1.out _).mono ?_
                rintro e w3 ⟨rfl, hb3⟩
                exact ⟨_, rfl, hb3, rfl⟩
              simp only [Act.put, List.setIfInBounds_toArray, List.set_cons_succ, List.set_cons_zero]
              apply Free.chain_nil
              intro wz _ hg _
              simp only [List.drop_succ_cons, List.drop_zero]
              have hz := grow_drew' hg
              have DZ := Lib.hid (HD.out.grow hz)
              clear hg hz HD
              go_wp2_with fail
              refine (DZ.out.write asx (actText atx ao) (by show P.length < _; omega) hwp).mono ?_
              rintro e w6 ⟨rfl, hd6, hg6, hz6⟩
              have hlz : (wrs n (l2.take (k + 1))).length = P.length + 1 := by rw [HNX.out]; simp
              have key : R4 w b n W d l2 (.int .i64 ((P.length : Int) + 1)) (.int .i64 ((k : Int) + 1)) w6 := by
                refine ⟨k + 1, hlt, by go_num, by rw [hlz]; go_num, by omega, ?_⟩
                rw [HNX.out]; exact hd6
              have KEY := Lib.hid key
              clear key hd6 hg6 hz6 DZ C1 hwp hlz
              go_wp2_with fail
              go_roundw
              case rel =>
                go_light
                have key := KEY.out
                first | exact key | ((repeat apply Exists.intro); exact ⟨key, rfl⟩) | ((repeat apply Exists.intro); exact ⟨key, rfl, rfl⟩)
              case measure => simp [intOf]; omega
            | none =>
              rw [how] at hwp HNX
              obtain ⟨ak, asx, ab, atx, ao, af⟩ := a
              have i0 := hc 0 _ rfl
              have i1 := hc 1 _ rfl
              have i2 := hc 2 _ rfl
              have i3 := hc 3 _ rfl
              have i4 := hc 4 _ rfl
              have i5 := hc 5 _ rfl
              simp only [← Nat.add_assoc, Nat.add_zero] at i0 i1 i2 i3 i4 i5
              have C1 := Lib.hid (fun w => text_any ak asx ab atx ao af w htx)
              have HD := Lib.hid hD
              have HA := Lib.hid ha
              have hki : (k : Int) < (l2.length : Int) := by omega
              have hpi : (P.length : Int) < (W : Int) := by omega
              clear hc hD hok ha eP hnx how
              go_wp2_with fail
              refine Free.wp_region_free 11 [(10, .det (.string (actText atx ao)))] (fun w2 => w2.cell? ⟨bb, off + k * 6, none⟩ = some (.int .i64 ak) ∧ w2.cell? ⟨bb, off + k * 6 + 1, none⟩ = some (.int .i64 asx) ∧ w2.cell? ⟨bb, off + k * 6 + 2, none⟩ = some (.int .i64 ab) ∧ w2.cell? ⟨bb, off + k * 6 + 3, none⟩ = some (.string atx) ∧ w2.cell? ⟨bb, off + k * 6 + 4, none⟩ = some (.bool ao) ∧ w2.cell? ⟨bb, off + k * 6 + 5, none⟩ = some (.int .i64 af)) (by kernel_rfl) (by kernel_rfl) ?_ ⟨i0, i1, i2, i3, i4, i5⟩ (fun _ _ h g => ⟨cell_grow' h.1 g, cell_grow' h.2.1 g, cell_grow' h.2.2.1 g, cell_grow' h.2.2.2.1 g, cell_grow' h.2.2.2.2.1 g, cell_grow' h.2.2.2.2.2 g⟩) ?_
              · intro j mk r hf
                simp only [Free.find] at hf
                repeat' split at hf
                all_goals (first | cases hf | skip)
              simp only [List.take_succ_cons, List.take_zero]
              clear i0 i1 i2 i3 i4 i5
              have k00 : (0 : Int) ≤ (k : Int) := by omega
              iterate 10 (apply Free.chain_still (by first | exact Free.wanted_of rfl rfl rfl | rfl) rfl; (intro w' hB hA; obtain ⟨q0, q1, q2, q3, q4, q5⟩ := hB; clear hA ; go_light; go_simp <;> rfl); (try simp only [Act.put, List.setIfInBounds_toArray, List.set_cons_succ, List.set_cons_zero]))
              apply Free.chain_det rfl rfl
              · intro w' hB hA
                refine Free.opRun_call (f := 15) (args := #[.agg #[.int .i64 ak, .int .i64 asx, .int .i64 ab, .string atx, .bool ao, .int .i64 af]]) (by clear hB hA; go_simp) ?_
                refine (C1.out _).mono ?_
                rintro e w3 ⟨rfl, hb3⟩
                exact ⟨_, rfl, hb3, rfl⟩
              simp only [Act.put, List.setIfInBounds_toArray, List.set_cons_succ, List.set_cons_zero]
              apply Free.chain_nil
              intro wz _ hg _
              simp only [List.drop_succ_cons, List.drop_zero]
              have hz := grow_drew' hg
              have DZ := Lib.hid (HD.out.grow hz)
              clear hg hz HD
              go_wp2_with fail
              refine (DZ.out.write asx (actText atx ao) (by show P.length < _; omega) hwp).mono ?_
              rintro e w6 ⟨rfl, hd6, hg6, hz6⟩
              have hlz : wrs n (l2.take (k + 1)) = P := by rw [HNX.out]; simp
              have key : R4 w b n W d l2 (.int .i64 (P.length : Int)) (.int .i64 ((k : Int) + 1)) w6 := by
                refine ⟨k + 1, hlt, by go_num, by rw [hlz], by rw [hlz]; omega, ?_⟩
                rw [hlz]; exact hd6
              have KEY := Lib.hid key
              clear key hd6 hg6 hz6 DZ C1 hwp hlz
              go_wp2_with fail
              go_roundw
              case rel =>
                go_light
                have key := KEY.out
                first | exact key | ((repeat apply Exists.intro); exact ⟨key, rfl⟩) | ((repeat apply Exists.intro); exact ⟨key, rfl, rfl⟩)
              case measure => simp [intOf]; omega
          · have S3 := Lib.hid (hD.cont DON.out)
            have FF := Lib.hid (FIN.out (.inr (by omega)))
            obtain ⟨P, eP⟩ : ∃ P, P = wrs n (l2.take k) := ⟨_, rfl⟩
            rw [← eP] at S3 FF hlw ⊢
            have hki : (k : Int) < (l2.length : Int) := by omega
            have hpi : ¬ (P.length : Int) < (W : Int) := by omega
            clear hD FIN eP hle
            go_wp2_with fail
            refine S3.out.mono ?_
            rintro e w5 hcp
            have FIN := Lib.hid (FF.out _ _ hcp)
            obtain ⟨A5, c5, rfl, _, _⟩ := hcp
            clear S3 FF
            go_wp2_with fail
            go_ret2
            exact FIN.out
        · have S3 := Lib.hid (hD.cont DON.out)
          have FF := Lib.hid (FIN.out (.inl (by omega)))
          obtain ⟨P, eP⟩ : ∃ P, P = wrs n (l2.take k) := ⟨_, rfl⟩
          rw [← eP] at S3 FF ⊢
          have hki : ¬ (k : Int) < (l2.length : Int) := by omega
          clear hD FIN eP hle
          go_wp2_with fail
          refine S3.out.mono ?_
          rintro e w5 hcp
          have FIN := Lib.hid (FF.out _ _ hcp)
          obtain ⟨A5, c5, rfl, _, _⟩ := hcp
          clear S3 FF
          go_wp2_with fail
          go_ret2
          exact FIN.out
end Go.Proofs.Ytkccfmaimpnbcaa
