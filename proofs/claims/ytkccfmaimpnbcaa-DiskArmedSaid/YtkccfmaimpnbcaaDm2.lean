/- The walk of DiskArmed: the law answers true for every input. -/
import Derived.Test.YtkccfmaimpnbcaaDm1
namespace Go.Proofs.Ytkccfmaimpnbcaa
open Go.RowKit Go.Blk Go.Dk Go.Mp Go.Opn

def R6 (w : World) (a b n : Nat) (l : List Act44) (i : Value) (wr : World) : Prop :=
  ∃ k : Nat, k ≤ l.length ∧ i = .int .i64 k ∧ TD w wr a b n (runA n (DD.new n) (l.take k)) (runA n (DD.new n) (l.take k)) ∧ (runA n (DD.new n) (l.take k)).pend.length ≤ k
theorem R6.more {w : World} {a b n : Nat} {l : List Act44} {k : Nat} {x : Act44} {wr : World} (hx : l[k]? = some x) (hp : (runA n (DD.new n) (l.take k)).pend.length ≤ k) (hd : TD w wr a b n (actD n (runA n (DD.new n) (l.take k)) x) (actD n (runA n (DD.new n) (l.take k)) x)) :
    R6 w a b n l (.int .i64 ((k : Int) + 1)) wr := by
  have hk : k < l.length := (List.getElem?_eq_some_iff.1 hx).1
  refine ⟨k + 1, hk, by go_num, ?_, ?_⟩
  · rw [take_snoc' hx, runA_snoc]; exact hd
  · rw [take_snoc' hx, runA_snoc]; have := actD_pend n (runA n (DD.new n) (l.take k)) x; omega
def R7 (w : World) (a b n : Nat) (l2 : List Act44) (af ws bs : Int) (left i : Value) (wr : World) : Prop :=
  ∃ (k : Nat) (l : Int) (d : DD), k ≤ l2.length ∧ i = .int .i64 k ∧ left = .int .i64 l ∧ d.on = true ∧ d.armed = false ∧ (af < 0 → l = af) ∧ (0 ≤ af → 0 ≤ l ∧ l ≤ af) ∧ d.pend.length ≤ 60 + k ∧ TD w wr a b n (lift d af l ws bs) d
set_option maxRecDepth 100000 in
set_option maxHeartbeats 8000000 in
theorem armed_any (r : Int) (A1 A2 : Option Addr) (c1 c2 : Nat) (l1 l2 : List Act44) (af ws bs : Int) (w : World) (hr : (Lit.int .u8 r).wf = true) (hx : (Lit.int .i64 af).wf = true) (hy : (Lit.int .i64 ws).wf = true) (hz : (Lit.int .i64 bs).wf = true)
    (h1 : SL w 6 encA A1 l1) (h2 : SL w 6 encA A2 l2) (o1 : ∀ a ∈ l1, a.Ok) (o2 : ∀ a ∈ l2, a.Ok) (n1 : l1.length ≤ 9223372036854775807) (n2 : l2.length ≤ 9223372036854775807) :
    Calls Try.prog 5 #[.int .u8 r, .slice A1 l1.length c1, .slice A2 l2.length c2, .int .i64 af, .int .i64 ws, .int .i64 bs] w fun e w' => e = .returned (.bool true) ∧ Below w.heap.size w w' := by
  obtain ⟨hr0, hr1⟩ := bounds_u8 hr
  obtain ⟨hx0, hx1⟩ := bounds_i64 hx
  obtain ⟨hy0, hy1⟩ := bounds_i64 hy
  obtain ⟨hz0, hz1⟩ := bounds_i64 hz
  have H1 := Lib.hid h1
  have H2 := Lib.hid h2
  have O1 := Lib.hid o1
  have O2 := Lib.hid o2
  clear hr hx hy hz h1 h2 o1 o2
  cases k1 : okL l1 with
  | false =>
    go_enter Try.func5, Try.ntmps5
    go_wp2_with fail
    refine (head44_any _).mono ?_
    rintro e w1 ⟨rfl, hb1⟩
    have q1 := ok_any A1 c1 l1 w1 (H1.out.below hb1 (Nat.le_refl _)) n1
    rw [k1] at q1
    have Q1 := Lib.hid q1
    have HB := Lib.hid hb1
    clear q1 hb1
    go_wp2_with fail
    refine Q1.out.mono ?_
    rintro e w' ⟨rfl, rfl⟩
    go_wp2_with fail
    go_ret
    exact ⟨rfl, HB.out⟩
  | true =>
    cases k2 : okL l2 with
    | false =>
      go_enter Try.func5, Try.ntmps5
      go_wp2_with fail
      refine (head44_any _).mono ?_
      rintro e w1 ⟨rfl, hb1⟩
      have q1 := ok_any A1 c1 l1 w1 (H1.out.below hb1 (Nat.le_refl _)) n1
      rw [k1] at q1
      have q2 := ok_any A2 c2 l2 w1 (H2.out.below hb1 (Nat.le_refl _)) n2
      rw [k2] at q2
      have Q1 := Lib.hid q1
      have Q2 := Lib.hid q2
      have HB := Lib.hid hb1
      clear q1 q2 hb1
      go_wp2_with fail
      refine Q1.out.mono ?_
      rintro e w' ⟨rfl, rfl⟩
      go_wp2_with fail
      refine Q2.out.mono ?_
      rintro e w' ⟨rfl, rfl⟩
      go_wp2_with fail
      go_ret
      exact ⟨rfl, HB.out⟩
    | true =>
      obtain ⟨n, hn⟩ : ∃ n : Nat, 1 + r % 12 = (n : Int) := ⟨(1 + r % 12).toNat, by omega⟩
      have hn1 : 1 ≤ n := by omega
      have hn2 : n ≤ 12 := by omega
      have t1 : ∀ a ∈ l1, a.text.size ≤ 100 := fun a ha => by have := k1; unfold okL at this; simp at this; exact this.1 a ha
      have t2 : ∀ a ∈ l2, a.text.size ≤ 100 := fun a ha => by have := k2; unfold okL at this; simp at this; exact this.1 a ha
      have m1 : l1.length ≤ 60 := by have := k1; unfold okL at this; simp at this; exact this.2
      have m2 : l2.length ≤ 60 := by have := k2; unfold okL at this; simp at this; exact this.2
      have K1 := Lib.hid k1
      have K2 := Lib.hid k2
      have T1 := Lib.hid t1
      have T2 := Lib.hid t2
      have HN := Lib.hid hn
      clear k1 k2 t1 t2 hn
      go_enter Try.func5, Try.ntmps5
      go_wp2_with fail
      refine (head44_any _).mono ?_
      rintro e w1 ⟨rfl, hb1⟩
      have q1 := ok_any A1 c1 l1 w1 (H1.out.below hb1 (Nat.le_refl _)) n1
      rw [K1.out] at q1
      have q2 := ok_any A2 c2 l2 w1 (H2.out.below hb1 (Nat.le_refl _)) n2
      rw [K2.out] at q2
      have Q1 := Lib.hid q1
      have Q2 := Lib.hid q2
      have HB := Lib.hid hb1
      clear q1 q2 hb1
      go_wp2_with fail
      refine Q1.out.mono ?_
      rintro e w' ⟨rfl, rfl⟩
      go_wp2_with fail
      refine Q2.out.mono ?_
      rintro e w' ⟨rfl, rfl⟩
      clear Q1 Q2 K1 K2
      go_wp2_with fail
      refine (size_is r n _ hr0 hr1 HN.out).mono ?_
      rintro e w' ⟨rfl, rfl⟩
      go_wp2_with fail
      refine (DW.new (G := fun _ => False) n hn1 (by omega) w w1 HB.out (fun _ f => f.elim)).mono ?_
      rintro e w2 ⟨a, rfl, hd, hb2⟩
      have N1 := Lib.hid (TD.new hd hn1 (by omega))
      clear hd hb2 HB
      go_wp2_with fail
      refine N1.out.mono ?_
      rintro e w3 ⟨b, rfl, hd⟩
      have HST : Hid (R6 w a b n l1 (.int .i64 0) w3) := ⟨0, Nat.zero_le _, rfl, hd, by simp [runA, DD.new]⟩
      clear hd N1
      go_wp2_with fail
      go_loopw [17] (fun i wr => R6 w a b n l1 i wr) (fun i _ => l1.length - (intOf i).toNat)
      case atStart => exact HST.out
      case round =>
        clear HST
        obtain ⟨k, hk, rfl, hD, hp⟩ := hrel
        by_cases hlt : k < l1.length
        · obtain ⟨x, ha⟩ : ∃ x, l1[k]? = some x := ⟨_, List.getElem?_eq_getElem hlt⟩
          obtain ⟨bb, off, rfl, hc⟩ := (H1.out.below hD.bl (Nat.le_refl _)).at_ ha
          have hok := O1.out x (List.mem_of_getElem? ha)
          have htx := T1.out x (List.mem_of_getElem? ha)
          obtain ⟨ak, asx, ab, atx, ao, af2⟩ := x
          have i0 := hc 0 _ rfl
          have i1 := hc 1 _ rfl
          have i2 := hc 2 _ rfl
          have i3 := hc 3 _ rfl
          have i4 := hc 4 _ rfl
          have i5 := hc 5 _ rfl
          simp only [← Nat.add_assoc, Nat.add_zero] at i0 i1 i2 i3 i4 i5
          clear hc
          have C1 := Lib.hid (hD.actA ak asx ab atx ao af2 hok htx (by omega))
          have HA := Lib.hid ha
          have HP := Lib.hid hp
          have HOK := Lib.hid hok
          have hki : (k : Int) < (l1.length : Int) := by omega
          clear hD hok ha hp
          go_wp2_with fail
          refine C1.out.mono ?_
          rintro e w4 ⟨r3, z3, rfl, hd3⟩
          have T3 := Lib.hid hd3
          clear i0 i1 i2 i3 i4 i5 C1
          have C2 := Lib.hid (hd3.actB ak asx ab atx ao af2 HOK.out htx (by have := HP.out; omega))
          obtain ⟨bb2, off2, e8, hc⟩ := (H1.out.below T3.out.bl (Nat.le_refl _)).at_ HA.out
          injection e8 with e8
          injection e8 with e9 e10
          subst e9 e10
          have i0 := hc 0 _ rfl
          have i1 := hc 1 _ rfl
          have i2 := hc 2 _ rfl
          have i3 := hc 3 _ rfl
          have i4 := hc 4 _ rfl
          have i5 := hc 5 _ rfl
          simp only [← Nat.add_assoc, Nat.add_zero] at i0 i1 i2 i3 i4 i5
          clear hc
          clear hd3 T3
          go_wp2_with fail
          refine C2.out.mono ?_
          rintro e w5 ⟨r4, z4, rfl, hd4⟩
          have KEY := Lib.hid (R6.more HA.out HP.out hd4)
          clear hd4 C2 i0 i1 i2 i3 i4 i5 htx
          go_wp2_with fail
          go_roundw
          case rel =>
            go_light
            have key := KEY.out
            first | exact key | ((repeat apply Exists.intro); exact ⟨key, rfl⟩) | ((repeat apply Exists.intro); exact ⟨key, rfl, rfl⟩)
          case measure => simp [intOf]; omega
        · obtain rfl : k = l1.length := by omega
          rw [List.take_length] at hD hp
          obtain ⟨d0, ed0⟩ : ∃ d0, d0 = runA n (DD.new n) l1 := ⟨_, rfl⟩
          rw [← ed0] at hD hp
          have S1 := Lib.hid (hD.stepA (fun G hG => hG.start))
          clear hD ed0 hlt hk
          go_wp2_with fail
          refine S1.out.mono ?_
          rintro e w4 ⟨rfl, hd4⟩
          have S2 := Lib.hid (hd4.stepB (fun G hG => hG.start))
          clear hd4 S1
          go_wp2_with fail
          refine S2.out.mono ?_
          rintro e w5 ⟨rfl, hd5⟩
          have S3 := Lib.hid (hd5.stepA (fun G hG => hG.arm af ws bs hx0 hx1 hy0 hy1 hz0 hz1))
          rw [arm_lift (d := d0.start) rfl] at S3
          clear hd5 S2
          go_wp2_with fail
          refine S3.out.mono ?_
          rintro e w6 ⟨rfl, hd6⟩
          have HST : Hid (R7 w a b n l2 af ws bs (.int .i64 af) (.int .i64 0) w6) := ⟨0, af, d0.start, Nat.zero_le _, rfl, rfl, rfl, rfl, by omega, by omega, by show d0.pend.length ≤ _; omega, hd6⟩
          clear hd6 S3 hp
          go_wp2_with fail
          go_loopw [18, 19] (fun l i wr => R7 w a b n l2 af ws bs l i wr) (fun _ i _ => l2.length - (intOf i).toNat)
          case atStart => exact HST.out
          case round =>
            clear HST
            obtain ⟨k, l, d, hk, rfl, rfl, don, darm, hl0, hl1, hp, hD⟩ := hrel
            have DON := Lib.hid don
            have DARM := Lib.hid darm
            clear don darm
            by_cases hlt : k < l2.length
            · obtain ⟨x, ha⟩ : ∃ x, l2[k]? = some x := ⟨_, List.getElem?_eq_getElem hlt⟩
              obtain ⟨bb, off, rfl, hc⟩ := (H2.out.below hD.bl (Nat.le_refl _)).at_ ha
              have htx := T2.out x (List.mem_of_getElem? ha)
              have hwB := write_plain (n := n) (d := d) DON.out DARM.out x
              have HA := Lib.hid ha
              have TA := Lib.hid hD
              have hki : (k : Int) < (l2.length : Int) := by omega
              have k00 : (0 : Int) ≤ (k : Int) := by omega
              clear ha hD
              by_cases hk2 : x.kind = 2
              · obtain ⟨ak, asx, ab, atx, ao, af2⟩ := x
                simp only at hk2
                subst hk2
                have i0 := hc 0 _ rfl
                have i1 := hc 1 _ rfl
                have i2 := hc 2 _ rfl
                have i3 := hc 3 _ rfl
                have i4 := hc 4 _ rfl
                have i5 := hc 5 _ rfl
                simp only [← Nat.add_assoc, Nat.add_zero] at i0 i1 i2 i3 i4 i5
                clear hc
                by_cases hl : l = 0
                · subst hl
                  have haf : 0 ≤ af := by omega
                  have hnaf : ¬ af < 0 := by omega
                  have S1 := Lib.hid (TA.out.stepB (fun G hG => hG.fail ws bs hy0 hy1))
                  clear TA hwB
                  go_wp2_with fail
                  refine S1.out.mono ?_
                  rintro e w7 ⟨rfl, hd7⟩
                  have S2 := Lib.hid (hd7.stepA (fun G hG => hG.sync (sync_yes DON.out rfl haf)))
                  clear S1 hd7
                  go_wp2_with fail
                  refine S2.out.mono ?_
                  rintro e w8 ⟨rfl, hd8⟩
                  have TF := Lib.hid hd8
                  have HC := Lib.hid (conts_fail (n := n) (d := d) (af := af) (l := 0) (ws := ws) (bs := bs) DON.out)
                  clear hd8 S2 i0 i1 i2 i3 i4 i5
                  have S1 := Lib.hid (TF.out.stepA (fun G hG => hG.start))
                  go_wp2_with fail
                  refine S1.out.mono ?_
                  rintro e v1 ⟨rfl, ht1⟩
                  have S2 := Lib.hid (ht1.stepB (fun G hG => hG.start))
                  clear ht1 S1
                  go_wp2_with fail
                  refine S2.out.mono ?_
                  rintro e v2 ⟨rfl, ht2⟩
                  have T5 := Lib.hid ht2
                  have S3 := Lib.hid (ht2.contA rfl)
                  clear ht2 S2
                  go_wp2_with fail
                  refine S3.out.mono ?_
                  rintro e v3 ⟨A8, c8, rfl, hown8, hb8⟩
                  have T6 := Lib.hid (T5.out.grow hb8)
                  have S4 := Lib.hid (T6.out.contB rfl)
                  have O8 := Lib.hid hown8
                  clear hown8 hb8 S3 T5
                  go_wp2_with fail
                  refine S4.out.mono ?_
                  rintro e v4 ⟨A9, c9, rfl, hown9, hb9⟩
                  have O9 := row_keep O8.out (fun g e => hb9.block g (O8.out.lt g e).2)
                  have hbl := T6.out.bl.trans (hb9.mono T6.out.bl.size)
                  rw [← HC.out] at hown9
                  have q := same_yes A8 A9 c8 c9 _ v4 (sl_of_own O9) (sl_of_own hown9) (by rw [conts_len]; omega)
                  rw [conts_len] at q
                  have Q := Lib.hid q
                  have HB := Lib.hid hbl
                  clear q hbl hown9 hb9 O9 O8 T6 S4
                  go_wp2_with fail
                  refine Q.out.mono ?_
                  rintro e v5 ⟨rfl, hb10⟩
                  have HBB := Lib.hid (HB.out.trans (hb10.mono HB.out.size))
                  clear hb10
                  go_wp2_with fail
                  go_ret
                  exact ⟨rfl, HBB.out⟩
                · have S1 := Lib.hid (TA.out.stepB (fun G hG => hG.sync (sync_plain DON.out DARM.out)))
                  clear TA hwB
                  go_wp2_with fail
                  refine S1.out.mono ?_
                  rintro e w7 ⟨rfl, hd7⟩
                  have S2 := Lib.hid (hd7.stepA (fun G hG => hG.sync (sync_no DON.out hl (by omega) (by omega))))
                  clear S1 hd7
                  go_wp2_with fail
                  refine S2.out.mono ?_
                  rintro e w8 ⟨rfl, hd8⟩
                  clear S2 i0 i1 i2 i3 i4 i5
                  by_cases hpos : 0 < l
                  · have e1 : dec1 l = l - 1 := by unfold dec1; rw [if_pos hpos]
                    have key : R7 w a b n l2 af ws bs (.int .i64 (l - 1)) (.int .i64 ((k : Int) + 1)) w8 := by
                      refine ⟨k + 1, l - 1, { d with st := settled d.st d.pend d.pend.length 0, pend := [] }, hlt, by go_num, rfl, DON.out, DARM.out, by omega, by omega, (by simp), ?_⟩
                      rw [← e1]; exact hd8
                    have KEY := Lib.hid key
                    clear key e1 hd8
                    go_wp2_with fail
                    go_roundw
                    case rel =>
                      go_light
                      have key := KEY.out
                      first | exact key | ((repeat apply Exists.intro); exact ⟨key, rfl⟩) | ((repeat apply Exists.intro); exact ⟨key, rfl, rfl⟩)
                    case measure => simp [intOf]; omega
                  · have e1 : dec1 l = l := by unfold dec1; rw [if_neg hpos]
                    have key : R7 w a b n l2 af ws bs (.int .i64 l) (.int .i64 ((k : Int) + 1)) w8 := by
                      refine ⟨k + 1, l, { d with st := settled d.st d.pend d.pend.length 0, pend := [] }, hlt, by go_num, rfl, DON.out, DARM.out, by omega, by omega, (by simp), ?_⟩
                      rw [e1] at hd8; exact hd8
                    have KEY := Lib.hid key
                    clear key e1 hd8
                    go_wp2_with fail
                    go_roundw
                    case rel =>
                      go_light
                      have key := KEY.out
                      first | exact key | ((repeat apply Exists.intro); exact ⟨key, rfl⟩) | ((repeat apply Exists.intro); exact ⟨key, rfl, rfl⟩)
                    case measure => simp [intOf]; omega
              · have hnk : (x.kind == 2) = false := by simp [hk2]
                cases how : okW n x with
                | none =>
                  have hwA := write_none (n := n) (d := d) (af := af) (l := l) (ws := ws) (bs := bs) DON.out x how
                  rw [how] at hwB
                  obtain ⟨ak, asx, ab, atx, ao, af2⟩ := x
                  simp only at hk2 hnk hwA hwB
                  have i0 := hc 0 _ rfl
                  have i1 := hc 1 _ rfl
                  have i2 := hc 2 _ rfl
                  have i3 := hc 3 _ rfl
                  have i4 := hc 4 _ rfl
                  have i5 := hc 5 _ rfl
                  simp only [← Nat.add_assoc, Nat.add_zero] at i0 i1 i2 i3 i4 i5
                  clear hc
                  have C1 := Lib.hid (fun w => text_any ak asx ab atx ao af2 w htx)
                  have WA := Lib.hid hwA
                  have WB := Lib.hid hwB
                  clear hwA hwB how
                  go_wp2_with fail
                  refine Free.wp_region_free 11 [(10, .det (.string (actText atx ao)))] (fun w2 => w2.cell? ⟨bb, off + k * 6, none⟩ = some (.int .i64 ak) ∧ w2.cell? ⟨bb, off + k * 6 + 1, none⟩ = some (.int .i64 asx) ∧ w2.cell? ⟨bb, off + k * 6 + 2, none⟩ = some (.int .i64 ab) ∧ w2.cell? ⟨bb, off + k * 6 + 3, none⟩ = some (.string atx) ∧ w2.cell? ⟨bb, off + k * 6 + 4, none⟩ = some (.bool ao) ∧ w2.cell? ⟨bb, off + k * 6 + 5, none⟩ = some (.int .i64 af2)) (by kernel_rfl) (by kernel_rfl) ?_ ⟨i0, i1, i2, i3, i4, i5⟩ (fun _ _ h g => ⟨cell_grow' h.1 g, cell_grow' h.2.1 g, cell_grow' h.2.2.1 g, cell_grow' h.2.2.2.1 g, cell_grow' h.2.2.2.2.1 g, cell_grow' h.2.2.2.2.2 g⟩) ?_
                  · intro j mk r hf
                    simp only [Free.find] at hf
                    repeat' split at hf
                    all_goals (first | cases hf | skip)
                  simp only [List.take_succ_cons, List.take_zero]
                  clear i0 i1 i2 i3 i4 i5
                  iterate 10 (apply Free.chain_still (by first | exact Free.wanted_of rfl rfl rfl | rfl) rfl; (intro w' hB hA; obtain ⟨q0, q1, q2, q3, q4, q5⟩ := hB; clear hA ; go_light; go_simp <;> rfl); (try simp only [Act.put, List.setIfInBounds_toArray, List.set_cons_succ, List.set_cons_zero]))
                  apply Free.chain_det rfl rfl
                  · intro w' hB hA
                    refine Free.opRun_call (f := 15) (args := #[.agg #[.int .i64 ak, .int .i64 asx, .int .i64 ab, .string atx, .bool ao, .int .i64 af2]]) (by clear hB hA; go_simp) ?_
                    refine (C1.out _).mono ?_
                    rintro e w3 ⟨rfl, hb3⟩
                    exact ⟨_, rfl, hb3, rfl⟩
                  simp only [Act.put, List.setIfInBounds_toArray, List.set_cons_succ, List.set_cons_zero]
                  apply Free.chain_nil
                  intro wz _ hg _
                  simp only [List.drop_succ_cons, List.drop_zero]
                  have hz := grow_drew' hg
                  have TZ := Lib.hid (TA.out.grow hz)
                  clear hg hz
                  go_wp2_with fail
                  refine (TZ.out.stepB (fun G hG => hG.write asx (actText atx ao) (by omega) WB.out)).mono ?_
                  rintro e w7 ⟨rfl, hd7⟩
                  have TB := Lib.hid hd7
                  clear hd7 TZ
                  obtain ⟨bb2, off2, e8, hc⟩ := (H2.out.below TB.out.bl (Nat.le_refl _)).at_ HA.out
                  injection e8 with e8
                  injection e8 with e9 e10
                  subst e9 e10
                  have i0 := hc 0 _ rfl
                  have i1 := hc 1 _ rfl
                  have i2 := hc 2 _ rfl
                  have i3 := hc 3 _ rfl
                  have i4 := hc 4 _ rfl
                  have i5 := hc 5 _ rfl
                  simp only [← Nat.add_assoc, Nat.add_zero] at i0 i1 i2 i3 i4 i5
                  clear hc
                  go_wp2_with fail
                  refine Free.wp_region_free 11 [(10, .det (.string (actText atx ao)))] (fun w2 => w2.cell? ⟨bb, off + k * 6, none⟩ = some (.int .i64 ak) ∧ w2.cell? ⟨bb, off + k * 6 + 1, none⟩ = some (.int .i64 asx) ∧ w2.cell? ⟨bb, off + k * 6 + 2, none⟩ = some (.int .i64 ab) ∧ w2.cell? ⟨bb, off + k * 6 + 3, none⟩ = some (.string atx) ∧ w2.cell? ⟨bb, off + k * 6 + 4, none⟩ = some (.bool ao) ∧ w2.cell? ⟨bb, off + k * 6 + 5, none⟩ = some (.int .i64 af2)) (by kernel_rfl) (by kernel_rfl) ?_ ⟨i0, i1, i2, i3, i4, i5⟩ (fun _ _ h g => ⟨cell_grow' h.1 g, cell_grow' h.2.1 g, cell_grow' h.2.2.1 g, cell_grow' h.2.2.2.1 g, cell_grow' h.2.2.2.2.1 g, cell_grow' h.2.2.2.2.2 g⟩) ?_
                  · intro j mk r hf
                    simp only [Free.find] at hf
                    repeat' split at hf
                    all_goals (first | cases hf | skip)
                  simp only [List.take_succ_cons, List.take_zero]
                  clear i0 i1 i2 i3 i4 i5
                  iterate 10 (apply Free.chain_still (by first | exact Free.wanted_of rfl rfl rfl | rfl) rfl; (intro w' hB hA; obtain ⟨q0, q1, q2, q3, q4, q5⟩ := hB; clear hA ; go_light; go_simp <;> rfl); (try simp only [Act.put, List.setIfInBounds_toArray, List.set_cons_succ, List.set_cons_zero]))
                  apply Free.chain_det rfl rfl
                  · intro w' hB hA
                    refine Free.opRun_call (f := 15) (args := #[.agg #[.int .i64 ak, .int .i64 asx, .int .i64 ab, .string atx, .bool ao, .int .i64 af2]]) (by clear hB hA; go_simp) ?_
                    refine (C1.out _).mono ?_
                    rintro e w3 ⟨rfl, hb3⟩
                    exact ⟨_, rfl, hb3, rfl⟩
                  simp only [Act.put, List.setIfInBounds_toArray, List.set_cons_succ, List.set_cons_zero]
                  apply Free.chain_nil
                  intro wy _ hg _
                  simp only [List.drop_succ_cons, List.drop_zero]
                  have hz := grow_drew' hg
                  have TY := Lib.hid (TB.out.grow hz)
                  clear hg hz
                  go_wp2_with fail
                  refine (TY.out.stepA (fun G hG => hG.write asx (actText atx ao) (by show d.pend.length < _; omega) WA.out)).mono ?_
                  rintro e w8 ⟨rfl, hd8⟩
                  have key : R7 w a b n l2 af ws bs (.int .i64 l) (.int .i64 ((k : Int) + 1)) w8 :=
                    ⟨k + 1, l, d, hlt, by go_num, rfl, DON.out, DARM.out, hl0, hl1, by omega, hd8⟩
                  have KEY := Lib.hid key
                  clear key hd8 TY TB TA C1 WA WB
                  go_wp2_with fail
                  go_roundw
                  case rel =>
                    go_light
                    have key := KEY.out
                    first | exact key | ((repeat apply Exists.intro); exact ⟨key, rfl⟩) | ((repeat apply Exists.intro); exact ⟨key, rfl, rfl⟩)
                  case measure => simp [intOf]; omega
                | some z =>
                  have hwA := write_some (n := n) (d := d) (af := af) (l := l) (ws := ws) (bs := bs) DON.out x how
                  rw [how] at hwB
                  obtain ⟨ak, asx, ab, atx, ao, af2⟩ := x
                  simp only at hk2 hnk hwA hwB
                  have i0 := hc 0 _ rfl
                  have i1 := hc 1 _ rfl
                  have i2 := hc 2 _ rfl
                  have i3 := hc 3 _ rfl
                  have i4 := hc 4 _ rfl
                  have i5 := hc 5 _ rfl
                  simp only [← Nat.add_assoc, Nat.add_zero] at i0 i1 i2 i3 i4 i5
                  clear hc
                  have C1 := Lib.hid (fun w => text_any ak asx ab atx ao af2 w htx)
                  have WB := Lib.hid hwB
                  clear hwB how
                  by_cases hl : l = 0
                  · subst hl
                    have haf : 0 ≤ af := by omega
                    have hnaf : ¬ af < 0 := by omega
                    rw [fails_yes rfl haf] at hwA
                    simp only [if_true] at hwA
                    have WA := Lib.hid hwA
                    clear hwA
                    go_wp2_with fail
                    refine Free.wp_region_free 11 [(10, .det (.string (actText atx ao)))] (fun w2 => w2.cell? ⟨bb, off + k * 6, none⟩ = some (.int .i64 ak) ∧ w2.cell? ⟨bb, off + k * 6 + 1, none⟩ = some (.int .i64 asx) ∧ w2.cell? ⟨bb, off + k * 6 + 2, none⟩ = some (.int .i64 ab) ∧ w2.cell? ⟨bb, off + k * 6 + 3, none⟩ = some (.string atx) ∧ w2.cell? ⟨bb, off + k * 6 + 4, none⟩ = some (.bool ao) ∧ w2.cell? ⟨bb, off + k * 6 + 5, none⟩ = some (.int .i64 af2)) (by kernel_rfl) (by kernel_rfl) ?_ ⟨i0, i1, i2, i3, i4, i5⟩ (fun _ _ h g => ⟨cell_grow' h.1 g, cell_grow' h.2.1 g, cell_grow' h.2.2.1 g, cell_grow' h.2.2.2.1 g, cell_grow' h.2.2.2.2.1 g, cell_grow' h.2.2.2.2.2 g⟩) ?_
                    · intro j mk r hf
                      simp only [Free.find] at hf
                      repeat' split at hf
                      all_goals (first | cases hf | skip)
                    simp only [List.take_succ_cons, List.take_zero]
                    clear i0 i1 i2 i3 i4 i5
                    iterate 10 (apply Free.chain_still (by first | exact Free.wanted_of rfl rfl rfl | rfl) rfl; (intro w' hB hA; obtain ⟨q0, q1, q2, q3, q4, q5⟩ := hB; clear hA ; go_light; go_simp <;> rfl); (try simp only [Act.put, List.setIfInBounds_toArray, List.set_cons_succ, List.set_cons_zero]))
                    apply Free.chain_det rfl rfl
                    · intro w' hB hA
                      refine Free.opRun_call (f := 15) (args := #[.agg #[.int .i64 ak, .int .i64 asx, .int .i64 ab, .string atx, .bool ao, .int .i64 af2]]) (by clear hB hA; go_simp) ?_
                      refine (C1.out _).mono ?_
                      rintro e w3 ⟨rfl, hb3⟩
                      exact ⟨_, rfl, hb3, rfl⟩
                    simp only [Act.put, List.setIfInBounds_toArray, List.set_cons_succ, List.set_cons_zero]
                    apply Free.chain_nil
                    intro wz _ hg _
                    simp only [List.drop_succ_cons, List.drop_zero]
                    have hz := grow_drew' hg
                    have TZ := Lib.hid (TA.out.grow hz)
                    clear hg hz
                    go_wp2_with fail
                    refine (TZ.out.stepB (fun G hG => hG.write asx (actText atx ao) (by omega) WB.out)).mono ?_
                    rintro e w7 ⟨rfl, hd7⟩
                    have S1 := Lib.hid (hd7.stepB (fun G hG => hG.fail ws bs hy0 hy1))
                    clear hd7 TZ
                    go_wp2_with fail
                    refine S1.out.mono ?_
                    rintro e w9 ⟨rfl, hd9⟩
                    have TB := Lib.hid hd9
                    clear hd9 S1
                    obtain ⟨bb2, off2, e8, hc⟩ := (H2.out.below TB.out.bl (Nat.le_refl _)).at_ HA.out
                    injection e8 with e8
                    injection e8 with e9 e10
                    subst e9 e10
                    have i0 := hc 0 _ rfl
                    have i1 := hc 1 _ rfl
                    have i2 := hc 2 _ rfl
                    have i3 := hc 3 _ rfl
                    have i4 := hc 4 _ rfl
                    have i5 := hc 5 _ rfl
                    simp only [← Nat.add_assoc, Nat.add_zero] at i0 i1 i2 i3 i4 i5
                    clear hc
                    go_wp2_with fail
                    refine Free.wp_region_free 11 [(10, .det (.string (actText atx ao)))] (fun w2 => w2.cell? ⟨bb, off + k * 6, none⟩ = some (.int .i64 ak) ∧ w2.cell? ⟨bb, off + k * 6 + 1, none⟩ = some (.int .i64 asx) ∧ w2.cell? ⟨bb, off + k * 6 + 2, none⟩ = some (.int .i64 ab) ∧ w2.cell? ⟨bb, off + k * 6 + 3, none⟩ = some (.string atx) ∧ w2.cell? ⟨bb, off + k * 6 + 4, none⟩ = some (.bool ao) ∧ w2.cell? ⟨bb, off + k * 6 + 5, none⟩ = some (.int .i64 af2)) (by kernel_rfl) (by kernel_rfl) ?_ ⟨i0, i1, i2, i3, i4, i5⟩ (fun _ _ h g => ⟨cell_grow' h.1 g, cell_grow' h.2.1 g, cell_grow' h.2.2.1 g, cell_grow' h.2.2.2.1 g, cell_grow' h.2.2.2.2.1 g, cell_grow' h.2.2.2.2.2 g⟩) ?_
                    · intro j mk r hf
                      simp only [Free.find] at hf
                      repeat' split at hf
                      all_goals (first | cases hf | skip)
                    simp only [List.take_succ_cons, List.take_zero]
                    clear i0 i1 i2 i3 i4 i5
                    iterate 10 (apply Free.chain_still (by first | exact Free.wanted_of rfl rfl rfl | rfl) rfl; (intro w' hB hA; obtain ⟨q0, q1, q2, q3, q4, q5⟩ := hB; clear hA ; go_light; go_simp <;> rfl); (try simp only [Act.put, List.setIfInBounds_toArray, List.set_cons_succ, List.set_cons_zero]))
                    apply Free.chain_det rfl rfl
                    · intro w' hB hA
                      refine Free.opRun_call (f := 15) (args := #[.agg #[.int .i64 ak, .int .i64 asx, .int .i64 ab, .string atx, .bool ao, .int .i64 af2]]) (by clear hB hA; go_simp) ?_
                      refine (C1.out _).mono ?_
                      rintro e w3 ⟨rfl, hb3⟩
                      exact ⟨_, rfl, hb3, rfl⟩
                    simp only [Act.put, List.setIfInBounds_toArray, List.set_cons_succ, List.set_cons_zero]
                    apply Free.chain_nil
                    intro wy _ hg _
                    simp only [List.drop_succ_cons, List.drop_zero]
                    have hz := grow_drew' hg
                    have TY := Lib.hid (TB.out.grow hz)
                    clear hg hz
                    go_wp2_with fail
                    refine (TY.out.stepA (fun G hG => hG.write asx (actText atx ao) (by show d.pend.length < _; omega) WA.out)).mono ?_
                    rintro e w8 ⟨rfl, hd8⟩
                    have TF := Lib.hid hd8
                    have HC := Lib.hid (conts_fail (n := n) (d := { d with pend := d.pend ++ [z] }) (af := af) (l := 0) (ws := ws) (bs := bs) DON.out)
                    clear hd8 TY TB TA C1 WA WB
                    have S1 := Lib.hid (TF.out.stepA (fun G hG => hG.start))
                    go_wp2_with fail
                    refine S1.out.mono ?_
                    rintro e v1 ⟨rfl, ht1⟩
                    have S2 := Lib.hid (ht1.stepB (fun G hG => hG.start))
                    clear ht1 S1
                    go_wp2_with fail
                    refine S2.out.mono ?_
                    rintro e v2 ⟨rfl, ht2⟩
                    have T5 := Lib.hid ht2
                    have S3 := Lib.hid (ht2.contA rfl)
                    clear ht2 S2
                    go_wp2_with fail
                    refine S3.out.mono ?_
                    rintro e v3 ⟨A8, c8, rfl, hown8, hb8⟩
                    have T6 := Lib.hid (T5.out.grow hb8)
                    have S4 := Lib.hid (T6.out.contB rfl)
                    have O8 := Lib.hid hown8
                    clear hown8 hb8 S3 T5
                    go_wp2_with fail
                    refine S4.out.mono ?_
                    rintro e v4 ⟨A9, c9, rfl, hown9, hb9⟩
                    have O9 := row_keep O8.out (fun g e => hb9.block g (O8.out.lt g e).2)
                    have hbl := T6.out.bl.trans (hb9.mono T6.out.bl.size)
                    rw [← HC.out] at hown9
                    have q := same_yes A8 A9 c8 c9 _ v4 (sl_of_own O9) (sl_of_own hown9) (by rw [conts_len]; omega)
                    rw [conts_len] at q
                    have Q := Lib.hid q
                    have HB := Lib.hid hbl
                    clear q hbl hown9 hb9 O9 O8 T6 S4
                    go_wp2_with fail
                    refine Q.out.mono ?_
                    rintro e v5 ⟨rfl, hb10⟩
                    have HBB := Lib.hid (HB.out.trans (hb10.mono HB.out.size))
                    clear hb10
                    go_wp2_with fail
                    go_ret
                    exact ⟨rfl, HBB.out⟩
                  · rw [fails_no hl (by omega)] at hwA
                    simp only [Bool.false_eq_true, if_false] at hwA
                    rw [tick_lift (by omega)] at hwA
                    have WA := Lib.hid hwA
                    clear hwA
                    go_wp2_with fail
                    refine Free.wp_region_free 11 [(10, .det (.string (actText atx ao)))] (fun w2 => w2.cell? ⟨bb, off + k * 6, none⟩ = some (.int .i64 ak) ∧ w2.cell? ⟨bb, off + k * 6 + 1, none⟩ = some (.int .i64 asx) ∧ w2.cell? ⟨bb, off + k * 6 + 2, none⟩ = some (.int .i64 ab) ∧ w2.cell? ⟨bb, off + k * 6 + 3, none⟩ = some (.string atx) ∧ w2.cell? ⟨bb, off + k * 6 + 4, none⟩ = some (.bool ao) ∧ w2.cell? ⟨bb, off + k * 6 + 5, none⟩ = some (.int .i64 af2)) (by kernel_rfl) (by kernel_rfl) ?_ ⟨i0, i1, i2, i3, i4, i5⟩ (fun _ _ h g => ⟨cell_grow' h.1 g, cell_grow' h.2.1 g, cell_grow' h.2.2.1 g, cell_grow' h.2.2.2.1 g, cell_grow' h.2.2.2.2.1 g, cell_grow' h.2.2.2.2.2 g⟩) ?_
                    · intro j mk r hf
                      simp only [Free.find] at hf
                      repeat' split at hf
                      all_goals (first | cases hf | skip)
                    simp only [List.take_succ_cons, List.take_zero]
                    clear i0 i1 i2 i3 i4 i5
                    iterate 10 (apply Free.chain_still (by first | exact Free.wanted_of rfl rfl rfl | rfl) rfl; (intro w' hB hA; obtain ⟨q0, q1, q2, q3, q4, q5⟩ := hB; clear hA ; go_light; go_simp <;> rfl); (try simp only [Act.put, List.setIfInBounds_toArray, List.set_cons_succ, List.set_cons_zero]))
                    apply Free.chain_det rfl rfl
                    · intro w' hB hA
                      refine Free.opRun_call (f := 15) (args := #[.agg #[.int .i64 ak, .int .i64 asx, .int .i64 ab, .string atx, .bool ao, .int .i64 af2]]) (by clear hB hA; go_simp) ?_
                      refine (C1.out _).mono ?_
                      rintro e w3 ⟨rfl, hb3⟩
                      exact ⟨_, rfl, hb3, rfl⟩
                    simp only [Act.put, List.setIfInBounds_toArray, List.set_cons_succ, List.set_cons_zero]
                    apply Free.chain_nil
                    intro wz _ hg _
                    simp only [List.drop_succ_cons, List.drop_zero]
                    have hz := grow_drew' hg
                    have TZ := Lib.hid (TA.out.grow hz)
                    clear hg hz
                    go_wp2_with fail
                    refine (TZ.out.stepB (fun G hG => hG.write asx (actText atx ao) (by omega) WB.out)).mono ?_
                    rintro e w7 ⟨rfl, hd7⟩
                    have TB := Lib.hid hd7
                    clear hd7 TZ
                    obtain ⟨bb2, off2, e8, hc⟩ := (H2.out.below TB.out.bl (Nat.le_refl _)).at_ HA.out
                    injection e8 with e8
                    injection e8 with e9 e10
                    subst e9 e10
                    have i0 := hc 0 _ rfl
                    have i1 := hc 1 _ rfl
                    have i2 := hc 2 _ rfl
                    have i3 := hc 3 _ rfl
                    have i4 := hc 4 _ rfl
                    have i5 := hc 5 _ rfl
                    simp only [← Nat.add_assoc, Nat.add_zero] at i0 i1 i2 i3 i4 i5
                    clear hc
                    go_wp2_with fail
                    refine Free.wp_region_free 11 [(10, .det (.string (actText atx ao)))] (fun w2 => w2.cell? ⟨bb, off + k * 6, none⟩ = some (.int .i64 ak) ∧ w2.cell? ⟨bb, off + k * 6 + 1, none⟩ = some (.int .i64 asx) ∧ w2.cell? ⟨bb, off + k * 6 + 2, none⟩ = some (.int .i64 ab) ∧ w2.cell? ⟨bb, off + k * 6 + 3, none⟩ = some (.string atx) ∧ w2.cell? ⟨bb, off + k * 6 + 4, none⟩ = some (.bool ao) ∧ w2.cell? ⟨bb, off + k * 6 + 5, none⟩ = some (.int .i64 af2)) (by kernel_rfl) (by kernel_rfl) ?_ ⟨i0, i1, i2, i3, i4, i5⟩ (fun _ _ h g => ⟨cell_grow' h.1 g, cell_grow' h.2.1 g, cell_grow' h.2.2.1 g, cell_grow' h.2.2.2.1 g, cell_grow' h.2.2.2.2.1 g, cell_grow' h.2.2.2.2.2 g⟩) ?_
                    · intro j mk r hf
                      simp only [Free.find] at hf
                      repeat' split at hf
                      all_goals (first | cases hf | skip)
                    simp only [List.take_succ_cons, List.take_zero]
                    clear i0 i1 i2 i3 i4 i5
                    iterate 10 (apply Free.chain_still (by first | exact Free.wanted_of rfl rfl rfl | rfl) rfl; (intro w' hB hA; obtain ⟨q0, q1, q2, q3, q4, q5⟩ := hB; clear hA ; go_light; go_simp <;> rfl); (try simp only [Act.put, List.setIfInBounds_toArray, List.set_cons_succ, List.set_cons_zero]))
                    apply Free.chain_det rfl rfl
                    · intro w' hB hA
                      refine Free.opRun_call (f := 15) (args := #[.agg #[.int .i64 ak, .int .i64 asx, .int .i64 ab, .string atx, .bool ao, .int .i64 af2]]) (by clear hB hA; go_simp) ?_
                      refine (C1.out _).mono ?_
                      rintro e w3 ⟨rfl, hb3⟩
                      exact ⟨_, rfl, hb3, rfl⟩
                    simp only [Act.put, List.setIfInBounds_toArray, List.set_cons_succ, List.set_cons_zero]
                    apply Free.chain_nil
                    intro wy _ hg _
                    simp only [List.drop_succ_cons, List.drop_zero]
                    have hz := grow_drew' hg
                    have TY := Lib.hid (TB.out.grow hz)
                    clear hg hz
                    go_wp2_with fail
                    refine (TY.out.stepA (fun G hG => hG.write asx (actText atx ao) (by show d.pend.length < _; omega) WA.out)).mono ?_
                    rintro e w8 ⟨rfl, hd8⟩
                    clear TY TB TA C1 WA WB
                    by_cases hpos : 0 < l
                    · have e1 : dec1 l = l - 1 := by unfold dec1; rw [if_pos hpos]
                      have key : R7 w a b n l2 af ws bs (.int .i64 (l - 1)) (.int .i64 ((k : Int) + 1)) w8 := by
                        refine ⟨k + 1, l - 1, { d with pend := d.pend ++ [z] }, hlt, by go_num, rfl, DON.out, DARM.out, by omega, by omega, (by rw [List.length_append]; show d.pend.length + 1 ≤ _; omega), ?_⟩
                        rw [← e1]; exact hd8
                      have KEY := Lib.hid key
                      clear key e1 hd8
                      go_wp2_with fail
                      go_roundw
                      case rel =>
                        go_light
                        have key := KEY.out
                        first | exact key | ((repeat apply Exists.intro); exact ⟨key, rfl⟩) | ((repeat apply Exists.intro); exact ⟨key, rfl, rfl⟩)
                      case measure => simp [intOf]; omega
                    · have e1 : dec1 l = l := by unfold dec1; rw [if_neg hpos]
                      have key : R7 w a b n l2 af ws bs (.int .i64 l) (.int .i64 ((k : Int) + 1)) w8 := by
                        refine ⟨k + 1, l, { d with pend := d.pend ++ [z] }, hlt, by go_num, rfl, DON.out, DARM.out, by omega, by omega, (by rw [List.length_append]; show d.pend.length + 1 ≤ _; omega), ?_⟩
                        rw [e1] at hd8; exact hd8
                      have KEY := Lib.hid key
                      clear key e1 hd8
                      go_wp2_with fail
                      go_roundw
                      case rel =>
                        go_light
                        have key := KEY.out
                        first | exact key | ((repeat apply Exists.intro); exact ⟨key, rfl⟩) | ((repeat apply Exists.intro); exact ⟨key, rfl, rfl⟩)
                      case measure => simp [intOf]; omega
            · obtain rfl : k = l2.length := by omega
              have TF := Lib.hid hD
              have HC := Lib.hid (conts_lift (n := n) (af := af) (l := l) (ws := ws) (bs := bs) d)
              clear hD
              by_cases haf : af < 0
              · obtain rfl := hl0 haf
                clear hl0 hl1
                have S1 := Lib.hid (TF.out.stepA (fun G hG => hG.start))
                go_wp2_with fail
                refine S1.out.mono ?_
                rintro e v1 ⟨rfl, ht1⟩
                have S2 := Lib.hid (ht1.stepB (fun G hG => hG.start))
                clear ht1 S1
                go_wp2_with fail
                refine S2.out.mono ?_
                rintro e v2 ⟨rfl, ht2⟩
                have T5 := Lib.hid ht2
                have S3 := Lib.hid (ht2.contA rfl)
                clear ht2 S2
                go_wp2_with fail
                refine S3.out.mono ?_
                rintro e v3 ⟨A8, c8, rfl, hown8, hb8⟩
                have T6 := Lib.hid (T5.out.grow hb8)
                have S4 := Lib.hid (T6.out.contB rfl)
                have O8 := Lib.hid hown8
                clear hown8 hb8 S3 T5
                go_wp2_with fail
                refine S4.out.mono ?_
                rintro e v4 ⟨A9, c9, rfl, hown9, hb9⟩
                have O9 := row_keep O8.out (fun g e => hb9.block g (O8.out.lt g e).2)
                have hbl := T6.out.bl.trans (hb9.mono T6.out.bl.size)
                rw [← HC.out] at hown9
                have q := same_yes A8 A9 c8 c9 _ v4 (sl_of_own O9) (sl_of_own hown9) (by rw [conts_len]; omega)
                rw [conts_len] at q
                have Q := Lib.hid q
                have HB := Lib.hid hbl
                clear q hbl hown9 hb9 O9 O8 T6 S4
                go_wp2_with fail
                refine Q.out.mono ?_
                rintro e v5 ⟨rfl, hb10⟩
                have HBB := Lib.hid (HB.out.trans (hb10.mono HB.out.size))
                clear hb10
                go_wp2_with fail
                go_ret
                exact ⟨rfl, HBB.out⟩
              · have S1 := Lib.hid (TF.out.stepA (fun G hG => hG.start))
                go_wp2_with fail
                refine S1.out.mono ?_
                rintro e v1 ⟨rfl, ht1⟩
                have S2 := Lib.hid (ht1.stepB (fun G hG => hG.start))
                clear ht1 S1
                go_wp2_with fail
                refine S2.out.mono ?_
                rintro e v2 ⟨rfl, ht2⟩
                have T5 := Lib.hid ht2
                have S3 := Lib.hid (ht2.contA rfl)
                clear ht2 S2
                go_wp2_with fail
                refine S3.out.mono ?_
                rintro e v3 ⟨A8, c8, rfl, hown8, hb8⟩
                have T6 := Lib.hid (T5.out.grow hb8)
                have S4 := Lib.hid (T6.out.contB rfl)
                have O8 := Lib.hid hown8
                clear hown8 hb8 S3 T5
                go_wp2_with fail
                refine S4.out.mono ?_
                rintro e v4 ⟨A9, c9, rfl, hown9, hb9⟩
                have O9 := row_keep O8.out (fun g e => hb9.block g (O8.out.lt g e).2)
                have hbl := T6.out.bl.trans (hb9.mono T6.out.bl.size)
                rw [← HC.out] at hown9
                have q := same_yes A8 A9 c8 c9 _ v4 (sl_of_own O9) (sl_of_own hown9) (by rw [conts_len]; omega)
                rw [conts_len] at q
                have Q := Lib.hid q
                have HB := Lib.hid hbl
                clear q hbl hown9 hb9 O9 O8 T6 S4
                go_wp2_with fail
                refine Q.out.mono ?_
                rintro e v5 ⟨rfl, hb10⟩
                have HBB := Lib.hid (HB.out.trans (hb10.mono HB.out.size))
                clear hb10
                go_wp2_with fail
                go_ret
                exact ⟨rfl, HBB.out⟩
end Go.Proofs.Ytkccfmaimpnbcaa
