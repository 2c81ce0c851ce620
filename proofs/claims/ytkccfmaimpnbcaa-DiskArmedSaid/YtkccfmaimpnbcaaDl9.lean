/- The walk of DiskPrefix: the law answers true for every input. -/
import Derived.Test.YtkccfmaimpnbcaaDlQ
namespace Go.Proofs.Ytkccfmaimpnbcaa
open Go.RowKit Go.Blk Go.Dk Go.Mp Go.Opn

def NX (n W : Nat) (p : List (Nat × List UInt8)) (x : Act44) : Prop := (∀ z, p[W]? = some z → okW n x = some z) ∧ (p[W]? = none → x.sector = -1)
def R5 (w : World) (b n W : Nat) (d : DD) (nb : Nat) (l : List Act44) (dn i : Value) (wr : World) : Prop :=
  ∃ k : Nat, k ≤ l.length ∧ i = .int .i64 k ∧ dn = .int .i64 (wrs n (l.take k)).length ∧ DW w (fun g => g = nb) wr b n { d with pend := wrs n (l.take k) } ∧ w.heap.size ≤ nb ∧ ∃ x : Act44, x.text.size ≤ 100 ∧ NX n W (wrs n (l.take k)) x ∧ Blk wr nb (encA x) 32
theorem DW.setRow {w0 w : World} {G : Nat → Prop} {b n : Nat} {d : DD} (h : DW w0 G w b n d) {g : Nat} (hg : G g) (hB : w0.heap.size ≤ g) (cs : Array Value) : DW w0 G (w.setRow g cs) b n d := by
  obtain ⟨bs, bm, pv, h1, h2, h3, h4⟩ := h
  have hk : Keep (fun k => k = g) w (w.setRow g cs) := (Keep.refl (fun k => k = g) w).setRow (fun _ => rfl) cs
  refine ⟨bs, bm, pv, h1.keep hk (fun k hk e => (h2 k hk).2 (by rw [e]; exact hg)), h2, h3.trans (hk.below (fun k f => by rw [f]; exact hB) h3.size), fun g hg => by simpa using h4 g hg⟩
theorem Blk.setRow {w : World} {b : Nat} {cs cs' : List Value} {T : TypeId} (h : Blk w b cs T) : Blk (w.setRow b cs'.toArray) b cs' T := setRow_heap w b _ _ _ _ h
theorem encA_len (x : Act44) : (encA x).length = 6 := rfl
theorem NX.more {n W : Nat} {P : List (Nat × List UInt8)} {x : Act44} {z : Nat × List UInt8} (h : NX n W P x) (hne : P.length ≠ W) : NX n W (P ++ [z]) x := by
  have e : (P ++ [z])[W]? = P[W]? := by
    by_cases h1 : W < P.length
    · rw [List.getElem?_append_left h1]
    · rw [List.getElem?_append_right (by omega), List.getElem?_eq_none (by omega : P.length ≤ W)]
      have : W - P.length ≠ 0 := by omega
      cases hk : W - P.length with
      | zero => omega
      | succ q => simp
  unfold NX; rw [e]; exact h
theorem NX.here {n W : Nat} {P : List (Nat × List UInt8)} {x : Act44} {z : Nat × List UInt8} (h : okW n x = some z) (he : P.length = W) : NX n W (P ++ [z]) x := by
  subst he
  simp [NX, h]
theorem actSize (x : Act44) : (encA x).toArray.size = 6 := rfl
theorem actInfo (x : Act44) : (Try.prog.info? 32).map (·.size) = some (encA x).toArray.size := by
  rw [actSize]; kernel_rfl
theorem ok_take {n : Nat} {d : DD} (h : d.Ok n) (W : Nat) : ({ d with pend := d.pend.take W } : DD).Ok n := by
  refine ⟨h.len, fun i x hx => h.sec i x ?_, ?_, h.a0, h.a1, h.w0, h.w1, h.b0, h.b1, h.n1, h.n2⟩
  · have hx : (d.pend.take W)[i]? = some x := hx
    rw [List.getElem?_take] at hx
    split at hx
    · exact hx
    · cases hx
  · have := h.few
    show (d.pend.take W).length ≤ _
    rw [List.length_take]; omega
theorem row_unfrozen {w : World} {base g m c : Nat} {T : TypeId} {l : List Value} (h : w.ownsRow base T 1 (.slice (some ⟨g, 0, none⟩) m c) m l) (i : Nat) : w.frozen? ⟨g, i, none⟩ = false := by
  rcases h.2 with ⟨e, _⟩ | ⟨g', cap, cur, e, _, hb, _⟩
  · cases e
  · injection e with e1
    injection e1 with e1
    injection e1 with e2
    subst e2
    simp [World.frozen?, hb]
theorem sl_set {w : World} {g m : Nat} {l : List ByteArray} {v : ByteArray} (h : ∀ (i : Nat) u, (l.map Value.string)[i]? = some u → w.cell? ⟨g, i, none⟩ = some u) : SL (w.setCell ⟨g, m, none⟩ (.string v)) 1 encS (some ⟨g, 0, none⟩) (l.set m v) := by
  refine ⟨fun _ => ⟨g, 0, rfl, fun i s hi p u hu => ?_⟩⟩
  have hp : p = 0 ∧ u = .string s := by
    cases p with
    | zero => simp [encS] at hu; exact ⟨rfl, hu.symm⟩
    | succ p => simp [encS] at hu
  obtain ⟨rfl, rfl⟩ := hp
  rw [show 0 + (i * 1 + 0) = i by omega]
  rw [List.getElem?_set] at hi
  split at hi
  · rename_i hm
    subst hm
    split at hi
    · rename_i hl
      have := Option.some.inj hi
      subst this
      exact World.cell?_setCell_same _ _ _ (h m (.string l[m]) (by simp [List.getElem?_eq_getElem hl]))
    · cases hi
  · rename_i hm
    rw [World.cell?_setCell_other _ _ _ _ (by intro e; injection e with _ e; exact hm e)]
    exact h i _ (by rw [List.getElem?_map, hi]; rfl)
set_option maxRecDepth 100000 in
set_option maxHeartbeats 8000000 in
theorem prefixlaw_any (r : Int) (A1 A2 : Option Addr) (c1 c2 : Nat) (l1 l2 : List Act44) (x y : Int) (w : World) (hr : (Lit.int .u8 r).wf = true) (hx : (Lit.int .u8 x).wf = true) (hy : (Lit.int .u8 y).wf = true)
    (h1 : SL w 6 encA A1 l1) (h2 : SL w 6 encA A2 l2) (o1 : ∀ a ∈ l1, a.Ok) (o2 : ∀ a ∈ l2, a.Ok) (n1 : l1.length ≤ 9223372036854775807) (n2 : l2.length ≤ 9223372036854775807) :
    Calls Try.prog 4 #[.int .u8 r, .slice A1 l1.length c1, .slice A2 l2.length c2, .int .u8 x, .int .u8 y] w fun e w' => e = .returned (.bool true) ∧ Below w.heap.size w w' := by
  obtain ⟨hr0, hr1⟩ := bounds_u8 hr
  obtain ⟨hx0, hx1⟩ := bounds_u8 hx
  obtain ⟨hy0, hy1⟩ := bounds_u8 hy
  have H1 := Lib.hid h1
  have H2 := Lib.hid h2
  have O1 := Lib.hid o1
  have O2 := Lib.hid o2
  clear hr hx hy h1 h2 o1 o2
  cases k1 : okL l1 with
  | false =>
    go_enter Try.func4, Try.ntmps4
    go_wp2_with fail
    refine (head44_any _).mono ?_
    rintro e w1 ⟨rfl, hb1⟩
    have q1 := ok_any A1 c1 l1 w1 (H1.out.below hb1 (Nat.le_refl _)) n1
    rw [k1] at q1
    have Q1 := Lib.hid q1
    have HB := Lib.hid hb1
    clear q1 hb1
    go_wp2_with fail
    refine Q1.out.mono ?_
    rintro e w' ⟨rfl, rfl⟩
    go_wp2_with fail
    go_ret
    exact ⟨rfl, HB.out⟩
  | true =>
    cases k2 : okL l2 with
    | false =>
      go_enter Try.func4, Try.ntmps4
      go_wp2_with fail
      refine (head44_any _).mono ?_
      rintro e w1 ⟨rfl, hb1⟩
      have q1 := ok_any A1 c1 l1 w1 (H1.out.below hb1 (Nat.le_refl _)) n1
      rw [k1] at q1
      have q2 := ok_any A2 c2 l2 w1 (H2.out.below hb1 (Nat.le_refl _)) n2
      rw [k2] at q2
      have Q1 := Lib.hid q1
      have Q2 := Lib.hid q2
      have HB := Lib.hid hb1
      clear q1 q2 hb1
      go_wp2_with fail
      refine Q1.out.mono ?_
      rintro e w' ⟨rfl, rfl⟩
      go_wp2_with fail
      refine Q2.out.mono ?_
      rintro e w' ⟨rfl, rfl⟩
      go_wp2_with fail
      go_ret
      exact ⟨rfl, HB.out⟩
    | true =>
      obtain ⟨n, hn⟩ : ∃ n : Nat, 1 + r % 12 = (n : Int) := ⟨(1 + r % 12).toNat, by omega⟩
      have hn1 : 1 ≤ n := by omega
      have hn2 : n ≤ 12 := by omega
      have t1 : ∀ a ∈ l1, a.text.size ≤ 100 := fun a ha => by have := k1; unfold okL at this; simp at this; exact this.1 a ha
      have t2 : ∀ a ∈ l2, a.text.size ≤ 100 := fun a ha => by have := k2; unfold okL at this; simp at this; exact this.1 a ha
      have m1 : l1.length ≤ 60 := by have := k1; unfold okL at this; simp at this; exact this.2
      have m2 : l2.length ≤ 60 := by have := k2; unfold okL at this; simp at this; exact this.2
      have K1 := Lib.hid k1
      have K2 := Lib.hid k2
      have T1 := Lib.hid t1
      have T2 := Lib.hid t2
      have HN := Lib.hid hn
      obtain ⟨W, hW⟩ : ∃ W : Nat, x % 61 = (W : Int) := ⟨(x % 61).toNat, by omega⟩
      obtain ⟨B, hB⟩ : ∃ B : Nat, y % 33 = (B : Int) := ⟨(y % 33).toNat, by omega⟩
      have hW60 : W ≤ 60 := by omega
      have hB32 : B ≤ 32 := by omega
      clear k1 k2 t1 t2 hn
      go_enter Try.func4, Try.ntmps4
      go_wp2_with fail
      refine (head44_any _).mono ?_
      rintro e w1 ⟨rfl, hb1⟩
      have q1 := ok_any A1 c1 l1 w1 (H1.out.below hb1 (Nat.le_refl _)) n1
      rw [K1.out] at q1
      have q2 := ok_any A2 c2 l2 w1 (H2.out.below hb1 (Nat.le_refl _)) n2
      rw [K2.out] at q2
      have Q1 := Lib.hid q1
      have Q2 := Lib.hid q2
      have HB := Lib.hid hb1
      clear q1 q2 hb1
      go_wp2_with fail
      refine Q1.out.mono ?_
      rintro e w' ⟨rfl, rfl⟩
      go_wp2_with fail
      refine Q2.out.mono ?_
      rintro e w' ⟨rfl, rfl⟩
      clear Q1 Q2 K1 K2
      go_wp2_with fail
      refine (size_is r n _ hr0 hr1 HN.out).mono ?_
      rintro e w' ⟨rfl, rfl⟩
      go_wp2_with fail
      refine (DW.new (G := fun _ => False) n hn1 (by omega) w w1 HB.out (fun _ f => f.elim)).mono ?_
      rintro e w2 ⟨b, rfl, hd, hb2⟩
      have HST : Hid (R1 w b n l1 (.int .i64 0) w2) := ⟨0, Nat.zero_le _, rfl, hd, by simp [runA, DD.new]⟩
      clear hd hb2 HB
      go_wp2_with fail
      go_loopw [16] (fun i wr => R1 w b n l1 i wr) (fun i _ => l1.length - (intOf i).toNat)
      case atStart => exact HST.out
      case round =>
        clear HST
        obtain ⟨k, hk, rfl, hD, hp⟩ := hrel
        by_cases hlt : k < l1.length
        · obtain ⟨a, ha⟩ : ∃ a, l1[k]? = some a := ⟨_, List.getElem?_eq_getElem hlt⟩
          obtain ⟨bb, off, rfl, hc⟩ := (H1.out.below hD.bl (Nat.le_refl _)).at_ ha
          have hok := O1.out a (List.mem_of_getElem? ha)
          have htx := T1.out a (List.mem_of_getElem? ha)
          obtain ⟨ak, asx, ab, atx, ao, af⟩ := a
          have i0 := hc 0 _ rfl
          have i1 := hc 1 _ rfl
          have i2 := hc 2 _ rfl
          have i3 := hc 3 _ rfl
          have i4 := hc 4 _ rfl
          have i5 := hc 5 _ rfl
          simp only [← Nat.add_assoc, Nat.add_zero] at i0 i1 i2 i3 i4 i5
          have C1 := Lib.hid (hD.act ak asx ab atx ao af hok htx (by omega))
          have HA := Lib.hid ha
          have HP := Lib.hid hp
          have hki : (k : Int) < (l1.length : Int) := by omega
          clear hc hD hok htx ha hp
          go_wp2_with fail
          refine C1.out.mono ?_
          rintro e w3 ⟨r3, z3, rfl, hd3, hx1, hx2⟩
          have KEY := Lib.hid (R1.more HA.out HP.out hd3)
          clear hd3 C1 i0 i1 i2 i3 i4 i5 hx1 hx2
          go_wp2_with fail
          go_roundw
          case rel =>
            go_light
            have key := KEY.out
            first | exact key | ((repeat apply Exists.intro); exact ⟨key, rfl⟩) | ((repeat apply Exists.intro); exact ⟨key, rfl, rfl⟩)
          case measure => simp [intOf]; omega
        · obtain rfl : k = l1.length := by omega
          rw [List.take_length] at hD hp
          obtain ⟨d0, ed0⟩ : ∃ d0, d0 = runA n (DD.new n) l1 := ⟨_, rfl⟩
          rw [← ed0] at hD hp
          have S1 := Lib.hid hD.start
          have ED0 := Lib.hid ed0
          clear hD ed0 hlt hk
          go_wp2_with fail
          refine S1.out.mono ?_
          rintro e w3 ⟨rfl, hd3, hx1, hx2⟩
          have S2 := Lib.hid (hd3.sync (sync_is d0))
          clear hd3 S1 hx1 hx2
          go_wp2_with fail
          refine S2.out.mono ?_
          rintro e w4 ⟨rfl, hd4, hx1, hx2⟩
          clear hx1 hx2 S2
          obtain ⟨d, ed⟩ : ∃ d : DD, d = synced d0 := ⟨_, rfl⟩
          rw [← ed] at hd4
          have don : d.on = true := by rw [ed]; rfl
          have darm : d.armed = false := by rw [ed]; rfl
          have dpend : d.pend = [] := by rw [ed]; rfl
          have ED := Lib.hid ed
          have DON := Lib.hid don
          have DARM := Lib.hid darm
          have e0 : ({ d with pend := wrs n (l2.take 0) } : DD) = d := by
            cases d; simp at dpend; subst dpend; rfl
          have HST : Hid (R5 w b n W d w4.heap.size l2 (.int .i64 0) (.int .i64 0) (w4.alloc (.cells #[.int .i64 0, .int .i64 (-1), .int .i64 0, .string ⟨#[]⟩, .bool false, .int .i64 0] 32))) := by
            refine ⟨0, Nat.zero_le _, rfl, rfl, ?_, hd4.bl.size, ⟨0, -1, 0, ⟨#[]⟩, false, 0⟩, by decide, by simp [NX, wrs], Blk.new w4 (encA ⟨0, -1, 0, ⟨#[]⟩, false, 0⟩) 32⟩
            rw [e0]
            exact hd4.more ((Below.refl _ w4).alloc (Nat.le_refl _) _) (fun g hg => .inr (by subst hg; exact ⟨Nat.le_refl _, by simp⟩))
          clear hd4 ed hp don darm dpend e0
          go_wp2_with fail
          go_loopw [17, 19] (fun dn i wr => R5 w b n W d w4.heap.size l2 dn i wr) (fun _ i _ => l2.length - (intOf i).toNat)
          case atStart => exact HST.out
          case round =>
            clear HST
            obtain ⟨k, hk, rfl, rfl, hD, hwb, xn, hxt, hxn, hB⟩ := hrel
            by_cases hlt : k < l2.length
            · obtain ⟨a, ha⟩ : ∃ a, l2[k]? = some a := ⟨_, List.getElem?_eq_getElem hlt⟩
              obtain ⟨bb, off, rfl, hc⟩ := (H2.out.below hD.bl (Nat.le_refl _)).at_ ha
              have hok := O2.out a (List.mem_of_getElem? ha)
              have htx := T2.out a (List.mem_of_getElem? ha)
              have hwl := wrs_len n (l2.take k)
              have hwl2 : (l2.take k).length ≤ k := List.length_take_le _ _
              have hwp := write_plain (n := n) (d := { d with pend := wrs n (l2.take k) }) DON.out DARM.out a
              have hnx : wrs n (l2.take (k + 1)) = wrs n (l2.take k) ++ (okW n a).toList := by rw [take_snoc' ha, wrs_snoc]
              obtain ⟨P, eP⟩ : ∃ P, P = wrs n (l2.take k) := ⟨_, rfl⟩
              rw [← eP] at hD hwl hwp hnx hxn ⊢
              have HNX := Lib.hid hnx
              have HXN := Lib.hid hxn
              clear hxn
              cases how : okW n a with
              | some z =>
                rw [how] at hwp HNX
                have HOW := Lib.hid how
                obtain ⟨ak, asx, ab, atx, ao, af⟩ := a
                have i0 := hc 0 _ rfl
                have i1 := hc 1 _ rfl
                have i2 := hc 2 _ rfl
                have i3 := hc 3 _ rfl
                have i4 := hc 4 _ rfl
                have i5 := hc 5 _ rfl
                simp only [← Nat.add_assoc, Nat.add_zero] at i0 i1 i2 i3 i4 i5
                have C1 := Lib.hid (fun w => text_any ak asx ab atx ao af w htx)
                have HD := Lib.hid hD
                have HBK := Lib.hid hB
                have HA := Lib.hid ha
                have hki : (k : Int) < (l2.length : Int) := by omega
                clear hc hD hok ha eP hnx how hB
                go_wp2_with fail
                refine Free.wp_region_free 11 [(10, .det (.string (actText atx ao)))] (fun w2 => w2.cell? ⟨bb, off + k * 6, none⟩ = some (.int .i64 ak) ∧ w2.cell? ⟨bb, off + k * 6 + 1, none⟩ = some (.int .i64 asx) ∧ w2.cell? ⟨bb, off + k * 6 + 2, none⟩ = some (.int .i64 ab) ∧ w2.cell? ⟨bb, off + k * 6 + 3, none⟩ = some (.string atx) ∧ w2.cell? ⟨bb, off + k * 6 + 4, none⟩ = some (.bool ao) ∧ w2.cell? ⟨bb, off + k * 6 + 5, none⟩ = some (.int .i64 af)) (by kernel_rfl) (by kernel_rfl) ?_ ⟨i0, i1, i2, i3, i4, i5⟩ (fun _ _ h g => ⟨cell_grow' h.1 g, cell_grow' h.2.1 g, cell_grow' h.2.2.1 g, cell_grow' h.2.2.2.1 g, cell_grow' h.2.2.2.2.1 g, cell_grow' h.2.2.2.2.2 g⟩) ?_
                · intro j mk r hf
                  simp only [Free.find] at hf
                  repeat' split at hf
                  all_goals (first | cases hf | skip)
                simp only [List.take_succ_cons, List.take_zero]
                clear i0 i1 i2 i3 i4 i5
                have k00 : (0 : Int) ≤ (k : Int) := by omega
                iterate 10 (apply Free.chain_still (by first | exact Free.wanted_of rfl rfl rfl | rfl) rfl; (intro w' hB hA; obtain ⟨q0, q1, q2, q3, q4, q5⟩ := hB; clear hA ; go_light; go_simp <;> rfl); (try simp only [Act.put, List.setIfInBounds_toArray, List.set_cons_succ, List.set_cons_zero]))
                apply Free.chain_det rfl rfl
                · intro w' hB hA
                  refine Free.opRun_call (f := 15) (args := #[.agg #[.int .i64 ak, .int .i64 asx, .int .i64 ab, .string atx, .bool ao, .int .i64 af]]) (by clear hB hA; go_simp) ?_
                  refine (C1.out _).mono ?_
                  rintro e w3 ⟨rfl, hb3⟩
                  exact ⟨_, rfl, hb3, rfl⟩
                simp only [Act.put, List.setIfInBounds_toArray, List.set_cons_succ, List.set_cons_zero]
                apply Free.chain_nil
                intro wz _ hg _
                simp only [List.drop_succ_cons, List.drop_zero]
                have hz := grow_drew' hg
                have DZ := Lib.hid (HD.out.grow hz)
                have BZ := Lib.hid (HBK.out.below hz HBK.out.lt)
                clear hg hz HD HBK
                go_wp2_with fail
                refine (DZ.out.write asx (actText atx ao) (by show P.length < _; omega) hwp).mono ?_
                rintro e w6 ⟨rfl, hd6, hg6, hz6⟩
                have B6 := BZ.out.keepB (hg6 _ rfl)
                have hlz : (wrs n (l2.take (k + 1))).length = P.length + 1 := by rw [HNX.out]; simp
                by_cases hPW : P.length = W
                · have IS : Hid (SL w6 6 encA (some ⟨bb, off, none⟩) l2) := H2.out.below hd6.bl (Nat.le_refl _)
                  obtain ⟨bb2, off2, e8, hc⟩ := IS.out.at_ HA.out
                  injection e8 with e8
                  injection e8 with e9 e10
                  subst e9 e10
                  have i0 := hc 0 _ rfl
                  have i1 := hc 1 _ rfl
                  have i2 := hc 2 _ rfl
                  have i3 := hc 3 _ rfl
                  have i4 := hc 4 _ rfl
                  have i5 := hc 5 _ rfl
                  simp only [← Nat.add_assoc, Nat.add_zero] at i0 i1 i2 i3 i4 i5
                  have hpi : (P.length : Int) = (W : Int) := by omega
                  have hd7 := hd6.setRow (g := w4.heap.size) rfl hwb (encA ⟨ak, asx, ab, atx, ao, af⟩).toArray
                  have B7 : Blk (w6.setRow w4.heap.size (encA ⟨ak, asx, ab, atx, ao, af⟩).toArray) w4.heap.size (encA ⟨ak, asx, ab, atx, ao, af⟩) 32 := Blk.setRow B6
                  have key : R5 w b n W d w4.heap.size l2 (.int .i64 ((W : Int) + 1)) (.int .i64 ((k : Int) + 1)) (w6.setRow w4.heap.size (encA ⟨ak, asx, ab, atx, ao, af⟩).toArray) := by
                    refine ⟨k + 1, hlt, by go_num, by rw [hlz, hPW]; go_num, ?_, hwb, ⟨ak, asx, ab, atx, ao, af⟩, htx, ?_, B7⟩
                    · rw [HNX.out]; exact hd7
                    · rw [HNX.out]; exact NX.here HOW.out hPW
                  have KEY := Lib.hid key
                  have HP6 : Hid (w6.heap[w4.heap.size]? = some (.cells (encA xn).toArray 32 (0, 0))) := B6
                  have hsi : (Try.prog.info? 32).map (·.size) = some (#[.int .i64 ak, .int .i64 asx, .int .i64 ab, .string atx, .bool ao, .int .i64 af] : Array Value).size := actInfo ⟨ak, asx, ab, atx, ao, af⟩
                  have hsz : (encA xn).toArray.size = (#[.int .i64 ak, .int .i64 asx, .int .i64 ab, .string atx, .bool ao, .int .i64 af] : Array Value).size := rfl
                  have hsa : (#[.int .i64 ak, .int .i64 asx, .int .i64 ab, .string atx, .bool ao, .int .i64 af] : Array Value).all (·.oneCell') = true := by simp [Value.oneCell']
                  have SI := Lib.hid hsi
                  have SZ := Lib.hid hsz
                  have SA := Lib.hid hsa
                  clear hsi hsz hsa
                  clear key hd6 hd7 B6 B7 hg6 hz6 IS DZ BZ C1 hwp hlz HXN hc
                  go_wp2_with (with_reducible refine wpList_store_row rfl 32 (.tmp 18) (.tmp 86) rfl w4.heap.size #[.int .i64 ak, .int .i64 asx, .int .i64 ab, .string atx, .bool ao, .int .i64 af] rfl rfl 32 (encA xn).toArray HP6.out SI.out SZ.out SA.out ?_)
                  go_roundw
                  case rel =>
                    go_light
                    have key := KEY.out
                    first | exact key | ((repeat apply Exists.intro); exact ⟨key, rfl⟩) | ((repeat apply Exists.intro); exact ⟨key, rfl, rfl⟩)
                  case measure => simp [intOf]; omega
                · have hpi : ¬ (P.length : Int) = (W : Int) := by omega
                  have key : R5 w b n W d w4.heap.size l2 (.int .i64 ((P.length : Int) + 1)) (.int .i64 ((k : Int) + 1)) w6 := by
                    refine ⟨k + 1, hlt, by go_num, by rw [hlz]; go_num, ?_, hwb, xn, hxt, ?_, B6⟩
                    · rw [HNX.out]; exact hd6
                    · rw [HNX.out]; exact HXN.out.more hPW
                  have KEY := Lib.hid key
                  clear key hd6 B6 hg6 hz6 DZ BZ C1 hwp hlz HXN
                  go_wp2_with fail
                  go_roundw
                  case rel =>
                    go_light
                    have key := KEY.out
                    first | exact key | ((repeat apply Exists.intro); exact ⟨key, rfl⟩) | ((repeat apply Exists.intro); exact ⟨key, rfl, rfl⟩)
                  case measure => simp [intOf]; omega
              | none =>
                rw [how] at hwp HNX
                obtain ⟨ak, asx, ab, atx, ao, af⟩ := a
                have i0 := hc 0 _ rfl
                have i1 := hc 1 _ rfl
                have i2 := hc 2 _ rfl
                have i3 := hc 3 _ rfl
                have i4 := hc 4 _ rfl
                have i5 := hc 5 _ rfl
                simp only [← Nat.add_assoc, Nat.add_zero] at i0 i1 i2 i3 i4 i5
                have C1 := Lib.hid (fun w => text_any ak asx ab atx ao af w htx)
                have HD := Lib.hid hD
                have HBK := Lib.hid hB
                have HA := Lib.hid ha
                have hki : (k : Int) < (l2.length : Int) := by omega
                clear hc hD hok ha eP hnx how hB
                go_wp2_with fail
                refine Free.wp_region_free 11 [(10, .det (.string (actText atx ao)))] (fun w2 => w2.cell? ⟨bb, off + k * 6, none⟩ = some (.int .i64 ak) ∧ w2.cell? ⟨bb, off + k * 6 + 1, none⟩ = some (.int .i64 asx) ∧ w2.cell? ⟨bb, off + k * 6 + 2, none⟩ = some (.int .i64 ab) ∧ w2.cell? ⟨bb, off + k * 6 + 3, none⟩ = some (.string atx) ∧ w2.cell? ⟨bb, off + k * 6 + 4, none⟩ = some (.bool ao) ∧ w2.cell? ⟨bb, off + k * 6 + 5, none⟩ = some (.int .i64 af)) (by kernel_rfl) (by kernel_rfl) ?_ ⟨i0, i1, i2, i3, i4, i5⟩ (fun _ _ h g => ⟨cell_grow' h.1 g, cell_grow' h.2.1 g, cell_grow' h.2.2.1 g, cell_grow' h.2.2.2.1 g, cell_grow' h.2.2.2.2.1 g, cell_grow' h.2.2.2.2.2 g⟩) ?_
                · intro j mk r hf
                  simp only [Free.find] at hf
                  repeat' split at hf
                  all_goals (first | cases hf | skip)
                simp only [List.take_succ_cons, List.take_zero]
                clear i0 i1 i2 i3 i4 i5
                have k00 : (0 : Int) ≤ (k : Int) := by omega
                iterate 10 (apply Free.chain_still (by first | exact Free.wanted_of rfl rfl rfl | rfl) rfl; (intro w' hB hA; obtain ⟨q0, q1, q2, q3, q4, q5⟩ := hB; clear hA ; go_light; go_simp <;> rfl); (try simp only [Act.put, List.setIfInBounds_toArray, List.set_cons_succ, List.set_cons_zero]))
                apply Free.chain_det rfl rfl
                · intro w' hB hA
                  refine Free.opRun_call (f := 15) (args := #[.agg #[.int .i64 ak, .int .i64 asx, .int .i64 ab, .string atx, .bool ao, .int .i64 af]]) (by clear hB hA; go_simp) ?_
                  refine (C1.out _).mono ?_
                  rintro e w3 ⟨rfl, hb3⟩
                  exact ⟨_, rfl, hb3, rfl⟩
                simp only [Act.put, List.setIfInBounds_toArray, List.set_cons_succ, List.set_cons_zero]
                apply Free.chain_nil
                intro wz _ hg _
                simp only [List.drop_succ_cons, List.drop_zero]
                have hz := grow_drew' hg
                have DZ := Lib.hid (HD.out.grow hz)
                have BZ := Lib.hid (HBK.out.below hz HBK.out.lt)
                clear hg hz HD HBK
                go_wp2_with fail
                refine (DZ.out.write asx (actText atx ao) (by show P.length < _; omega) hwp).mono ?_
                rintro e w6 ⟨rfl, hd6, hg6, hz6⟩
                have B6 := BZ.out.keepB (hg6 _ rfl)
                have hlz : wrs n (l2.take (k + 1)) = P := by rw [HNX.out]; simp
                have key : R5 w b n W d w4.heap.size l2 (.int .i64 (P.length : Int)) (.int .i64 ((k : Int) + 1)) w6 := by
                  refine ⟨k + 1, hlt, by go_num, by rw [hlz], ?_, hwb, xn, hxt, ?_, B6⟩
                  · rw [hlz]; exact hd6
                  · rw [hlz]; exact HXN.out
                have KEY := Lib.hid key
                clear key hd6 B6 hg6 hz6 DZ BZ C1 hwp hlz HXN
                go_wp2_with fail
                go_roundw
                case rel =>
                  go_light
                  have key := KEY.out
                  first | exact key | ((repeat apply Exists.intro); exact ⟨key, rfl⟩) | ((repeat apply Exists.intro); exact ⟨key, rfl, rfl⟩)
                case measure => simp [intOf]; omega
            · obtain rfl : k = l2.length := by omega
              rw [List.take_length] at hD hxn
              obtain ⟨P, eP⟩ : ∃ P, P = wrs n l2 := ⟨_, rfl⟩
              obtain ⟨pl, epl⟩ : ∃ pl : Int, pl = ((wrs n (l2.take l2.length)).length : Int) := ⟨_, rfl⟩
              rw [← epl]
              rw [← eP] at hD hxn
              obtain ⟨d2, ed2⟩ : ∃ d2 : DD, d2 = { d with pend := P } := ⟨_, rfl⟩
              rw [← ed2] at hD
              have hd2 : d2.pend = P ∧ d2.st = d.st ∧ d2.on = true := by rw [ed2]; exact ⟨rfl, rfl, DON.out⟩
              have OK2 := Lib.hid hD.ok
              have D2 := Lib.hid hd2
              have ED2 := Lib.hid ed2
              have EP := Lib.hid eP
              have S1 := Lib.hid (hD.fail (W : Int) (B : Int) (by omega) (by omega))
              have HR := Lib.hid ‹Blk wr w4.heap.size (encA xn) 32›
              have HXN := Lib.hid hxn
              clear hD hxn ed2 eP hd2 hlt hk epl
              go_wp2_with fail
              refine S1.out.mono ?_
              rintro e w6 ⟨rfl, hd6, hg6, hz6⟩
              have S2 := Lib.hid hd6.start
              have B6 := Lib.hid (HR.out.keepB (hg6 _ rfl))
              clear hd6 hg6 hz6 HR S1
              go_wp2_with fail
              refine S2.out.mono ?_
              rintro e w7 ⟨rfl, hd7, hg7, hz7⟩
              have B7 := Lib.hid (B6.out.keepB (hg7 _ rfl))
              have S3 := Lib.hid (hd7.cont rfl)
              have HB7 := Lib.hid hd7.bl
              clear hd7 hg7 hz7 B6 S2
              go_wp2_with fail
              refine S3.out.mono ?_
              rintro e w8 ⟨A8, c8, rfl, hown8, hb8⟩
              obtain ⟨now, enow⟩ : ∃ now, now = conts n (d2.fail (W : Int) (B : Int)).start := ⟨_, rfl⟩
              rw [← enow] at hown8
              have HB8 := Lib.hid (HB7.out.trans (hb8.mono HB7.out.size))
              have B8 := Lib.hid (B7.out.below hb8 B7.out.lt)
              have O8 := Lib.hid hown8
              have ENOW := Lib.hid enow
              have S4 := Lib.hid (prefix_any n W A1 A2 c1 c2 l1 l2 w8 hn1 hn2 hW60 (H1.out.below HB8.out (Nat.le_refl _)) (H2.out.below HB8.out (Nat.le_refl _)) O1.out O2.out T1.out T2.out m1 m2)
              clear hb8 hown8 enow S3 B7 HB7
              go_wp2_with fail
              refine S4.out.mono ?_
              rintro e w9 ⟨A9, c9, rfl, hown9, hb9⟩
              obtain ⟨want, ewant⟩ : ∃ want, want = conts n ({ synced (runA n (DD.new n) l1) with pend := (wrs n l2).take W } : DD) := ⟨_, rfl⟩
              rw [← ewant] at hown9
              have ewant2 : want = conts n { d2 with pend := d2.pend.take W } := by
                rw [ewant, ED2.out, ED.out, ED0.out, EP.out]
              have HB9 := Lib.hid (HB8.out.trans (hb9.mono HB8.out.size))
              have B9 := Lib.hid (B8.out.below hb9 B8.out.lt)
              have O9 := Lib.hid (row_keep O8.out (fun g e => hb9.block g (O8.out.lt g e).2))
              have HLT : Hid (∀ g, (Value.slice A8 n c8).ownBlock = some g → g < w8.heap.size) := fun g e => (O8.out.lt g e).2
              have OW := Lib.hid hown9
              have EW := Lib.hid ewant2
              have hln : now.length = n := by rw [ENOW.out, conts_len]
              have HLN := Lib.hid hln
              have HLW : Hid (want.length = n) := by have := ewant2; show want.length = n; rw [this, conts_len]
              clear hown9 hb9 ewant ewant2 S4 B8 O8 hln
              cases hPW : P[W]? with
              | none =>
                have hsec := HXN.out.2 hPW
                have enw : now = want := by
                  rw [ENOW.out, EW.out]
                  exact now_small OK2.out D2.out.2.2 B hB32 (by rw [D2.out.1]; exact hPW)
                have hcell := B9.out.cellD 1 _ rfl
                rw [hsec] at hcell
                have q := same_yes A8 A9 c8 c9 now w9 (sl_of_own O9.out) (by rw [enw]; exact sl_of_own OW.out) (by rw [HLN.out]; omega)
                rw [HLN.out] at q
                have Q := Lib.hid q
                have hnn : ¬ (n : Int) ≤ -1 := by omega
                clear q enw hsec hPW
                go_wp2_with fail
                refine Q.out.mono ?_
                rintro e w10 ⟨rfl, hb10⟩
                have HB := Lib.hid (HB9.out.trans (hb10.mono HB9.out.size))
                clear hb10
                go_wp2_with fail
                go_ret
                exact ⟨rfl, HB.out⟩
              | some z =>
                have how := HXN.out.1 z hPW
                obtain ⟨z1, z2, z3, z4, z5⟩ := okW_some how
                obtain ⟨xk, xs, xb, xt, xo, xf⟩ := xn
                obtain ⟨m, rfl⟩ : ∃ m : Nat, xs = m := ⟨xs.toNat, by simp at z1; omega⟩
                simp only at z1 z2 z3 z4 hxt
                have hmn : m < n := by omega
                have hz1 : z.1 = m := by rw [z3]; rfl
                obtain ⟨u, hu⟩ : ∃ u, want[m]? = some u := ⟨_, List.getElem?_eq_getElem (by have := HLW.out; omega)⟩
                obtain ⟨g9, rfl, hg91, hg92, hc9⟩ := row_form OW.out (by omega)
                have cu := hc9 m (.string u) (by rw [List.getElem?_map, hu]; rfl)
                have fu := row_unfrozen OW.out m
                obtain ⟨tt, ett⟩ : ∃ tt, tt = actText xt xo := ⟨_, rfl⟩
                have C0 := fun w => text_any xk m xb xt xo xf w hxt
                rw [← ett] at C0 z4
                have C1 := Lib.hid C0
                have htt : tt.size = 32 := by rw [← z5, z4]; simp
                have enw : now = want.set m (tt.extract 0 B ++ u.extract B u.size) := by
                  rw [ENOW.out, EW.out, ← hz1]
                  exact now_torn OK2.out D2.out.2.2 B hB32 (by rw [D2.out.1]; exact hPW) z4.symm (by rw [hz1, ← EW.out]; exact hu)
                have huu : u.size = 32 := by
                  have h1 := hu
                  rw [EW.out] at h1
                  unfold conts at h1
                  rw [List.getElem?_map, List.getElem?_range hmn] at h1
                  have h2 := Option.some.inj h1
                  rw [← h2]
                  show (DD.text _ m).toArray.size = 32
                  rw [List.size_toArray]
                  exact text_len (ok_take OK2.out W) hmn
                rw [huu] at enw
                have ENW := Lib.hid enw
                have HC9 := Lib.hid hc9
                have i0 := B9.out.cellD 0 _ rfl
                have i1 := B9.out.cellD 1 _ rfl
                have i2 := B9.out.cellD 2 _ rfl
                have i3 := B9.out.cellD 3 _ rfl
                have i4 := B9.out.cellD 4 _ rfl
                have i5 := B9.out.cellD 5 _ rfl
                have hm0 : (0 : Int) ≤ (m : Int) := by omega
                have hmn1 : (m : Int) < (n : Int) := by omega
                have hmn2 : ¬ (n : Int) ≤ (m : Int) := by omega
                have hBi : (B : Int) ≤ 32 := by omega
                have hB0 : (0 : Int) ≤ (B : Int) := by omega
                clear how z1 z2 z3 z4 z5 hPW hz1 C0 enw hu hc9 ett
                go_wp2_with fail
                refine Free.wp_region_free 16 [(4, .det (.string tt))] (fun w2 => w2.cell? ⟨w4.heap.size, 0, none⟩ = some (.int .i64 xk) ∧ w2.cell? ⟨w4.heap.size, 1, none⟩ = some (.int .i64 m) ∧ w2.cell? ⟨w4.heap.size, 2, none⟩ = some (.int .i64 xb) ∧ w2.cell? ⟨w4.heap.size, 3, none⟩ = some (.string xt) ∧ w2.cell? ⟨w4.heap.size, 4, none⟩ = some (.bool xo) ∧ w2.cell? ⟨w4.heap.size, 5, none⟩ = some (.int .i64 xf) ∧ w2.cell? ⟨g9, m, none⟩ = some (.string u)) (by kernel_rfl) (by kernel_rfl) ?_ ⟨i0, i1, i2, i3, i4, i5, cu⟩ (fun _ _ h g => ⟨cell_grow' h.1 g, cell_grow' h.2.1 g, cell_grow' h.2.2.1 g, cell_grow' h.2.2.2.1 g, cell_grow' h.2.2.2.2.1 g, cell_grow' h.2.2.2.2.2.1 g, cell_grow' h.2.2.2.2.2.2 g⟩) ?_
                · intro j mk r hf
                  simp only [Free.find] at hf
                  repeat' split at hf
                  all_goals (first | cases hf | skip)
                simp only [List.take_succ_cons, List.take_zero]
                clear i0 i1 i2 i3 i4 i5 cu fu
                iterate 4 (apply Free.chain_still (by first | exact Free.wanted_of rfl rfl rfl | rfl) rfl; (intro w' hB hA; obtain ⟨q0, q1, q2, q3, q4, q5, q6⟩ := hB; clear hA ; go_light; go_simp <;> rfl); (try simp only [Act.put, List.setIfInBounds_toArray, List.set_cons_succ, List.set_cons_zero]))
                apply Free.chain_det rfl rfl
                · intro w' hB hA
                  refine Free.opRun_call (f := 15) (args := #[.agg #[.int .i64 xk, .int .i64 m, .int .i64 xb, .string xt, .bool xo, .int .i64 xf]]) (by clear hB hA; go_simp) ?_
                  refine (C1.out _).mono ?_
                  rintro e w3 ⟨rfl, hb3⟩
                  exact ⟨_, rfl, hb3, rfl⟩
                simp only [Act.put, List.setIfInBounds_toArray, List.set_cons_succ, List.set_cons_zero]
                iterate 11 (apply Free.chain_still (by first | exact Free.wanted_of rfl rfl rfl | rfl) rfl; (intro w' hB hA; obtain ⟨q0, q1, q2, q3, q4, q5, q6⟩ := hB; clear hA ; go_light; go_simp <;> rfl); (try simp only [Act.put, List.setIfInBounds_toArray, List.set_cons_succ, List.set_cons_zero]))
                apply Free.chain_nil
                intro wz hBz hg _
                simp only [List.drop_succ_cons, List.drop_zero]
                have hz := grow_drew' hg
                have cu := hBz.2.2.2.2.2.2
                have hown9 := row_keep OW.out (fun g e => hz.block g (OW.out.lt g e).2)
                have fu := row_unfrozen hown9 m
                obtain ⟨g10, e10, _, _, hc10⟩ := row_form hown9 (by omega)
                injection e10 with e10
                injection e10 with e10
                subst e10
                obtain ⟨wy, ewy⟩ : ∃ wy, wy = wz.setCell ⟨g9, m, none⟩ (.string (tt.extract 0 B ++ u.extract B 32)) := ⟨_, rfl⟩
                have s2 : SL wy 1 encS (some ⟨g9, 0, none⟩) now := by rw [ewy, ENW.out]; exact sl_set hc10
                have s1 : SL wy 1 encS A8 now := by
                  rw [ewy]
                  refine sl_of_own (base := w7.heap.size) (m := n) (c := c8) (row_keep O9.out (fun g e => ?_))
                  have h1 := HLT.out g e
                  rw [Below.heap_setCell wz ⟨g9, m, none⟩ _ g (by show g ≠ g9; omega)]
                  exact hz.block g (O9.out.lt g e).2
                have q := same_yes A8 (some ⟨g9, 0, none⟩) c8 c9 now wy s1 s2 (by rw [HLN.out]; omega)
                rw [HLN.out] at q
                have hbz : Below w.heap.size w wy := by
                  rw [ewy]
                  refine (HB9.out.trans (hz.mono HB9.out.size)).setCell ?_ _
                  show w.heap.size ≤ g9
                  have := HB8.out.size
                  omega
                rw [ewy] at q hbz
                have Q := Lib.hid q
                have HBZ := Lib.hid hbz
                clear q hbz s1 s2 ewy hc10 hown9 hg hz hBz OW O9 C1 ENW
                go_wp2_with fail
                refine Q.out.mono ?_
                rintro e w10 ⟨rfl, hb10⟩
                have HB := Lib.hid (HBZ.out.trans (hb10.mono HBZ.out.size))
                clear hb10
                go_wp2_with fail
                go_ret
                exact ⟨rfl, HB.out⟩
end Go.Proofs.Ytkccfmaimpnbcaa
