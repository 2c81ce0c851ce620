/- Law 45: JournalMatchesReference. Condition: the arguments are readable; the variable of strconv holds its numbers. -/
import Derived.Test.YthfjaaigncjhlaaGreatDoorY4
import Derived.Test.YthfjaaigncjhlaaGreatDoorY1
namespace Go.Proofs.YthfjaaigncjhlaaGreatDoor
open Go.RowKit Go.Blk Go.Jn Go.Dk Go.Mp Go.Rf Go.Shelf Go.Apl Go.Opn

def RMt (we : World) (b bs rb n : Nat) (l : List Op45) (vj vx ve vk vy vf vi : Value) (wr : World) : Prop :=
  ∃ (i : Nat) (d : DD) (o : Option JS) (p q : Option Addr) (F G : Nat → Prop) (xs : List (List UInt8)) (Ax Ay : Option Addr) (cx cy : Nat) (c : Int),
    vj = .pointer p ∧ vk = .pointer q ∧ vx = .slice Ax xs.length cx ∧ vy = .slice Ay xs.length cy ∧ ve = .int .i64 c ∧ vf = .int .i64 c ∧ vi = .int .i64 (i : Int) ∧ i ≤ l.length ∧ Inv n d o ∧
    Tri we wr b bs rb n d d o o p q F G [] ∧ SL wr 1 encS Ax (xs.map tx) ∧ SL wr 1 encS Ay (xs.map tx) ∧ xs.length ≤ 16000
def RRr (n : Nat) (w0 : World) (vi : Value) (wr : World) : Prop := ∃ k : Nat, vi = .int .i64 (k : Int) ∧ k ≤ n ∧ wr = w0
theorem Tri.drop {we w : World} {b bs rb n : Nat} {d1 d2 : DD} {o1 o2 : Option JS} {p q : Option Addr} {F G : Nat → Prop} {B : List (Nat × List Value)} (h : Tri we w b bs rb n d1 d2 o1 o2 p q F G B) : Tri we w b bs rb n d1 d2 o1 o2 p q F G [] :=
  ⟨h.below, h.i, h.r, h.dj, fun x hx => by cases hx⟩
theorem same_sl {w : World} {A B : Option Addr} {c d : Nat} {xs : List (List UInt8)} (h1 : SL w 1 encS A (xs.map tx)) (h2 : SL w 1 encS B (xs.map tx)) (hl : xs.length ≤ 16000) :
    Calls Tryz.prog 10 #[.slice A xs.length c, .slice B xs.length d] w fun e w' => e = .returned (.bool true) ∧ Below w.heap.size w w' := by
  have e1 : (xs.map tx).length = xs.length := by simp
  have := same45_any A B c d (xs.map tx) (xs.map tx) w h1 h2 (by omega) (by omega)
  rw [e1] at this
  refine this.mono ?_
  rintro e w' ⟨rfl, h⟩
  exact ⟨by simp, h⟩
theorem opO_list {n : Nat} {d : DD} (hok : d.Ok n) (hp : d.pend = []) : (opO n d).2.2 = recO (opO n d).1 ∧ (opO n d).2.2.length ≤ 16000 := by
  have h1 : (opO n d).2.2 = recO (opO n d).1 := by
    unfold opO
    split <;> rfl
  exact ⟨h1, by rw [h1]; exact (inv_open hok hp).few⟩
set_option maxRecDepth 100000 in
set_option maxHeartbeats 4000000 in
theorem match45_law (n : Int) (A : Option Addr) (c : Nat) (l : List Op45) (w : World) (hS : SL w 6 encO A l) (hok : ∀ a ∈ l, a.Ok w) (hl : l.length ≤ 9223372036854775807) (hn0 : -9223372036854775808 ≤ n) (hn1 : n ≤ 9223372036854775807) (hT : HasT w) :
    Calls Tryz.prog 3 #[.int .i64 n, .slice A l.length c] w (YesPost w) := by
  obtain ⟨R, eR⟩ : ∃ R, R = YesPost w := ⟨_, rfl⟩
  rw [← eR]
  have FIN : Hid (∀ w', Below w.heap.size w w' → R (.returned (.bool true)) w') := fun w' hb => by rw [eR]; exact ⟨rfl, hb⟩
  have HD := Lib.hid (head45_any w hT)
  have LI := Lib.hid (fun w' (hb : Below w.heap.size w w') => light_any n A c l w' (hS.below hb (Nat.le_refl _)) (fun a ha => by
    have h := hok a ha
    exact ⟨h.k0, h.k1, h.body, h.len, h.sl.below hb (Nat.le_refl _), h.size, h.a0, h.a1, h.w0, h.w1, h.b0, h.b1⟩) hl)
  have HT := Lib.hid hT
  have HS := Lib.hid hS
  have HOK := Lib.hid hok
  clear eR hT hS hok
  go_enter Tryz.func3, Tryz.ntmps3
  go_wp2_with fail
  refine HD.out.mono ?_
  rintro e w1 ⟨rfl, hb1⟩
  have HB1 := Lib.hid hb1
  have LI1 := Lib.hid (LI.out w1 hb1)
  clear HD LI hb1
  go_wp2_with fail
  refine LI1.out.mono ?_
  rintro e w' ⟨lb, rfl, hlb, rfl⟩
  clear LI1
  cases lb with
  | false =>
    have G := Lib.hid (FIN.out _ HB1.out)
    clear FIN
    go_wp2_with fail
    first
      | exact G.out
      | (go_ret; exact G.out)
  | true =>
    obtain ⟨h80, h30, h40⟩ := hlb rfl
    clear hlb
    by_cases hn1' : n < 1
    · have N := Lib.hid (new_none n w1 hn1')
      have N2 := Lib.hid (rnew_none n w1 hn1')
      have O := Lib.hid (open_nil w1)
      have G := Lib.hid (FIN.out _ HB1.out)
      clear FIN
      go_wp2_with fail
      refine N.out.mono ?_
      rintro e w' ⟨rfl, rfl⟩
      go_wp2_with fail
      refine N2.out.mono ?_
      rintro e w' ⟨rfl, rfl⟩
      go_wp2_with fail
      refine O.out.mono ?_
      rintro e w' ⟨rfl, rfl⟩
      clear N N2 O
      go_wp2_with fail
      first
        | exact G.out
        | (go_ret; exact G.out)
    · obtain ⟨m, rfl⟩ : ∃ m : Nat, n = (m : Int) := ⟨n.toNat, by omega⟩
      have N := Lib.hid (new_any m w1 (by omega) (by omega))
      have NR := Lib.hid (fun w => rnew_any m w (by omega) (by omega))
      go_wp2_with fail
      refine N.out.mono ?_
      intro e w2 g1
      obtain ⟨b, bs, bm, rfl, hd, hb, hf, hb12⟩ := new_fp HB1.out g1
      have HBW2 := Lib.hid hb
      have HI2 : Hid (IM w w2 b bs m (DD.new m) none none (Fp b bs bm (.slice none 0 0))) := ⟨fun k hk => ⟨hf k hk, hd.lt hk⟩, .inl ⟨rfl, rfl, bm, _, hd, fun k hk => hk⟩⟩
      clear N g1 hd hb hf hb12
      go_wp2_with fail
      refine (NR.out w2).mono ?_
      rintro e w3 ⟨rb, rs, rcp, rfl, hrd, hb3, hrb, hrs⟩
      have HT3 : Hid (Tri w w3 b bs rb m (DD.new m) (DD.new m) none none none none (Fp b bs bm (.slice none 0 0)) (RFp rb rs (.slice none 0 0)) []) := by
        have hf : ∀ k, RFp rb rs (.slice none 0 0) k → w2.heap.size ≤ k := by
          rintro k (rfl | rfl | e)
          · exact hrb
          · exact hrs
          · cases e
        refine ⟨HBW2.out.trans (hb3.mono HBW2.out.size), HI2.out.below hb3, ⟨fun k hk => ⟨Nat.le_trans HBW2.out.size (hf k hk), hrd.lt hk⟩, .inl ⟨rfl, rfl, rs, rcp, _, hrd, fun k hk => hk⟩⟩, fun k hk hg => ?_, fun x hx => by cases hx⟩
        have h1 := hf k hg
        have h2 := (HI2.out.f k hk).2
        omega
      have OP := Lib.hid HT3.out.opnI
      have ONEW : Hid ((DD.new m).Ok m ∧ (DD.new m).pend = []) := ⟨DD.Ok.new (by omega) (by omega), rfl⟩
      have M80 : m ≤ 80 := by omega
      clear NR hrd hb3 hrb hrs HI2 HBW2 HT3
      go_wp2_with fail
      refine OP.out.mono ?_
      rintro e w4 ⟨p4, A4, c4, F4, rfl, ht4, hr4, hn4, hb4⟩
      have T4 := Lib.hid ht4
      have R4 := Lib.hid hr4
      have OP2 := Lib.hid ht4.opnR
      clear OP ht4 hr4 hn4 hb4
      go_wp2_with fail
      refine OP2.out.mono ?_
      rintro e w5 ⟨q5, A5, c5, G5, rfl, ht5, hr5, hb5⟩
      have HST : Hid (RMt w b bs rb m l (.pointer p4) (.slice A4 (opO m (DD.new m)).2.2.length c4) (.int .i64 (opO m (DD.new m)).2.1) (.pointer q5) (.slice A5 (opO m (DD.new m)).2.2.length c5) (.int .i64 (opO m (DD.new m)).2.1) (.int .i64 0) w5) :=
        ⟨0, DD.new m, (opO m (DD.new m)).1, p4, q5, F4, G5, (opO m (DD.new m)).2.2, A4, A5, c4, c5, (opO m (DD.new m)).2.1, rfl, rfl, rfl, rfl, rfl, rfl, rfl, Nat.zero_le _, inv_open ONEW.out.1 ONEW.out.2, ht5, (row_sl R4.out).2.1.below hb5 (Nat.le_refl _), (row_sl hr5).2.1, (opO_list ONEW.out.1 ONEW.out.2).2⟩
      obtain ⟨c0, ec0⟩ : ∃ c0, c0 = (opO m (DD.new m)).2.1 := ⟨_, rfl⟩
      obtain ⟨x0, ex0⟩ : ∃ x0, x0 = (opO m (DD.new m)).2.2 := ⟨_, rfl⟩
      rw [← ec0, ← ex0] at HST ⊢
      clear OP2 ht5 hr5 hb5 R4 T4 ec0 ex0
      go_wp2_with fail
      go_loopw [11, 12, 13, 14, 15, 16, 17] (fun vj vx ve vk vy vf vi wr => RMt w b bs rb m l vj vx ve vk vy vf vi wr) (fun _ _ _ _ _ _ i _ => l.length + 1 - (intOf i).toNat)
      case atStart => exact HST.out
      case round =>
        clear HST
        obtain ⟨i, d, o, p, q, F, G, xs, Ax, Ay, cx, cy, ec, rfl, rfl, rfl, rfl, rfl, rfl, rfl, hi, hinv, htri, hx, hy, hxl⟩ := hrel
        have hii : (i : Int) ≤ (l.length : Int) := by omega
        have i0 : (0 : Int) ≤ (i : Int) := by omega
        have SM := Lib.hid (same_sl (c := cx) (d := cy) hx hy hxl)
        have e1 : p.isNone = o.isNone := by rw [← htri.i.isnil.1]; cases p <;> rfl
        have e2 : q.isNone = o.isNone := by rw [← htri.r.isnil.1]; cases q <;> rfl
        obtain ⟨pn, hpn⟩ : ∃ pn, p.isNone = pn := ⟨_, rfl⟩
        have hqn : q.isNone = pn := by rw [← hpn, e1, e2]
        clear e1 e2
        have INV := Lib.hid hinv
        have T0 := Lib.hid htri
        clear hinv htri hx hy
        go_wp2_with fail
        refine SM.out.mono ?_
        rintro e w6 ⟨rfl, hb6⟩
        have T6 := Lib.hid (T0.out.grow hb6)
        have RI := Lib.hid (T6.out.i.recs INV.out)
        clear SM hb6 T0
        go_wp2_with fail
        refine RI.out.mono ?_
        rintro e w7 ⟨A7, c7, rfl, hr7, hb7⟩
        have T7 := Lib.hid (T6.out.grow hb7)
        have R7 := Lib.hid (row_sl hr7).2.1
        have RR := Lib.hid (T7.out.r.recs INV.out)
        clear RI hr7 hb7 T6
        go_wp2_with fail
        refine RR.out.mono ?_
        rintro e w8 ⟨A8, c8, rfl, hr8, hb8⟩
        have T8 := Lib.hid (T7.out.grow hb8)
        have SM := Lib.hid (same_sl (c := c7) (d := c8) (R7.out.below hb8 (Nat.le_refl _)) (row_sl hr8).2.1 INV.out.few)
        clear RR hr8 hb8 T7 R7
        go_wp2_with fail
        refine SM.out.mono ?_
        rintro e w9 ⟨rfl, hb9⟩
        have T9 := Lib.hid (T8.out.grow hb9)
        clear SM hb9 T8
        by_cases hlt : i < l.length
        · have hne : ((i : Int) == (l.length : Int)) = false := by simp; omega
          have hne2 : ¬ (i : Int) = (l.length : Int) := by omega
          have hki : (i : Int) < (l.length : Int) := by omega
          obtain ⟨x, hx⟩ : ∃ x, l[i]? = some x := ⟨_, List.getElem?_eq_getElem hlt⟩
          have HXO := Lib.hid (HOK.out x (List.mem_of_getElem? hx))
          have HXL := Lib.hid (h40 x (List.mem_of_getElem? hx))
          obtain ⟨b1, o1, rfl, hc1⟩ := (HS.out.below T9.out.below (Nat.le_refl _)).at_ hx
          obtain ⟨xk, body, xA, xc, li, xa, xw, xb⟩ := x
          have hk0 : 0 ≤ xk := HXO.out.k0
          have hk1 : xk ≤ 255 := HXO.out.k1
          have HRG : Hid (w9.rangeAt b1 (o1 + i * 6) [.int .u8 xk, .string body, .slice xA li.length xc, .int .i64 xa, .int .i64 xw, .int .i64 xb]) := by
            intro j u hu
            have := hc1 j u hu
            rw [Nat.add_assoc]; exact this
          have HI : Hid ((Tryz.prog.info? 40).map (·.size) = some ([.int .u8 xk, .string body, .slice xA li.length xc, .int .i64 xa, .int .i64 xw, .int .i64 xb] : List Value).length) := by show _ = _; kernel_rfl
          clear hc1 hx
          obtain ⟨cs, ecs⟩ : ∃ cs : List Value, cs = [.int .u8 xk, .string body, .slice xA li.length xc, .int .i64 xa, .int .i64 xw, .int .i64 xb] := ⟨_, rfl⟩
          have CS := Lib.hid ecs
          obtain ⟨W, eW⟩ : ∃ W, W = w9.alloc (.cells #[.int .u8 xk, .string body, .slice xA li.length xc, .int .i64 xa, .int .i64 xw, .int .i64 xb] 40) := ⟨_, rfl⟩
          obtain ⟨OB, eOB⟩ : ∃ OB, OB = w9.heap.size := ⟨_, rfl⟩
          have T10 : Hid (Tri w W b bs rb m d d o o p q F G [(OB, cs)]) := by
            have hbW : Below w9.heap.size w9 W := by rw [eW]; exact (Below.refl _ w9).alloc (Nat.le_refl _) _
            have h := T9.out.grow hbW
            refine ⟨h.below, h.i, h.r, h.dj, fun x hx => ?_⟩
            rw [List.mem_singleton.1 hx]
            refine ⟨by rw [eW, eOB, ecs]; exact Blk.new w9 _ _, fun hf => ?_, fun hg => ?_⟩
            · have := (T9.out.i.f _ hf).2; rw [← eOB] at this; exact absurd this (Nat.lt_irrefl _)
            · have := (T9.out.r.f _ hg).2; rw [← eOB] at this; exact absurd this (Nat.lt_irrefl _)
          have EW := Lib.hid eW
          have EOB := Lib.hid eOB
          have HOKD := Lib.hid INV.out.ok
          have HPD := Lib.hid INV.out.pend
          have HWS := Lib.hid T10.out.below.size
          clear ecs eW eOB T9 hlt hne hne2
          have h5 : xk % 5 = 0 ∨ xk % 5 = 1 ∨ xk % 5 = 2 ∨ xk % 5 = 3 ∨ xk % 5 = 4 := by omega
          rcases h5 with h5 | h5 | h5 | h5 | h5
          · have ht5 : Int.tmod xk 5 = 0 := by rw [Int.tmod_eq_emod_of_nonneg hk0]; exact h5
            go_wp2_with (with_reducible refine wpList_load_mid rfl 40 (.tmp 106) rfl b1 (o1 + i * 6) rfl [.int .u8 xk, .string body, .slice xA li.length xc, .int .i64 xa, .int .i64 xw, .int .i64 xb] _ HRG.out Tryz.underlying40 rfl HI.out ?_)
            rw [← EW.out, ← EOB.out]
            clear ht5 h5
            obtain ⟨r, er⟩ : ∃ r, r = apO m d o body.data.toList := ⟨_, rfl⟩
            have ER := Lib.hid er
            clear er
            refine Fre3.wp_region_staged 10 [3, 7] (Stg w b bs rb m d r.1 o r.2.1 p q OB cs) (by kernel_rfl) (by kernel_rfl) (by kernel_rfl) ⟨F, G, T10.out.grow (drewN_below W 1)⟩ ?_
            simp only [List.take_succ_cons, List.take_zero]
            iterate 3 (apply Fre3.chain_still (by first | exact Free.wanted_of rfl rfl rfl | rfl) rfl; (intro s w' hB; have hb := hB.ob; rw [CS.out] at hb; have k1 := hb.cellD 1 _ rfl; clear hB hb; go_light; go_simp <;> rfl); (try simp only [Act.put, List.setIfInBounds_toArray, List.set_cons_succ, List.set_cons_zero]))
            apply Fre3.chain_call (x := .int .i64 r.2.2) (by first | exact Free.wanted_of rfl rfl rfl | rfl) rfl
            · intro w' hB
              obtain ⟨F1, G1, hT⟩ := hB
              have hT : Tri w w' b bs rb m d d o o p q F1 G1 [(OB, cs)] := hT
              refine Free.opRun_call (f := 13) (args := #[.pointer p, .string body]) (by clear hT; go_simp <;> rfl) ?_
              have hc := (hT.i.app INV.out HT.out hT.below body HXO.out.body)
              rw [← ER.out] at hc
              refine hc.mono ?_
              intro e w3 hq
              obtain ⟨rfl, F2, ht⟩ := hT.stepI hq
              exact ⟨_, rfl, ⟨F2, G1, ht⟩, rfl⟩
            simp only [Act.put, List.setIfInBounds_toArray, List.set_cons_succ, List.set_cons_zero]
            iterate 3 (apply Fre3.chain_still (by first | exact Free.wanted_of rfl rfl rfl | rfl) rfl; (intro s w' hB; have hb := hB.ob; rw [CS.out] at hb; have k1 := hb.cellD 1 _ rfl; clear hB hb; go_light; go_simp <;> rfl); (try simp only [Act.put, List.setIfInBounds_toArray, List.set_cons_succ, List.set_cons_zero]))
            apply Fre3.chain_call (x := .int .i64 r.2.2) (by first | exact Free.wanted_of rfl rfl rfl | rfl) rfl
            · intro w' hB
              obtain ⟨F1, G1, hT⟩ := hB
              have hT : Tri w w' b bs rb m r.1 d r.2.1 o p q F1 G1 [(OB, cs)] := hT
              refine Free.opRun_call (f := 14) (args := #[.pointer q, .string body]) (by clear hT; go_simp <;> rfl) ?_
              have hc := (hT.r.app INV.out hT.below body HXO.out.body)
              rw [← ER.out] at hc
              refine hc.mono ?_
              intro e w3 hq
              obtain ⟨rfl, G2, ht⟩ := hT.stepR hq
              exact ⟨_, rfl, ⟨F1, G2, ht⟩, rfl⟩
            simp only [Act.put, List.setIfInBounds_toArray, List.set_cons_succ, List.set_cons_zero]
            iterate 2 (apply Fre3.chain_still (by first | exact Free.wanted_of rfl rfl rfl | rfl) rfl; (intro s w' hB; have hb := hB.ob; rw [CS.out] at hb; have k1 := hb.cellD 1 _ rfl; clear hB hb; go_light; go_simp <;> rfl); (try simp only [Act.put, List.setIfInBounds_toArray, List.set_cons_succ, List.set_cons_zero]))
            apply Fre3.chain_nil
            intro wz hB
            obtain ⟨F2, G2, hT⟩ := hB
            have hT : Tri w wz b bs rb m r.1 r.1 r.2.1 r.2.1 p q F2 G2 [(OB, cs)] := hT
            simp only [List.drop_succ_cons, List.drop_zero]
            have KEY : Hid (RMt w b bs rb m l (.pointer p) (.slice none 0 0) (.int .i64 r.2.2) (.pointer q) (.slice none 0 0) (.int .i64 r.2.2) (.int .i64 ((i : Int) + 1)) wz) :=
              ⟨i + 1, r.1, r.2.1, p, q, F2, G2, [], none, none, 0, 0, r.2.2, rfl, rfl, rfl, rfl, rfl, rfl, by go_num, by omega, (by rw [ER.out]; exact inv_app INV.out _), hT.drop, SL.nil, SL.nil, Nat.zero_le _⟩
            clear hT T10
            go_wp2_with fail
            go_roundw
            case rel =>
              go_light
              have key := KEY.out
              first | exact key | ((repeat apply Exists.intro); exact ⟨key, rfl⟩)
            case measure => simp [intOf]; omega
          · have ht5 : Int.tmod xk 5 = 1 := by rw [Int.tmod_eq_emod_of_nonneg hk0]; exact h5
            go_wp2_with (with_reducible refine wpList_load_mid rfl 40 (.tmp 106) rfl b1 (o1 + i * 6) rfl [.int .u8 xk, .string body, .slice xA li.length xc, .int .i64 xa, .int .i64 xw, .int .i64 xb] _ HRG.out Tryz.underlying40 rfl HI.out ?_)
            rw [← EW.out, ← EOB.out]
            clear ht5 h5
            obtain ⟨r, er⟩ : ∃ r, r = cmO m d o (recsOf li) := ⟨_, rfl⟩
            have ER := Lib.hid er
            clear er
            refine Fre3.wp_region_staged 10 [3, 7] (Stg w b bs rb m d r.1 o r.2.1 p q OB cs) (by kernel_rfl) (by kernel_rfl) (by kernel_rfl) ⟨F, G, T10.out.grow (drewN_below W 1)⟩ ?_
            simp only [List.take_succ_cons, List.take_zero]
            iterate 3 (apply Fre3.chain_still (by first | exact Free.wanted_of rfl rfl rfl | rfl) rfl; (intro s w' hB; have hb := hB.ob; rw [CS.out] at hb; have k1 := hb.cellD 2 _ rfl; clear hB hb; go_light; go_simp <;> rfl); (try simp only [Act.put, List.setIfInBounds_toArray, List.set_cons_succ, List.set_cons_zero]))
            apply Fre3.chain_call (x := .int .i64 r.2.2) (by first | exact Free.wanted_of rfl rfl rfl | rfl) rfl
            · intro w' hB
              obtain ⟨F1, G1, hT⟩ := hB
              have hT : Tri w w' b bs rb m d d o o p q F1 G1 [(OB, cs)] := hT
              refine Free.opRun_call (f := 15) (args := #[.pointer p, .slice xA li.length xc]) (by clear hT; go_simp <;> rfl) ?_
              have hc := (hT.i.cmp (c := xc) INV.out HT.out hT.below li HXO.out.sl (Nat.le_trans HXL.out (by decide)))
              rw [← ER.out] at hc
              refine hc.mono ?_
              intro e w3 hq
              obtain ⟨rfl, F2, ht⟩ := hT.stepI hq
              exact ⟨_, rfl, ⟨F2, G1, ht⟩, rfl⟩
            simp only [Act.put, List.setIfInBounds_toArray, List.set_cons_succ, List.set_cons_zero]
            iterate 3 (apply Fre3.chain_still (by first | exact Free.wanted_of rfl rfl rfl | rfl) rfl; (intro s w' hB; have hb := hB.ob; rw [CS.out] at hb; have k1 := hb.cellD 2 _ rfl; clear hB hb; go_light; go_simp <;> rfl); (try simp only [Act.put, List.setIfInBounds_toArray, List.set_cons_succ, List.set_cons_zero]))
            apply Fre3.chain_call (x := .int .i64 r.2.2) (by first | exact Free.wanted_of rfl rfl rfl | rfl) rfl
            · intro w' hB
              obtain ⟨F1, G1, hT⟩ := hB
              have hT : Tri w w' b bs rb m r.1 d r.2.1 o p q F1 G1 [(OB, cs)] := hT
              refine Free.opRun_call (f := 16) (args := #[.pointer q, .slice xA li.length xc]) (by clear hT; go_simp <;> rfl) ?_
              have hc := (hT.r.cmp (c := xc) INV.out hT.below li HXO.out.sl (Nat.le_trans HXL.out (by decide)))
              rw [← ER.out] at hc
              refine hc.mono ?_
              intro e w3 hq
              obtain ⟨rfl, G2, ht⟩ := hT.stepR hq
              exact ⟨_, rfl, ⟨F1, G2, ht⟩, rfl⟩
            simp only [Act.put, List.setIfInBounds_toArray, List.set_cons_succ, List.set_cons_zero]
            iterate 2 (apply Fre3.chain_still (by first | exact Free.wanted_of rfl rfl rfl | rfl) rfl; (intro s w' hB; have hb := hB.ob; rw [CS.out] at hb; have k1 := hb.cellD 2 _ rfl; clear hB hb; go_light; go_simp <;> rfl); (try simp only [Act.put, List.setIfInBounds_toArray, List.set_cons_succ, List.set_cons_zero]))
            apply Fre3.chain_nil
            intro wz hB
            obtain ⟨F2, G2, hT⟩ := hB
            have hT : Tri w wz b bs rb m r.1 r.1 r.2.1 r.2.1 p q F2 G2 [(OB, cs)] := hT
            simp only [List.drop_succ_cons, List.drop_zero]
            have KEY : Hid (RMt w b bs rb m l (.pointer p) (.slice none 0 0) (.int .i64 r.2.2) (.pointer q) (.slice none 0 0) (.int .i64 r.2.2) (.int .i64 ((i : Int) + 1)) wz) :=
              ⟨i + 1, r.1, r.2.1, p, q, F2, G2, [], none, none, 0, 0, r.2.2, rfl, rfl, rfl, rfl, rfl, rfl, by go_num, by omega, (by rw [ER.out]; exact inv_cmp INV.out _), hT.drop, SL.nil, SL.nil, Nat.zero_le _⟩
            clear hT T10
            go_wp2_with fail
            go_roundw
            case rel =>
              go_light
              have key := KEY.out
              first | exact key | ((repeat apply Exists.intro); exact ⟨key, rfl⟩)
            case measure => simp [intOf]; omega
          · have ht5 : Int.tmod xk 5 = 2 := by rw [Int.tmod_eq_emod_of_nonneg hk0]; exact h5
            go_wp2_with (with_reducible refine wpList_load_mid rfl 40 (.tmp 106) rfl b1 (o1 + i * 6) rfl [.int .u8 xk, .string body, .slice xA li.length xc, .int .i64 xa, .int .i64 xw, .int .i64 xb] _ HRG.out Tryz.underlying40 rfl HI.out ?_)
            rw [← EW.out, ← EOB.out]
            clear ht5 h5
            have hw0 := HXO.out.w0
            have hw1 := HXO.out.w1
            have hb0 := HXO.out.b0
            have hb1 := HXO.out.b1
            dsimp only at hw0 hw1 hb0 hb1
            refine (T10.out.i.disk HWS.out (fun bm pv hd => fail_any hd xw xb hw0 hw1)).mono ?_
            intro e w11 hq
            obtain ⟨rfl, F11, ht11⟩ := T10.out.stepI hq
            have T11 := Lib.hid ht11
            clear hq T10
            have hbb := (T11.out.ob (OB, cs) (by simp)).1
            rw [CS.out] at hbb
            have k0 := hbb.cellD 0 _ rfl
            have k1 := hbb.cellD 1 _ rfl
            have k2 := hbb.cellD 2 _ rfl
            have k3 := hbb.cellD 3 _ rfl
            have k4 := hbb.cellD 4 _ rfl
            have k5 := hbb.cellD 5 _ rfl
            clear hbb
            go_wp2_with fail
            refine (T11.out.r.disk T11.out.below.size (fun bs cp pv hd => rfail_any hd xw xb hw0 hw1 hb0 hb1)).mono ?_
            intro e w12 hq
            obtain ⟨rfl, G12, ht12⟩ := T11.out.stepR hq
            have T12 := Lib.hid ht12
            clear hq T11
            clear k0 k1 k2 k3 k4 k5
            go_wp2_with fail
            refine (T12.out.i.disk T12.out.below.size (fun bm pv hd => dk_start hd)).mono ?_
            intro e w13 hq
            obtain ⟨rfl, F13, ht13⟩ := T12.out.stepI hq
            have T13 := Lib.hid ht13
            clear hq T12
            go_wp2_with fail
            refine (T13.out.r.disk T13.out.below.size (fun bs cp pv hd => rstart_any hd)).mono ?_
            intro e w14 hq
            obtain ⟨rfl, G14, ht14⟩ := T13.out.stepR hq
            have T14 := Lib.hid ht14
            clear hq T13
            have PD2 : Hid (((d.fail xw xb).start).Ok m ∧ ((d.fail xw xb).start).pend = []) := ⟨(HOKD.out.fail xw xb).start, fail_pend HPD.out xw xb⟩
            have OP := Lib.hid T14.out.opnI
            go_wp2_with fail
            refine OP.out.mono ?_
            rintro e w21 ⟨p21, A21, c21, F21, rfl, ht21, hr21, hn21, hb21⟩
            have OP2 := Lib.hid ht21.opnR
            have R21 := Lib.hid hr21
            clear OP ht21 hr21 hn21 hb21
            go_wp2_with fail
            refine OP2.out.mono ?_
            rintro e w22 ⟨q22, A22, c22, G22, rfl, ht22, hr22, hb22⟩
            have KEY : Hid (RMt w b bs rb m l (.pointer p21) (.slice A21 (opO m ((d.fail xw xb).start)).2.2.length c21) (.int .i64 (opO m ((d.fail xw xb).start)).2.1) (.pointer q22) (.slice A22 (opO m ((d.fail xw xb).start)).2.2.length c22) (.int .i64 (opO m ((d.fail xw xb).start)).2.1) (.int .i64 ((i : Int) + 1)) w22) :=
              ⟨i + 1, ((d.fail xw xb).start), (opO m ((d.fail xw xb).start)).1, p21, q22, F21, G22, (opO m ((d.fail xw xb).start)).2.2, A21, A22, c21, c22, (opO m ((d.fail xw xb).start)).2.1, rfl, rfl, rfl, rfl, rfl, rfl, by go_num, by omega, inv_open PD2.out.1 PD2.out.2, ht22.drop, (row_sl R21.out).2.1.below hb22 (Nat.le_refl _), (row_sl hr22).2.1, (opO_list PD2.out.1 PD2.out.2).2⟩
            obtain ⟨e0, ee0⟩ : ∃ e0, e0 = (opO m ((d.fail xw xb).start)).2.1 := ⟨_, rfl⟩
            obtain ⟨l0, el0⟩ : ∃ l0, l0 = (opO m ((d.fail xw xb).start)).2.2 := ⟨_, rfl⟩
            rw [← ee0, ← el0] at KEY ⊢
            clear OP2 ht22 hr22 hb22 R21 T14 ee0 el0
            go_wp2_with fail
            go_roundw
            case rel =>
              go_light
              have key := KEY.out
              first | exact key | ((repeat apply Exists.intro); exact ⟨key, rfl⟩)
            case measure => simp [intOf]; omega
          · have ht5 : Int.tmod xk 5 = 3 := by rw [Int.tmod_eq_emod_of_nonneg hk0]; exact h5
            go_wp2_with (with_reducible refine wpList_load_mid rfl 40 (.tmp 106) rfl b1 (o1 + i * 6) rfl [.int .u8 xk, .string body, .slice xA li.length xc, .int .i64 xa, .int .i64 xw, .int .i64 xb] _ HRG.out Tryz.underlying40 rfl HI.out ?_)
            rw [← EW.out, ← EOB.out]
            clear ht5 h5
            have hw0 := HXO.out.w0
            have hw1 := HXO.out.w1
            have hb0 := HXO.out.b0
            have hb1 := HXO.out.b1
            have ha0 := HXO.out.a0
            have ha1 := HXO.out.a1
            dsimp only at hw0 hw1 hb0 hb1 ha0 ha1
            refine (T10.out.i.disk HWS.out (fun bm pv hd => dk_arm hd xa xw xb ha0 ha1 hw0 hw1 hb0 hb1)).mono ?_
            intro e w11 hq
            obtain ⟨rfl, F11, ht11⟩ := T10.out.stepI hq
            have T11 := Lib.hid ht11
            clear hq T10
            have hbb := (T11.out.ob (OB, cs) (by simp)).1
            rw [CS.out] at hbb
            have k0 := hbb.cellD 0 _ rfl
            have k1 := hbb.cellD 1 _ rfl
            have k2 := hbb.cellD 2 _ rfl
            have k3 := hbb.cellD 3 _ rfl
            have k4 := hbb.cellD 4 _ rfl
            have k5 := hbb.cellD 5 _ rfl
            clear hbb
            go_wp2_with fail
            refine (T11.out.r.disk T11.out.below.size (fun bs cp pv hd => rarm_any hd xa xw xb ha0 ha1 hw0 hw1 hb0 hb1)).mono ?_
            intro e w12 hq
            obtain ⟨rfl, G12, ht12⟩ := T11.out.stepR hq
            have T12 := Lib.hid ht12
            clear hq T11
            clear k0 k1 k2 k3 k4 k5
            have KEY : Hid (RMt w b bs rb m l (.pointer p) (.slice none 0 0) (.int .i64 ec) (.pointer q) (.slice none 0 0) (.int .i64 ec) (.int .i64 ((i : Int) + 1)) w12) :=
              ⟨i + 1, _, _, p, q, _, _, [], none, none, 0, 0, ec, rfl, rfl, rfl, rfl, rfl, rfl, by go_num, by omega, inv_arm INV.out (arm_ok HOKD.out ha0 ha1 hw0 hw1 hb0 hb1), T12.out.drop, SL.nil, SL.nil, Nat.zero_le _⟩
            clear T12
            go_wp2_with fail
            go_roundw
            case rel =>
              go_light
              have key := KEY.out
              first | exact key | ((repeat apply Exists.intro); exact ⟨key, rfl⟩)
            case measure => simp [intOf]; omega
          · have ht5 : Int.tmod xk 5 = 4 := by rw [Int.tmod_eq_emod_of_nonneg hk0]; exact h5
            go_wp2_with (with_reducible refine wpList_load_mid rfl 40 (.tmp 106) rfl b1 (o1 + i * 6) rfl [.int .u8 xk, .string body, .slice xA li.length xc, .int .i64 xa, .int .i64 xw, .int .i64 xb] _ HRG.out Tryz.underlying40 rfl HI.out ?_)
            rw [← EW.out, ← EOB.out]
            clear ht5 h5
            refine (T10.out.i.disk HWS.out (fun bm pv hd => dk_arm hd (-1) 0 0 (by decide) (by decide) (by decide) (by decide) (by decide) (by decide))).mono ?_
            intro e w11 hq
            obtain ⟨rfl, F11, ht11⟩ := T10.out.stepI hq
            have T11 := Lib.hid ht11
            clear hq T10
            go_wp2_with fail
            refine (T11.out.r.disk T11.out.below.size (fun bs cp pv hd => rarm_any hd (-1) 0 0 (by decide) (by decide) (by decide) (by decide) (by decide) (by decide))).mono ?_
            intro e w12 hq
            obtain ⟨rfl, G12, ht12⟩ := T11.out.stepR hq
            have T12 := Lib.hid ht12
            clear hq T11
            obtain ⟨da, eda⟩ : ∃ da, da = d.arm (-1) 0 0 := ⟨_, rfl⟩
            have DA : Hid (da.Ok m ∧ da.pend = [] ∧ (da.on = true → da.armed = false)) := by
              rw [eda]
              exact ⟨arm_ok HOKD.out (by decide) (by decide) (by decide) (by decide) (by decide) (by decide), by unfold DD.arm; split <;> exact HPD.out, arm_un d⟩
            rw [← eda] at ht12
            have T12 := Lib.hid ht12
            clear eda ht12
            have FL := Lib.hid (fun w' => (fill_any body w' HXO.out.body).mono fun e w2 (h : e = .returned (.string (fillB body)) ∧ w' = w2) => (⟨h.1, by rw [← h.2]; exact Below.refl _ _⟩ : e = .returned (.string (fillB body)) ∧ Below w'.heap.size w' w2))
            obtain ⟨fb, efb⟩ : ∃ fb, fb = fillB body := ⟨_, rfl⟩
            rw [← efb] at FL
            clear efb
            have hbb := (T12.out.ob (OB, cs) (by simp)).1
            rw [CS.out] at hbb
            have k0 := hbb.cellD 0 _ rfl
            have k1 := hbb.cellD 1 _ rfl
            have k2 := hbb.cellD 2 _ rfl
            have k3 := hbb.cellD 3 _ rfl
            have k4 := hbb.cellD 4 _ rfl
            have k5 := hbb.cellD 5 _ rfl
            clear hbb
            go_wp2_with fail
            refine Free.wp_region_free 6 [(5, .det (.string fb))] (fun y => Below w12.heap.size w12 y ∧ y.cell? ⟨OB, 1, none⟩ = some (.string body) ∧ y.cell? ⟨OB, 3, none⟩ = some (.int .i64 xa)) (by kernel_rfl) (by kernel_rfl) (Free.mono_det (fun j mk r hf => by simp only [Free.find] at hf; repeat' (first | cases hf | split at hf))) ⟨(Below.refl _ _).drew, k1, k3⟩ (fun _ _ h g => ⟨h.1.trans (Below.mono g h.1.size), cell_grow' h.2.1 g, cell_grow' h.2.2 g⟩) ?_
            simp only [List.take_succ_cons, List.take_zero]
            clear k0 k1 k2 k3 k4 k5
            iterate 5 (apply Free.chain_still (by first | exact Free.wanted_of rfl rfl rfl | rfl) rfl; (intro w' hB hA; obtain ⟨qB, r1, r3⟩ := hB; clear hA  qB; go_light; go_simp <;> rfl); (try simp only [Act.put, List.setIfInBounds_toArray, List.set_cons_succ, List.set_cons_zero]))
            apply Free.chain_det (by first | exact Free.wanted_of rfl rfl rfl | rfl) rfl
            · intro w' hB hA
              refine Free.opRun_call (f := 24) (args := #[.string body]) (by clear hB hA; go_simp <;> rfl) ?_
              refine (FL.out w').mono ?_
              rintro e w3 ⟨rfl, hb3⟩
              exact ⟨_, rfl, hb3, rfl⟩
            simp only [Act.put, List.setIfInBounds_toArray, List.set_cons_succ, List.set_cons_zero]
            apply Free.chain_nil
            intro wy hBz _ _
            simp only [List.drop_succ_cons, List.drop_zero]
            have T13 := Lib.hid (T12.out.grow hBz.1)
            clear hBz T12
            go_wp2_with fail
            refine (T13.out.i.disk T13.out.below.size (fun bm pv hd => (write_any2 hd xa fb (by rw [DA.out.2.1]; decide)).mono fun e w' h => h.less)).mono ?_
            intro e w14 hq
            obtain ⟨rfl, F14, ht14⟩ := T13.out.stepI hq
            have T14 := Lib.hid ht14
            clear hq T13
            have hbb := (T14.out.ob (OB, cs) (by simp)).1
            rw [CS.out] at hbb
            have k0 := hbb.cellD 0 _ rfl
            have k1 := hbb.cellD 1 _ rfl
            have k2 := hbb.cellD 2 _ rfl
            have k3 := hbb.cellD 3 _ rfl
            have k4 := hbb.cellD 4 _ rfl
            have k5 := hbb.cellD 5 _ rfl
            clear hbb
            go_wp2_with fail
            refine Free.wp_region_free 6 [(5, .det (.string fb))] (fun y => Below w14.heap.size w14 y ∧ y.cell? ⟨OB, 1, none⟩ = some (.string body) ∧ y.cell? ⟨OB, 3, none⟩ = some (.int .i64 xa)) (by kernel_rfl) (by kernel_rfl) (Free.mono_det (fun j mk r hf => by simp only [Free.find] at hf; repeat' (first | cases hf | split at hf))) ⟨(Below.refl _ _).drew, k1, k3⟩ (fun _ _ h g => ⟨h.1.trans (Below.mono g h.1.size), cell_grow' h.2.1 g, cell_grow' h.2.2 g⟩) ?_
            simp only [List.take_succ_cons, List.take_zero]
            clear k0 k1 k2 k3 k4 k5
            iterate 5 (apply Free.chain_still (by first | exact Free.wanted_of rfl rfl rfl | rfl) rfl; (intro w' hB hA; obtain ⟨qB, r1, r3⟩ := hB; clear hA  qB; go_light; go_simp <;> rfl); (try simp only [Act.put, List.setIfInBounds_toArray, List.set_cons_succ, List.set_cons_zero]))
            apply Free.chain_det (by first | exact Free.wanted_of rfl rfl rfl | rfl) rfl
            · intro w' hB hA
              refine Free.opRun_call (f := 24) (args := #[.string body]) (by clear hB hA; go_simp <;> rfl) ?_
              refine (FL.out w').mono ?_
              rintro e w3 ⟨rfl, hb3⟩
              exact ⟨_, rfl, hb3, rfl⟩
            simp only [Act.put, List.setIfInBounds_toArray, List.set_cons_succ, List.set_cons_zero]
            apply Free.chain_nil
            intro wv hBz _ _
            simp only [List.drop_succ_cons, List.drop_zero]
            have T15 := Lib.hid (T14.out.grow hBz.1)
            clear hBz T14
            go_wp2_with fail
            refine (T15.out.r.disk T15.out.below.size (fun bs cp pv hd => rwrite_any hd xa fb (by rw [DA.out.2.1]; decide))).mono ?_
            intro e w16 hq
            obtain ⟨rfl, G16, ht16⟩ := T15.out.stepR hq
            have T16 := Lib.hid ht16
            clear hq T15
            go_wp2_with fail
            refine (T16.out.i.disk T16.out.below.size (fun bm pv hd => sync_any hd)).mono ?_
            intro e w17 hq
            obtain ⟨rfl, F17, ht17⟩ := T16.out.stepI hq
            have T17 := Lib.hid ht17
            clear hq T16
            go_wp2_with fail
            refine (T17.out.r.disk T17.out.below.size (fun bs cp pv hd => rsync_any hd)).mono ?_
            intro e w18 hq
            obtain ⟨rfl, G18, ht18⟩ := T17.out.stepR hq
            have T18 := Lib.hid ht18
            clear hq T17
            have T14 := Lib.hid ht18
            clear T18
            have PD2 : Hid ((DD.write m da xa fb.data.toList).1.sync.1.Ok m ∧ (DD.write m da xa fb.data.toList).1.sync.1.pend = []) := ⟨by
              rcases ht18.i.body with ⟨_, _, bm, pv, h, _⟩ | ⟨s0, jb, bm, pv, rv, _, h2, _, h, _⟩
              · exact h.ok
              · have := h.disk.ok; rw [h2] at this; exact this, sync_pend (n := m) DA.out.2.1 DA.out.2.2⟩
            clear ht18
            have OP := Lib.hid T14.out.opnI
            go_wp2_with fail
            refine OP.out.mono ?_
            rintro e w21 ⟨p21, A21, c21, F21, rfl, ht21, hr21, hn21, hb21⟩
            have OP2 := Lib.hid ht21.opnR
            have R21 := Lib.hid hr21
            clear OP ht21 hr21 hn21 hb21
            go_wp2_with fail
            refine OP2.out.mono ?_
            rintro e w22 ⟨q22, A22, c22, G22, rfl, ht22, hr22, hb22⟩
            have KEY : Hid (RMt w b bs rb m l (.pointer p21) (.slice A21 (opO m ((DD.write m da xa fb.data.toList).1.sync.1)).2.2.length c21) (.int .i64 (opO m ((DD.write m da xa fb.data.toList).1.sync.1)).2.1) (.pointer q22) (.slice A22 (opO m ((DD.write m da xa fb.data.toList).1.sync.1)).2.2.length c22) (.int .i64 (opO m ((DD.write m da xa fb.data.toList).1.sync.1)).2.1) (.int .i64 ((i : Int) + 1)) w22) :=
              ⟨i + 1, ((DD.write m da xa fb.data.toList).1.sync.1), (opO m ((DD.write m da xa fb.data.toList).1.sync.1)).1, p21, q22, F21, G22, (opO m ((DD.write m da xa fb.data.toList).1.sync.1)).2.2, A21, A22, c21, c22, (opO m ((DD.write m da xa fb.data.toList).1.sync.1)).2.1, rfl, rfl, rfl, rfl, rfl, rfl, by go_num, by omega, inv_open PD2.out.1 PD2.out.2, ht22.drop, (row_sl R21.out).2.1.below hb22 (Nat.le_refl _), (row_sl hr22).2.1, (opO_list PD2.out.1 PD2.out.2).2⟩
            obtain ⟨e0, ee0⟩ : ∃ e0, e0 = (opO m ((DD.write m da xa fb.data.toList).1.sync.1)).2.1 := ⟨_, rfl⟩
            obtain ⟨l0, el0⟩ : ∃ l0, l0 = (opO m ((DD.write m da xa fb.data.toList).1.sync.1)).2.2 := ⟨_, rfl⟩
            rw [← ee0, ← el0] at KEY ⊢
            clear OP2 ht22 hr22 hb22 R21 T14 ee0 el0
            go_wp2_with fail
            go_roundw
            case rel =>
              go_light
              have key := KEY.out
              first | exact key | ((repeat apply Exists.intro); exact ⟨key, rfl⟩)
            case measure => simp [intOf]; omega
        · obtain rfl : i = l.length := by omega
          have HWS := Lib.hid T9.out.below.size
          go_wp2_with fail
          refine (T9.out.i.disk HWS.out (fun bm pv hd => fail_any hd 0 0 (by decide) (by decide))).mono ?_
          intro e w11 hq
          obtain ⟨rfl, F11, ht11⟩ := T9.out.stepI hq
          have T11 := Lib.hid ht11
          clear hq T9
          go_wp2_with fail
          refine (T11.out.r.disk T11.out.below.size (fun bs cp pv hd => rfail_any hd 0 0 (by decide) (by decide) (by decide) (by decide))).mono ?_
          intro e w12 hq
          obtain ⟨rfl, G12, ht12⟩ := T11.out.stepR hq
          have T12 := Lib.hid ht12
          clear hq T11
          go_wp2_with fail
          refine (T12.out.i.disk T12.out.below.size (fun bm pv hd => dk_start hd)).mono ?_
          intro e w13 hq
          obtain ⟨rfl, F13, ht13⟩ := T12.out.stepI hq
          have T13 := Lib.hid ht13
          clear hq T12
          go_wp2_with fail
          refine (T13.out.r.disk T13.out.below.size (fun bs cp pv hd => rstart_any hd)).mono ?_
          intro e w14 hq
          obtain ⟨rfl, G14, ht14⟩ := T13.out.stepR hq
          have T14 := Lib.hid ht14
          clear hq T13
          have HST2 : Hid (RRr m w14 (.int .i64 0) w14) := ⟨0, rfl, Nat.zero_le _, rfl⟩
          go_wp2_with fail
          go_loopw [19] (fun i wr => RRr m w14 i wr) (fun i _ => m - (intOf i).toNat)
          case atStart => exact HST2.out
          case round =>
            clear HST2
            obtain ⟨j, rfl, hj, rfl⟩ := hrel
            by_cases hjm : j < m
            · have hji : (j : Int) < (m : Int) := by omega
              have RI := Lib.hid (T14.out.i.read (j : Int))
              have RR := Lib.hid (T14.out.r.read (j : Int))
              have KEY : Hid (RRr m wr (.int .i64 ((j : Int) + 1)) wr) := ⟨j + 1, by go_num, by omega, rfl⟩
              obtain ⟨t, et⟩ : ∃ t, t = (DD.read m (d.fail 0 0).start (j : Int)).1 := ⟨_, rfl⟩
              obtain ⟨tc, etc⟩ : ∃ tc, tc = (DD.read m (d.fail 0 0).start (j : Int)).2 := ⟨_, rfl⟩
              rw [← et, ← etc] at RI RR
              clear et etc
              go_wp2_with fail
              refine RI.out.mono ?_
              rintro e w' ⟨rfl, rfl⟩
              go_wp2_with fail
              refine RR.out.mono ?_
              rintro e w' ⟨rfl, rfl⟩
              clear RI RR
              go_wp2_with fail
              go_roundw
              case rel =>
                go_light
                have key := KEY.out
                first | exact key | ((repeat apply Exists.intro); exact ⟨key, rfl⟩)
              case measure => simp [intOf]; omega
            · have hji : ¬ (j : Int) < (m : Int) := by omega
              have GG := Lib.hid (FIN.out _ T14.out.below)
              clear FIN
              go_wp2_with fail
              first
                | exact GG.out
                | (go_ret; exact GG.out)
end Go.Proofs.YthfjaaigncjhlaaGreatDoor
