/- Law 45: JournalOpens. Condition: the arguments are readable; the variable of strconv holds its numbers. -/
import Derived.Test.YthfjaaigncjhlaaDoorZ45C
namespace Go.Proofs.YthfjaaigncjhlaaDoor
open Go.RowKit Go.Blk Go.Jn Go.Dk Go.Mp Go.Rf Go.Shelf Go.Apl Go.Opn

/-- The first sectors, as they read. -/
def rds (n : Nat) (d : DD) (k : Nat) : List (List UInt8) := (List.range k).map (fun i : Nat => (DD.read n d (i : Int)).1)
theorem rds_succ (n : Nat) (d : DD) (k : Nat) : rds n d (k + 1) = rds n d k ++ [(DD.read n d (k : Int)).1] := by
  unfold rds
  rw [List.range_succ, List.map_append]; rfl
theorem rds_len (n : Nat) (d : DD) (k : Nat) : (rds n d k).length = k := by unfold rds; simp
theorem rds_at (n : Nat) (d : DD) (k i : Nat) (h : i < k) : (rds n d k)[i]? = some (DD.read n d (i : Int)).1 := by
  unfold rds
  rw [List.getElem?_map, List.getElem?_range h]; rfl
def RRd (we : World) (jb b bs bm n : Nat) (pv rv : Value) (s : JS) (vo vi : Value) (wr : World) : Prop :=
  ∃ k : Nat, vi = .int .i64 (k : Int) ∧ k ≤ n ∧ PI we wr jb b bs bm n pv rv s ∧ OutAt we wr jb b bs bm pv rv vo (rds n s.d k)
def RR2 (n : Nat) (w0 : World) (vi : Value) (wr : World) : Prop := ∃ k : Nat, vi = .int .i64 (k : Int) ∧ k ≤ n ∧ wr = w0
set_option maxRecDepth 100000 in
set_option maxHeartbeats 400000 in
theorem opens_any (n : Int) (A : Option Addr) (c : Nat) (l : List Op45) (w : World) (hS : SL w 6 encO A l) (hok : ∀ a ∈ l, a.Ok w) (hl : l.length ≤ 9223372036854775807) (hn0 : -9223372036854775808 ≤ n) (hn1 : n ≤ 9223372036854775807) (hT : HasT w) :
    Calls Tryd.prog 3 #[.int .i64 n, .slice A l.length c] w (YesPost w) := by
  obtain ⟨R, eR⟩ : ∃ R, R = YesPost w := ⟨_, rfl⟩
  rw [← eR]
  have FIN : Hid (∀ w', Below w.heap.size w w' → R (.returned (.bool true)) w') := fun w' hb => by rw [eR]; exact ⟨rfl, hb⟩
  have HD := Lib.hid (head45_any w hT)
  have LI := Lib.hid (fun w' (hb : Below w.heap.size w w') => light_any n A c l w' (hS.below hb (Nat.le_refl _)) (fun a ha => by
    have h := hok a ha
    exact ⟨h.k0, h.k1, h.body, h.len, h.sl.below hb (Nat.le_refl _), h.size, h.a0, h.a1, h.w0, h.w1, h.b0, h.b1⟩) hl)
  have HT := Lib.hid hT
  have HS := Lib.hid hS
  have HOK := Lib.hid hok
  clear eR hT hS hok
  go_enter Tryd.func3, Tryd.ntmps3
  go_wp2_with fail
  refine HD.out.mono ?_
  rintro e w1 ⟨rfl, hb1⟩
  have HB1 := Lib.hid hb1
  have LI1 := Lib.hid (LI.out w1 hb1)
  clear HD LI hb1
  go_wp2_with fail
  refine LI1.out.mono ?_
  rintro e w' ⟨lb, rfl, hlb, rfl⟩
  clear LI1
  cases lb with
  | false =>
    have G := Lib.hid (FIN.out _ HB1.out)
    clear FIN
    go_wp2_with fail
    first
      | exact G.out
      | (go_ret; exact G.out)
  | true =>
    obtain ⟨h80, h30, h40⟩ := hlb rfl
    clear hlb
    by_cases hn1' : n < 1
    · have N := Lib.hid (new_none n w1 hn1')
      have O := Lib.hid (open_nil w1)
      have G := Lib.hid (FIN.out _ HB1.out)
      clear FIN
      go_wp2_with fail
      refine N.out.mono ?_
      rintro e w' ⟨rfl, rfl⟩
      go_wp2_with fail
      refine O.out.mono ?_
      rintro e w' ⟨rfl, rfl⟩
      clear N O
      go_wp2_with fail
      first
        | exact G.out
        | (go_ret; exact G.out)
    · obtain ⟨m, rfl⟩ : ∃ m : Nat, n = (m : Int) := ⟨n.toNat, by omega⟩
      have N := Lib.hid (new_any m w1 (by omega) (by omega))
      go_wp2_with fail
      refine N.out.mono ?_
      intro e w2 g1
      obtain ⟨b, bs, bm, rfl, hd, hb, hf, _⟩ := new_fp HB1.out g1
      clear N g1
      by_cases h4 : m < 4
      · have G : Hid (∀ w', Below w2.heap.size w2 w' → R (.returned (.bool true)) w') := fun w' h => FIN.out _ (hb.trans (h.mono hb.size))
        have OP : Hid (Calls Tryd.prog 12 #[.pointer (some ⟨b, 0, none⟩)] w2 fun e w' => Below w2.heap.size w2 w' ∧ e = .returned (.tuple #[.pointer none, .slice none 0 0, .int .i64 1])) := (open_any hd).mono fun e w' h => by
          obtain ⟨h1, ⟨_, h2⟩ | ⟨v, a, r, jb, rv, A, c, h2, _⟩⟩ := h
          · exact ⟨h1, by rw [h2, open_few h4]⟩
          · rw [open_few h4] at h2; cases h2
        clear FIN hd hb hf
        go_wp2_with fail
        refine OP.out.mono ?_
        rintro e w3 ⟨hb, rfl⟩
        have F := Lib.hid (G.out _ hb)
        clear OP G hb
        go_wp2_with fail
        first
          | exact F.out
          | (go_ret; exact F.out)
      · have OP := Lib.hid (open_pi HT.out hb hd hf (found_new (by omega)))
        have G0 := Lib.hid (JGood.new (n := m) (by omega) (by omega))
        clear hd hb hf
        go_wp2_with fail
        refine OP.out.mono ?_
        rintro e w3 ⟨jb, rv, A3, c3, rfl, hp, _, _⟩
        have hplay : ∀ k, JGood m (playP m (⟨DD.new m, (0, 0, 0), 0, [], false⟩, []) (l.take k)).1 (0 + (l.take k).length) ∧ (playP m (⟨DD.new m, (0, 0, 0), 0, [], false⟩, []) (l.take k)).2 = (playP m (⟨DD.new m, (0, 0, 0), 0, [], false⟩, []) (l.take k)).1.recs := fun k =>
          good_play (by omega) (l.take k) ⟨DD.new m, (0, 0, 0), 0, [], false⟩ 0 (by rw [List.length_take]; omega) G0.out
        have PL := Lib.hid (play_any (c := c) l hp HS.out HOK.out h30 h40 (fun k => good_walks (by omega) (hplay k).1) (fun k => by rw [(hplay k).2]; exact good_few (by omega) (hplay k).1))
        have hend := hplay l.length
        rw [List.take_length] at hend
        obtain ⟨P, eP⟩ : ∃ P, P = playP m (⟨DD.new m, (0, 0, 0), 0, [], false⟩, []) l := ⟨_, rfl⟩
        unfold PlPost at PL
        rw [← eP] at hend PL
        have GE := Lib.hid hend.1
        have M4 : Hid (4 ≤ m) := by show 4 ≤ m; omega
        have M5 : Hid (m ≤ 4000) := by show m ≤ 4000; omega
        clear OP hp hplay hend eP G0
        go_wp2_with fail
        refine PL.out.mono ?_
        rintro e w4 ⟨bm4, pv4, rv4, vo, rfl, hp4, _⟩
        have HP4 := Lib.hid hp4
        have HST : Hid (RRd w jb b bs bm4 m pv4 rv4 P.1 (.slice none 0 0) (.int .i64 0) w4) := ⟨0, rfl, Nat.zero_le _, hp4, World.ownsRow_nil _ _ _ _, fun k hk => by cases hk⟩
        clear PL hp4
        go_wp2_with fail
        go_loopw [10, 11] (fun v i wr => RRd w jb b bs bm4 m pv4 rv4 P.1 v i wr) (fun _ i _ => m - (intOf i).toNat)
        case atStart => exact HST.out
        case round =>
          clear HST
          obtain ⟨k, rfl, hk, hp, hoa⟩ := hrel
          by_cases hlt : k < m
          · have hki : (k : Int) < (m : Int) := by omega
            have k0 : (0 : Int) ≤ (k : Int) := by omega
            have HP := Lib.hid hp
            have HOA := Lib.hid hoa
            have RD := Lib.hid (read_any hp.j.disk (k : Int))
            obtain ⟨Av, lv, cv, rfl⟩ := row_is hoa.row
            obtain ⟨i0, hi, hz0, hz1, hz2⟩ := info_parts infoStr
            have HI := Lib.hid hi
            have HZ0 := Lib.hid hz0
            have HZ1 := Lib.hid hz1
            have HZ2 := Lib.hid hz2
            have hbs := hp.e.bl.size
            clear hi hz0 hz1 hz2 hp hoa
            obtain ⟨t, et⟩ : ∃ t, t = (DD.read m P.1.d (k : Int)).1 := ⟨_, rfl⟩
            rw [← et] at RD
            have hol : (rds m P.1.d k).length ≤ 1000000 := by rw [rds_len]; omega
            have ET := Lib.hid et
            clear et
            go_wp2_with fail
            refine RD.out.mono ?_
            rintro e w' ⟨rfl, rfl⟩
            clear RD
            have HW2 := Lib.hid (HOA.out.grow ((Below.refl _ wr).alloc (Nat.le_refl _) (.cells #[.string ⟨t.toArray⟩] 9))).row
            have hbs2 : w.heap.size ≤ (wr.alloc (.cells #[.string ⟨t.toArray⟩] 9)).heap.size := by simp; omega
            go_wp2_with (at_builtin; refine wpList_append_list (ec := encS) rfl (.tmp 54) (.tmp 56) 28 rfl w.heap.size 9 i0 _ 16 Tryd.underlying28 HI.out HZ0.out HZ1.out HZ2.out rfl (by decide) encSlen encSone _ _ _ rfl HW2.out (some ⟨wr.heap.size, 0, none⟩) 1 [⟨t.toArray⟩] rfl (sl_of_cells encSlen (heap_alloc_last _ _) (fun j u hu => by simpa [encS] using hu)) (by have : maxLen = 9223372036854775807 := rfl; simp only [List.length_cons, List.length_nil]; omega) (by simp only [List.length_cons, List.length_nil]; omega) hbs2 ?_)
            intro v3 w3 hown3 hgr3 hb3
            have hr3 : RowT w3 w.heap.size v3 (rds m P.1.d (k + 1)) := by
              unfold RowT
              rw [rds_succ, row_snoc, List.length_append, ← ET.out]
              exact hown3
            obtain ⟨p3, o3⟩ := OutAt.own (HP.out.grow ((Below.refl _ wr).alloc (Nat.le_refl _) (.cells #[.string ⟨t.toArray⟩] 9))) (HOA.out.grow ((Below.refl _ wr).alloc (Nat.le_refl _) (.cells #[.string ⟨t.toArray⟩] 9))) hr3 hgr3 (fun q hq => by
              rcases hb3 with e | e
              · exact .inl (e ▸ hq)
              · rw [e] at hq; cases hq; exact .inr (by simp))
            have KEY : Hid (RRd w jb b bs bm4 m pv4 rv4 P.1 v3 (.int .i64 ((k : Int) + 1)) w3) := ⟨k + 1, by go_num, by omega, p3, o3⟩
            clear hown3 hgr3 hb3 hr3 p3 o3
            go_wp2_with fail
            go_roundw
            case rel =>
              go_light
              have key := KEY.out
              first | exact key | ((repeat apply Exists.intro); exact ⟨key, rfl⟩)
            case measure => simp [intOf]; omega
          · obtain rfl : k = m := by omega
            have HP5 := Lib.hid hp
            have HO5 := Lib.hid hoa
            obtain ⟨Av, lv, cv, rfl⟩ := row_is hoa.row
            have OP := Lib.hid (open_pi HT.out hp.e.bl hp.j.disk hp.e.f (good_open M4.out GE.out))
            have hki : ¬ (k : Int) < (k : Int) := by omega
            clear hp hoa
            go_wp2_with fail
            refine OP.out.mono ?_
            rintro e w6 ⟨jb6, rv6, A6, c6, rfl, hp6, ho6, hb6⟩
            have HP5' := Lib.hid (HP5.out.grow hb6)
            have HO5' := Lib.hid (HO5.out.grow hb6)
            have HP6 := Lib.hid hp6
            have HO6 := Lib.hid ho6
            have OP2 := Lib.hid (open_pi HT.out hp6.e.bl hp6.j.disk hp6.e.f (good_open (s := P.1) M4.out GE.out))
            clear OP hp6 ho6 hb6 HP5 HO5
            go_wp2_with fail
            refine OP2.out.mono ?_
            rintro e w7 ⟨jb7, rv7, A7, c7, rfl, hp7, ho7, hb7⟩
            have HP5 := Lib.hid (HP5'.out.grow hb7)
            have HO5 := Lib.hid (HO5'.out.grow hb7)
            have HPk := Lib.hid (HP6.out.grow hb7)
            have HOk := Lib.hid (HO6.out.grow hb7)
            have HO7 := Lib.hid ho7
            have RR := Lib.hid (records_any HP5.out.j (good_few (s := P.1) M5.out GE.out))
            clear OP2 hp7 ho7 hb7 HP5' HO5' HP6 HO6
            go_wp2_with fail
            refine RR.out.mono ?_
            rintro e w8 ⟨A8, c8, rfl, hr8, hb8⟩
            have SM := Lib.hid (same_rows HOk.out.row hb8 hr8 (Below.refl _ _) (good_few (s := P.1) M5.out GE.out))
            have HB8 := Lib.hid hb8
            clear RR hb8 hr8
            go_wp2_with fail
            refine SM.out.mono ?_
            rintro e w9 ⟨rfl, hb9⟩
            have HB9 := Lib.hid (HB8.out.trans (hb9.mono HB8.out.size))
            have SM2 := Lib.hid (same_rows HOk.out.row HB9.out HO7.out.row HB9.out (good_few (s := P.1) M5.out GE.out))
            clear SM hb9 HB8
            go_wp2_with fail
            refine SM2.out.mono ?_
            rintro e w10 ⟨rfl, hb10⟩
            have HB10 := Lib.hid (HB9.out.trans (hb10.mono HB9.out.size))
            have RR2' := Lib.hid (records_any (HPk.out.grow HB10.out).j (good_few (s := P.1) M5.out GE.out))
            clear SM2 hb10 HB9
            go_wp2_with fail
            refine RR2'.out.mono ?_
            rintro e w11 ⟨A11, c11, rfl, hr11, hb11⟩
            have HB11 := Lib.hid (HB10.out.trans (hb11.mono HB10.out.size))
            have SM := Lib.hid (same_rows hr11 (Below.refl _ _) HOk.out.row HB11.out (good_few (s := P.1) M5.out GE.out))
            clear RR2' hb11 hr11 HB10
            go_wp2_with fail
            refine SM.out.mono ?_
            rintro e w12 ⟨rfl, hb12⟩
            have HB12 := Lib.hid (HB11.out.trans (hb12.mono HB11.out.size))
            have HPZ := Lib.hid (HP5.out.grow HB12.out)
            have HOZ := Lib.hid (HO5.out.grow HB12.out)
            have HST : Hid (RR2 k w12 (.int .i64 0) w12) := ⟨0, rfl, Nat.zero_le _, rfl⟩
            clear SM hb12 HB11 HB12 HP5 HO5 HPk HOk HO7
            go_wp2_with fail
            go_loopw [20] (fun i wr => RR2 k w12 i wr) (fun i _ => k - (intOf i).toNat)
            case atStart => exact HST.out
            case round =>
              clear HST
              obtain ⟨i, rfl, hi, rfl⟩ := hrel
              by_cases hlt : i < k
              · have hii : (i : Int) < (k : Int) := by omega
                have i0' : (0 : Int) ≤ (i : Int) := by omega
                have RD := Lib.hid (read_any HPZ.out.j.disk (i : Int))
                obtain ⟨elv, hsl, _⟩ := row_sl HOZ.out.row
                have hlen : lv = k := by rw [elv, rds_len]
                subst hlen
                obtain ⟨b1, o1, rfl, hc⟩ := hsl.at_ (i := i) (e := tx (DD.read lv P.1.d (i : Int)).1) (by rw [List.getElem?_map, rds_at _ _ _ _ hlt]; rfl)
                have d0 := hc 0 (.string (tx (DD.read lv P.1.d (i : Int)).1)) rfl
                have KEY : Hid (RR2 lv wr (.int .i64 ((i : Int) + 1)) wr) := ⟨i + 1, by go_num, by omega, rfl⟩
                clear hsl elv hc
                obtain ⟨t, et⟩ : ∃ t, t = (DD.read lv P.1.d (i : Int)).1 := ⟨_, rfl⟩
                rw [← et] at RD d0
                unfold tx at d0
                simp only [Nat.mul_one, Nat.add_zero] at d0
                clear et
                go_wp2_with fail
                refine RD.out.mono ?_
                rintro e w' ⟨rfl, rfl⟩
                clear RD
                go_wp2_with fail
                go_roundw
                case rel =>
                  go_light
                  have key := KEY.out
                  first | exact key | ((repeat apply Exists.intro); exact ⟨key, rfl⟩)
                case measure => simp [intOf]; omega
              · have hii : ¬ (i : Int) < (k : Int) := by omega
                have G := Lib.hid (FIN.out _ HPZ.out.e.bl)
                clear FIN
                go_wp2_with fail
                first
                  | exact G.out
                  | (go_ret; exact G.out)
end Go.Proofs.YthfjaaigncjhlaaDoor
