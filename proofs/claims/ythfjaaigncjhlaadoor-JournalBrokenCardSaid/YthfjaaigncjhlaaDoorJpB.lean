/- Law 45: JournalBroken. Condition: the arguments are readable; the variable of strconv holds its numbers. -/
import Derived.Test.YthfjaaigncjhlaaDoorJpD
namespace Go.Proofs.YthfjaaigncjhlaaDoor
open Go.RowKit Go.Blk Go.Jn Go.Dk Go.Mp Go.Rf Go.Shelf Go.Apl Go.Opn

set_option maxRecDepth 100000 in
set_option maxHeartbeats 1000000 in
theorem broken_law (n : Int) (A : Option Addr) (c : Nat) (l : List Op45) (x y : Int) (w : World) (hS : SL w 6 encO A l) (hok : ∀ a ∈ l, a.Ok w) (hl : l.length ≤ 9223372036854775807) (hn0 : -9223372036854775808 ≤ n) (hn1 : n ≤ 9223372036854775807) (hx0 : -9223372036854775808 ≤ x) (hx1 : x ≤ 9223372036854775807) (hT : HasT w) :
    Calls Tryd.prog 7 #[.int .i64 n, .slice A l.length c, .int .i64 x, .int .i64 y] w (YesPost w) := by
  obtain ⟨R, eR⟩ : ∃ R, R = YesPost w := ⟨_, rfl⟩
  rw [← eR]
  have FIN : Hid (∀ w', Below w.heap.size w w' → R (.returned (.bool true)) w') := fun w' hb => by rw [eR]; exact ⟨rfl, hb⟩
  have HD := Lib.hid (head45_any w hT)
  have LI := Lib.hid (fun w' (hb : Below w.heap.size w w') => light_any n A c l w' (hS.below hb (Nat.le_refl _)) (fun a ha => by
    have h := hok a ha
    exact ⟨h.k0, h.k1, h.body, h.len, h.sl.below hb (Nat.le_refl _), h.size, h.a0, h.a1, h.w0, h.w1, h.b0, h.b1⟩) hl)
  have HT := Lib.hid hT
  have HS := Lib.hid hS
  have HOK := Lib.hid hok
  clear eR hT hS hok
  go_enter Tryd.func7, Tryd.ntmps7
  go_wp2_with fail
  refine HD.out.mono ?_
  rintro e w1 ⟨rfl, hb1⟩
  have HB1 := Lib.hid hb1
  have LI1 := Lib.hid (LI.out w1 hb1)
  clear HD LI hb1
  go_wp2_with fail
  refine LI1.out.mono ?_
  rintro e w' ⟨lb, rfl, hlb, rfl⟩
  clear LI1
  cases lb with
  | false =>
    have G := Lib.hid (FIN.out _ HB1.out)
    clear FIN
    go_wp2_with fail
    first
      | exact G.out
      | (go_ret; exact G.out)
  | true =>
    obtain ⟨h80, h30, h40⟩ := hlb rfl
    clear hlb
    by_cases hn1' : n < 1
    · have N := Lib.hid (new_none n w1 hn1')
      have O := Lib.hid (open_nil w1)
      have G := Lib.hid (FIN.out _ HB1.out)
      clear FIN
      go_wp2_with fail
      refine N.out.mono ?_
      rintro e w' ⟨rfl, rfl⟩
      go_wp2_with fail
      refine O.out.mono ?_
      rintro e w' ⟨rfl, rfl⟩
      clear N O
      go_wp2_with fail
      first
        | exact G.out
        | (go_ret; exact G.out)
    · obtain ⟨m, rfl⟩ : ∃ m : Nat, n = (m : Int) := ⟨n.toNat, by omega⟩
      have N := Lib.hid (new_any m w1 (by omega) (by omega))
      go_wp2_with fail
      refine N.out.mono ?_
      intro e w2 g1
      obtain ⟨b, bs, bm, rfl, hd, hb, hf, _⟩ := new_fp HB1.out g1
      clear N g1
      by_cases h4 : m < 4
      · have G : Hid (∀ w', Below w2.heap.size w2 w' → R (.returned (.bool true)) w') := fun w' h => FIN.out _ (hb.trans (h.mono hb.size))
        have OP : Hid (Calls Tryd.prog 12 #[.pointer (some ⟨b, 0, none⟩)] w2 fun e w' => Below w2.heap.size w2 w' ∧ e = .returned (.tuple #[.pointer none, .slice none 0 0, .int .i64 1])) := (open_any hd).mono fun e w' h => by
          obtain ⟨h1, ⟨_, h2⟩ | ⟨v, a, r, jb, rv, A, c, h2, _⟩⟩ := h
          · exact ⟨h1, by rw [h2, open_few h4]⟩
          · rw [open_few h4] at h2; cases h2
        clear FIN hd hb hf
        go_wp2_with fail
        refine OP.out.mono ?_
        rintro e w3 ⟨hb, rfl⟩
        have F := Lib.hid (G.out _ hb)
        clear OP G hb
        go_wp2_with fail
        first
          | exact F.out
          | (go_ret; exact F.out)
      · have OP := Lib.hid (open_pi HT.out hb hd hf (found_new (by omega)))
        have G0 := Lib.hid (JGood.new (n := m) (by omega) (by omega))
        clear hd hb hf
        go_wp2_with fail
        refine OP.out.mono ?_
        rintro e w3 ⟨jb, rv, A3, c3, rfl, hp, _, _⟩
        have hplay : ∀ k, JGood m (playP m (⟨DD.new m, (0, 0, 0), 0, [], false⟩, []) (l.take k)).1 (0 + (l.take k).length) ∧ (playP m (⟨DD.new m, (0, 0, 0), 0, [], false⟩, []) (l.take k)).2 = (playP m (⟨DD.new m, (0, 0, 0), 0, [], false⟩, []) (l.take k)).1.recs := fun k =>
          good_play (by omega) (l.take k) ⟨DD.new m, (0, 0, 0), 0, [], false⟩ 0 (by rw [List.length_take]; omega) G0.out
        have PL := Lib.hid (play_any (c := c) l hp HS.out HOK.out h30 h40 (fun k => good_walks (by omega) (hplay k).1) (fun k => by rw [(hplay k).2]; exact good_few (by omega) (hplay k).1))
        have hend := hplay l.length
        rw [List.take_length] at hend
        obtain ⟨P, eP⟩ : ∃ P, P = playP m (⟨DD.new m, (0, 0, 0), 0, [], false⟩, []) l := ⟨_, rfl⟩
        unfold PlPost at PL
        rw [← eP] at hend PL
        have GE := Lib.hid hend.1
        have EO := Lib.hid hend.2
        have M4 : Hid (4 ≤ m) := by show 4 ≤ m; omega
        have M5 : Hid (m ≤ 4000) := by show m ≤ 4000; omega
        clear OP hp hplay hend eP G0
        go_wp2_with fail
        refine PL.out.mono ?_
        rintro e w4 ⟨bm4, pv4, rv4, vo, rfl, hp4, ho4⟩
        obtain ⟨Av, lv, cv, rfl⟩ := row_is ho4.row
        have HP4 := Lib.hid hp4
        have HO4 := Lib.hid ho4
        have FL := Lib.hid (fail_any hp4.j.disk x y hx0 hx1)
        have OFF := Lib.hid (fail_off GE.out.on x y)
        obtain ⟨s5, es5⟩ : ∃ s5 : JS, s5 = { P.1 with d := P.1.d.fail x y } := ⟨_, rfl⟩
        obtain ⟨s6, es6⟩ : ∃ s6 : JS, s6 = { s5 with broken := true } := ⟨_, rfl⟩
        obtain ⟨s7, es7⟩ : ∃ s7 : JS, s7 = { s6 with d := s6.d.start } := ⟨_, rfl⟩
        have CO : Hid (s5.compact m [] = (s6, 21)) := by
          show _ = _
          rw [es6, es5]
          exact compact_off GE.out.brk OFF.out.1 (by have := GE.out.num; show P.1.v.1 ≠ _; omega)
        have E5 : Hid (s5.d.pend = [] ∧ s5.recs = P.1.recs) := by rw [es5]; exact ⟨OFF.out.2, rfl⟩
        have E6 : Hid (openD m s6.d = (21, none)) := by show _ = _; rw [es6, es5]; exact open_off OFF.out.1
        have E7 : Hid (s7.broken = true ∧ s7.d.pend = [] ∧ s7.recs = P.1.recs ∧ openD m s7.d = (0, some (P.1.v, P.1.a, P.1.recs))) := by
          rw [es7, es6, es5]; exact ⟨rfl, OFF.out.2, rfl, good_again M4.out GE.out x y⟩
        have ES5 := Lib.hid es5
        have ES7 := Lib.hid es7
        have FEW := Lib.hid (good_few M5.out GE.out)
        clear PL hp4 ho4 es5 es6 es7
        go_wp2_with fail
        refine FL.out.mono ?_
        intro e w5 hq
        obtain ⟨rfl, bm5, pv5, hp5, kk5, ff5⟩ := HP4.out.disk hq
        rw [← ES5.out] at hp5
        have HP5 := Lib.hid hp5
        have HO5 := Lib.hid (HO4.out.next kk5 ff5)
        have CM : Hid (Calls Tryd.prog 18 #[.pointer (some ⟨jb, 0, none⟩), .slice none 0 0] w5 (JPost w5 jb b bs bm5 m pv5 rv4 (s6, 21))) := by
          rw [← CO.out]
          exact compact_any (c := 0) (A := none) [] hp5.j (fun _ h => absurd rfl h) (by rw [E5.out.1]; exact Nat.zero_le _) SL.nil (fun _ _ => SL.nil) (Nat.zero_le _) hp5.e
        clear FL hq hp5 kk5 ff5 HP4 HO4
        go_wp2_with fail
        refine CM.out.mono ?_
        intro e w6 hj
        obtain ⟨rfl, bm6, pv6, rv6, hp6, kk6, ff6⟩ := HP5.out.next hj
        have HP6 := Lib.hid hp6
        have HO6 := Lib.hid (HO5.out.next kk6 ff6)
        have OP : Hid (Calls Tryd.prog 12 #[.pointer (some ⟨b, 0, none⟩)] w6 fun e w' => Below w6.heap.size w6 w' ∧ e = .returned (.tuple #[.pointer none, .slice none 0 0, .int .i64 21])) := (open_any hp6.j.disk).mono fun e w' h => by
          obtain ⟨h1, ⟨_, h2⟩ | ⟨v, a, r, jb, rv, A, c, h2, _⟩⟩ := h
          · exact ⟨h1, by rw [h2, E6.out]⟩
          · rw [E6.out] at h2; cases h2
        clear CM hj hp6 kk6 ff6 HP5 HO5
        go_wp2_with fail
        refine OP.out.mono ?_
        rintro e w7 ⟨hb7, rfl⟩
        have HP7 := Lib.hid (HP6.out.grow hb7)
        have HO7 := Lib.hid (HO6.out.grow hb7)
        have ST := Lib.hid (dk_start HP7.out.j.disk)
        clear OP hb7 HP6 HO6
        go_wp2_with fail
        refine ST.out.mono ?_
        intro e w8 hq
        obtain ⟨rfl, bm8, pv8, hp8, kk8, ff8⟩ := HP7.out.disk hq
        rw [← ES7.out] at hp8
        have HP8 := Lib.hid hp8
        have HO8 := Lib.hid (HO7.out.next kk8 ff8)
        have AP : Hid (Calls Tryd.prog 17 #[.pointer (some ⟨jb, 0, none⟩), .string ⟨#[97]⟩] w8 (JPost w8 jb b bs bm8 m pv8 rv6 (s7, 13))) := by
          rw [← broken_append (n := m) E7.out.1 [97]]
          exact append_any ⟨#[97]⟩ hp8.j (fun h => by rw [E7.out.1] at h; cases h) (by rw [E7.out.2.1]; exact Nat.zero_le _) (by rw [E7.out.2.2.1]; exact FEW.out) (by decide) hp8.e
        clear ST hq hp8 kk8 ff8 HP7 HO7
        go_wp2_with fail
        refine AP.out.mono ?_
        intro e w9 hj
        obtain ⟨rfl, bm9, pv9, rv9, hp9, kk9, ff9⟩ := HP8.out.next hj
        have HP9 := Lib.hid hp9
        have HO9 := Lib.hid (HO8.out.next kk9 ff9)
        have CM : Hid (Calls Tryd.prog 18 #[.pointer (some ⟨jb, 0, none⟩), .slice none 0 0] w9 (JPost w9 jb b bs bm9 m pv9 rv9 (s7, 13))) := by
          rw [← broken_compact (n := m) E7.out.1 []]
          exact compact_any (c := 0) (A := none) [] hp9.j (fun _ h => absurd rfl h) (by rw [E7.out.2.1]; exact Nat.zero_le _) SL.nil (fun _ _ => SL.nil) (Nat.zero_le _) hp9.e
        clear AP hj hp9 kk9 ff9 HP8 HO8
        go_wp2_with fail
        refine CM.out.mono ?_
        intro e w10 hj
        obtain ⟨rfl, bm10, pv10, rv10, hp10, kk10, ff10⟩ := HP9.out.next hj
        have HP10 := Lib.hid hp10
        have HO10 := Lib.hid (HO9.out.next kk10 ff10)
        have OP := Lib.hid (open_pi HT.out hp10.e.bl hp10.j.disk hp10.e.f E7.out.2.2.2)
        clear CM hj hp10 kk10 ff10 HP9 HO9
        go_wp2_with fail
        refine OP.out.mono ?_
        rintro e w11 ⟨jb11, rv11, A11, c11, rfl, hp11, ho11, hb11⟩
        have HP11 := Lib.hid (HP10.out.grow hb11)
        have HO11 := Lib.hid (HO10.out.grow hb11)
        have HG11 := Lib.hid ho11.row
        have RR := Lib.hid (records_any HP11.out.j (by rw [E7.out.2.2.1]; exact FEW.out))
        rw [E7.out.2.2.1] at RR
        clear OP hp11 ho11 hb11 HP10 HO10
        go_wp2_with fail
        refine RR.out.mono ?_
        rintro e w12 ⟨A12, c12, rfl, hr12, hb12⟩
        have hvo := HO11.out.row
        rw [EO.out] at hvo
        have HVO := Lib.hid hvo
        have HB12 := Lib.hid hb12
        have SM := Lib.hid (same_rows hr12 (Below.refl _ _) hvo hb12 FEW.out)
        clear RR hr12 hb12 hvo
        go_wp2_with fail
        refine SM.out.mono ?_
        rintro e w13 ⟨rfl, hb13⟩
        have HB13 := Lib.hid (HB12.out.trans (hb13.mono HB12.out.size))
        clear SM hb13 HB12
        have SM := Lib.hid (same_rows HG11.out HB13.out HVO.out HB13.out FEW.out)
        go_wp2_with fail
        refine SM.out.mono ?_
        rintro e w14 ⟨rfl, hb14⟩
        have G := Lib.hid (FIN.out _ (HP11.out.e.bl.trans ((HB13.out.trans (hb14.mono HB13.out.size)).mono HP11.out.e.bl.size)))
        clear SM hb14 FIN
        go_wp2_with fail
        first
          | exact G.out
          | (go_ret; exact G.out)
end Go.Proofs.YthfjaaigncjhlaaDoor
