/- Law 45: JournalForeign. Condition: the argument is readable; the variable of strconv holds its numbers. -/
import Derived.Test.YthfjaaigncjhlaaDoorJoR2
import Derived.Test.YthfjaaigncjhlaaDoorJpA
namespace Go.Jn
open Go Go.Dk
theorem open_code {n : Nat} {d : DD} (hn : 4 ≤ n) (hon : d.on = true) : openD n d = (20, none) ∨ ∃ v a r, openD n d = (0, some (v, a, r)) := by
  unfold openD
  rw [if_neg (by rw [hon]; decide), if_neg (by omega)]
  split
  · exact .inl rfl
  · split
    · exact .inl rfl
    · exact .inr ⟨_, _, _, rfl⟩
theorem foreign_compact {n : Nat} {d : DD} {v : Nat × Nat × Nat} {a : Nat} {r : List (List UInt8)} (hok : d.Ok n) (harm : d.armed = false) (hf : d.pend.length < 900000) (ho : openD n d = (0, some (v, a, r))) :
    ((JS.compact n ⟨d, v, a, r, false⟩ r).2 = 0 ∨ (JS.compact n ⟨d, v, a, r, false⟩ r).2 = 19) ∧ ∃ v' a', openD n (JS.compact n ⟨d, v, a, r, false⟩ r).1.d = (0, some (v', a', r)) := by
  obtain ⟨_, hon, hn, hfd⟩ := found_open ho
  obtain ⟨l1, l2⟩ := found_len (eff_len hok) hfd
  obtain ⟨p1, p2⟩ := pres_range hfd.pres
  have pa := pres_at hfd.pres
  have hfl := framesL_len r l2
  unfold JS.compact
  dsimp only
  rw [if_neg (by decide), if_neg (by rintro ⟨b, h1, h2⟩; have := l2 b h1; omega)]
  split
  · exact ⟨.inr rfl, _, _, ho⟩
  · rename_i hr
    have hn2 := hok.n2
    have hhf : v.2.1 = 0 ∨ v.2.1 = 1 := by omega
    have hb : 2 + (1 - v.2.1) * ((n - 2) / 2) + (0 + (framesL r).length + 31) / 32 ≤ n := by
      rcases hhf with e | e <;> rw [e] <;> simp <;> omega
    rw [changeD_flush (a := a) (num := v.1) hok harm hon hn (by omega) hb hf]
    have sp := compact_spec (d := flush d) (v := v) (a := a) (recs := r) (l := r) (DD.Ok.flush hok) hon rfl hn hfd (by have := pres_num hfd.pres; omega) l2 (by omega)
    obtain ⟨k1, ⟨k2, k3, k4, _, k6, _⟩ | ⟨_, k3, _⟩⟩ := sp
    · rw [if_pos k2]
      exact ⟨.inl rfl, _, _, open_found k3 hn (by rw [eff_nil k4]; exact k6)⟩
    · have : d.armed = true := k3
      rw [harm] at this; cases this
end Go.Jn
namespace Go.Proofs.YthfjaaigncjhlaaDoor
open Go.RowKit Go.Blk Go.Jn Go.Dk Go.Mp Go.Rf Go.Shelf Go.Apl Go.Opn

theorem cellsS1 : Tryd.prog.cellsOf 9 = 1 := by kernel_rfl
theorem text_of {H : Type} {enc : TypeId × Value → H} {w : World} {base : Nat} {spare : Nat → Bool} {held : Bool} {fuel : Nat} {cs : List Value} {x : DataW H × List MemPlace} (h : DataW.trod enc Tryd.prog w base spare held fuel 9 cs = some x) :
    ∃ a : ByteArray, a.size ≤ 9223372036854775807 ∧ ∀ (p : Nat) u, (encS a)[p]? = some u → cs[p]? = some u := by
  obtain ⟨n, rfl, _, hs⟩ := DataW.trod_string Tryd.underlying9 h
  unfold maxLen at hs
  refine ⟨n, hs, fun p u hu => ?_⟩
  match p, hu with
  | 0, hu => exact hu
  | p + 1, hu => simp [encS] at hu
instance : Inhabited ByteArray := ⟨⟨#[]⟩⟩
set_option maxRecDepth 100000 in
theorem open_texts {H : Type} {enc : TypeId × Value → H} {w : World} {base : Nat} {spare : Nat → Bool} {held : Bool} {v : Value} {d : DataW H} {ps : List MemPlace} {r : Reach} {b0 : Nat} (hv : Value.okWide Tryd.prog w r b0 28 v) (h : DataW.Trod enc Tryd.prog w base spare held 28 v d ps) :
    ∃ (A : Option Addr) (c : Nat) (l : List ByteArray), v = .slice A l.length c ∧ l.length ≤ 9223372036854775807 ∧ l.length ≤ c ∧ SL w 1 encS A l ∧ ∀ a ∈ l, a.size ≤ 9223372036854775807 := by
  obtain ⟨f, x, hf⟩ := one_of Tryd.underlying28 hv h
  have := open_list (α := ByteArray) (ec := encS) (K := fun a => a.size ≤ 9223372036854775807) Tryd.underlying28 (by rw [cellsS1]; decide) (fun f cs x h => text_of h) hf
  rw [cellsS1] at this
  exact this
def RFo (we : World) (b bs n : Nat) (vi : Value) (wr : World) : Prop :=
  ∃ (k bm : Nat) (pv : Value) (d : DD), vi = .int .i64 (k : Int) ∧ k ≤ n ∧ Below we.heap.size we wr ∧ DiskAt wr b bs bm pv d n ∧ (∀ j, Fp b bs bm pv j → we.heap.size ≤ j) ∧ d.on = true ∧ d.armed = false ∧ d.pend.length = k
set_option maxRecDepth 100000 in
set_option maxHeartbeats 1000000 in
theorem foreign_law (A : Option Addr) (c : Nat) (l : List ByteArray) (w : World) (hS : SL w 1 encS A l) (hz : ∀ a ∈ l, a.size ≤ 9223372036854775807) (hl : l.length ≤ 9223372036854775807) (hT : HasT w) :
    Calls Tryd.prog 5 #[.slice A l.length c] w (YesPost w) := by
  obtain ⟨R, eR⟩ : ∃ R, R = YesPost w := ⟨_, rfl⟩
  rw [← eR]
  have FIN : Hid (∀ w', Below w.heap.size w w' → R (.returned (.bool true)) w') := fun w' hb => by rw [eR]; exact ⟨rfl, hb⟩
  have HD := Lib.hid (head45_any w hT)
  have HT := Lib.hid hT
  have HS := Lib.hid hS
  have HZ := Lib.hid hz
  obtain ⟨n, en⟩ : ∃ n, n = l.length := ⟨_, rfl⟩
  have EN := Lib.hid en
  rw [← en] at hl ⊢
  clear eR hT hS hz en
  go_enter Tryd.func5, Tryd.ntmps5
  go_wp2_with fail
  refine HD.out.mono ?_
  rintro e w1 ⟨rfl, hb1⟩
  have HB1 := Lib.hid hb1
  clear HD hb1
  by_cases h4 : n < 4
  · have g4 : (n : Int) < 4 := by omega
    have G := Lib.hid (FIN.out _ HB1.out)
    clear FIN
    go_wp2_with fail
    first
      | exact G.out
      | (go_ret; exact G.out)
  · have g4 : ¬ (n : Int) < 4 := by omega
    by_cases h80 : 80 < n
    · have g80 : (80 : Int) < (n : Int) := by omega
      have G := Lib.hid (FIN.out _ HB1.out)
      clear FIN
      go_wp2_with fail
      first
        | exact G.out
        | (go_ret; exact G.out)
    · have g80 : ¬ (80 : Int) < (n : Int) := by omega
      have N := Lib.hid (new_any n w1 (by omega) (by omega))
      go_wp2_with fail
      refine N.out.mono ?_
      intro e w2 g1
      obtain ⟨b, bs, bm, rfl, hd, hb, hf, _⟩ := new_fp HB1.out g1
      have HST : Hid (RFo w b bs n (.int .i64 0) w2) := ⟨0, bm, _, _, rfl, Nat.zero_le _, hb, hd, hf, rfl, rfl, rfl⟩
      clear N g1 hd hb hf
      go_wp2_with fail
      go_loopw [5] (fun i wr => RFo w b bs n i wr) (fun i _ => n - (intOf i).toNat)
      case atStart => exact HST.out
      case round =>
        clear HST
        obtain ⟨k, bm1, pv1, d, rfl, hk, hb, hd, hf, hon, harm, hp⟩ := hrel
        by_cases hlt : k < n
        · have hki : (k : Int) < (n : Int) := by omega
          have k0 : (0 : Int) ≤ (k : Int) := by omega
          obtain ⟨x, hx⟩ : ∃ x, l[k]? = some x := ⟨_, List.getElem?_eq_getElem (by have := EN.out; omega)⟩
          have SB : Hid (∀ w', Below w.heap.size w w' → ∃ b1 o1, A = some ⟨b1, o1, none⟩ ∧ w'.cell? ⟨b1, o1 + k, none⟩ = some (.string x)) := fun w' hb => by
            obtain ⟨b1, o1, e1, hc1⟩ := (HS.out.below hb (Nat.le_refl _)).at_ hx
            have := hc1 0 (.string x) rfl
            simp only [Nat.mul_one, Nat.add_zero] at this
            exact ⟨b1, o1, e1, this⟩
          obtain ⟨b1, o1, rfl, d0⟩ := SB.out wr hb
          have HXZ := Lib.hid (HZ.out x (List.mem_of_getElem? hx))
          have HB := Lib.hid hb
          have HDK := Lib.hid hd
          have HF := Lib.hid hf
          have HON := Lib.hid (And.intro hon (And.intro harm hp))
          clear hx hb hd hf hon harm hp
          by_cases h1000 : 1000 < x.size
          · have t1 : (1000 : Int) < (x.size : Int) := by omega
            have G := Lib.hid (FIN.out _ HB.out)
            clear FIN
            go_wp2_with fail
            first
              | exact G.out
              | (go_ret; exact G.out)
          · have t1 : ¬ (1000 : Int) < (x.size : Int) := by omega
            have FI := Lib.hid (fill_any x wr HXZ.out)
            have hwr : DD.write n d (k : Int) (fillB x).data.toList = (d.push k (fillB x).data.toList, 0) := write_un HON.out.2.1 HON.out.1 hlt (by have := fillB_size x; simpa using this)
            have WR := write_any2 HDK.out (k : Int) (fillB x) (by have := HON.out.2.2; omega)
            rw [hwr] at WR
            obtain ⟨d2, ed2⟩ : ∃ d2, d2 = d.push k (fillB x).data.toList := ⟨_, rfl⟩
            have HON2 : Hid (d2.on = true ∧ d2.armed = false ∧ d2.pend.length = k + 1) := by
              rw [ed2]
              refine ⟨HON.out.1, HON.out.2.1, ?_⟩
              unfold DD.push
              show (d.pend ++ [_]).length = _
              rw [List.length_append, HON.out.2.2]; rfl
            rw [← ed2] at WR
            obtain ⟨fx, efx⟩ : ∃ fx, fx = fillB x := ⟨_, rfl⟩
            rw [← efx] at WR FI
            have WRH := Lib.hid WR
            clear hwr WR ed2 efx
            go_wp2_with fail
            refine FI.out.mono ?_
            rintro e w' ⟨rfl, rfl⟩
            clear FI
            go_wp2_with fail
            refine WRH.out.mono ?_
            rintro e w3 ⟨rfl, bm3, pv3, hd3, hk3, hb3, hv3, _⟩
            have hs := HB.out.size
            have hB3 : Below w.heap.size w w3 := HB.out.trans (hk3.below (fun j h => HF.out j h) hs)
            have KEY : Hid (RFo w b bs n (.int .i64 ((k : Int) + 1)) w3) := by
              refine ⟨k + 1, bm3, pv3, d2, by go_num, by omega, hB3, hd3, ?_, HON2.out⟩
              rintro j (rfl | rfl | rfl | e)
              · exact HF.out _ (.inl rfl)
              · exact HF.out _ (.inr (.inl rfl))
              · rcases hb3 with rfl | h
                · exact HF.out _ (.inr (.inr (.inl rfl)))
                · omega
              · rcases hv3 j e with h | h
                · exact HF.out _ (.inr (.inr (.inr h)))
                · omega
            obtain ⟨b4, o4, e4, d0⟩ := SB.out w3 hB3
            cases e4
            clear WRH hd3 hk3 hb3 hv3 hB3
            go_wp2_with fail
            go_roundw
            case rel =>
              go_light
              have key := KEY.out
              first | exact key | ((repeat apply Exists.intro); exact ⟨key, rfl⟩)
            case measure => simp [intOf]; omega
        · obtain rfl : k = n := by omega
          have hki : ¬ (k : Int) < (k : Int) := by omega
          have HB := Lib.hid hb
          have HON := Lib.hid (And.intro hon (And.intro harm hp))
          rcases open_code (n := k) (d := d) (by omega) hon with ho | ⟨v, a, r, ho⟩
          · have OP : Hid (Calls Tryd.prog 12 #[.pointer (some ⟨b, 0, none⟩)] wr fun e w' => Below wr.heap.size wr w' ∧ e = .returned (.tuple #[.pointer none, .slice none 0 0, .int .i64 20])) := (open_any hd).mono fun e w' h => by
              obtain ⟨h1, ⟨_, h2⟩ | ⟨v, a, r, jb, rv, A, c, h2, _⟩⟩ := h
              · exact ⟨h1, by rw [h2, ho]⟩
              · rw [ho] at h2; cases h2
            clear hb hd hf hon harm hp ho
            go_wp2_with fail
            refine OP.out.mono ?_
            rintro e w3 ⟨hb3, rfl⟩
            have G := Lib.hid (FIN.out _ (HB.out.trans (hb3.mono HB.out.size)))
            clear FIN OP hb3
            go_wp2_with fail
            first
              | exact G.out
              | (go_ret; exact G.out)
          · have OP := Lib.hid (open_pi HT.out hb hd hf ho)
            have FC := foreign_compact hd.ok harm (by omega) ho
            have FEW : Hid (r.length ≤ 1000000) := by
              have hfo := found_open ho
              have h1 := (found_len (eff_len hd.ok) hfo.2.2.2).1
              have h2 := (pres_range hfo.2.2.2.pres).2
              have h3 := roomL_ge r
              show _ ≤ _
              omega
            obtain ⟨q, eq⟩ : ∃ q, q = JS.compact k ⟨d, v, a, r, false⟩ r := ⟨_, rfl⟩
            rw [← eq] at FC
            obtain ⟨fc, v3, a3, ho3⟩ := FC
            have HO3 := Lib.hid ho3
            have EQ := Lib.hid eq
            clear hb hd hf hon harm hp ho ho3 eq
            go_wp2_with fail
            refine OP.out.mono ?_
            rintro e w3 ⟨jb, rv, A3, c3, rfl, hp3, ho3, hb3⟩
            have HP3 := Lib.hid hp3
            have HR3 := Lib.hid ho3
            obtain ⟨_, sl3, _⟩ := row_sl ho3.row
            have CM := compact_any (c := c3) (A := A3) (r.map tx) hp3.j (fun _ _ => HON.out.1) (by show d.pend.length ≤ _; have := HON.out.2.2; omega) sl3 (fun w' hk => (row_sl ((ho3.row).keep fun j e => hk.block j (ho3.lt e).2 (ho3.ne j e))).2.1) (by rw [List.length_map]; have := FEW.out; omega) hp3.e
            rw [List.length_map, recsOf_map, ← EQ.out] at CM
            have CMH := Lib.hid CM
            clear OP hp3 ho3 hb3 sl3 CM
            go_wp2_with fail
            refine CMH.out.mono ?_
            intro e w5 hj
            obtain ⟨rfl, bm5, pv5, rv5, hp5, kk5, ff5⟩ := HP3.out.next (s' := q.1) (c := q.2) hj
            have HP5 := Lib.hid hp5
            have HR5 := Lib.hid (HR3.out.next kk5 ff5)
            have OP := Lib.hid (open_pi HT.out hp5.e.bl hp5.j.disk hp5.e.f HO3.out)
            clear CMH hj hp5 kk5 ff5 HP3 HR3
            go_wp2_with fail
            refine OP.out.mono ?_
            rintro e w6 ⟨jb6, rv6, A6, c6, rfl, hp6, ho6, hb6⟩
            have HP6 := Lib.hid hp6
            have SM := Lib.hid (same_rows (HR5.out.grow hb6).row (Below.refl _ _) ho6.row (Below.refl _ _) FEW.out)
            clear OP hp6 ho6 hb6 HP5 HR5
            obtain ⟨qs, qc⟩ := q
            dsimp only at fc
            rcases fc with rfl | rfl
            · go_wp2_with fail
              refine SM.out.mono ?_
              rintro e w7 ⟨rfl, hb7⟩
              have G := Lib.hid (FIN.out _ (HP6.out.e.bl.trans (hb7.mono HP6.out.e.bl.size)))
              clear FIN SM hb7
              go_wp2_with fail
              first
                | exact G.out
                | (go_ret; exact G.out)
            · go_wp2_with fail
              refine SM.out.mono ?_
              rintro e w7 ⟨rfl, hb7⟩
              have G := Lib.hid (FIN.out _ (HP6.out.e.bl.trans (hb7.mono HP6.out.e.bl.size)))
              clear FIN SM hb7
              go_wp2_with fail
              first
                | exact G.out
                | (go_ret; exact G.out)
end Go.Proofs.YthfjaaigncjhlaaDoor
