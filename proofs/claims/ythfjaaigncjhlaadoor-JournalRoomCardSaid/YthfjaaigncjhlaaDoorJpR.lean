/- Law 45: JournalRoom. Condition: the arguments are readable; the variable of strconv holds its numbers. -/
import Derived.Test.YthfjaaigncjhlaaDoorJpA
import Derived.Test.YthfjaaigncjhlaaDoorJoR2
namespace Go.Proofs.YthfjaaigncjhlaaDoor
open Go.RowKit Go.Blk Go.Jn Go.Dk Go.Mp Go.Rf Go.Shelf Go.Apl Go.Opn

def RRo (we : World) (jb b bs n : Nat) (l : List Op45) (vi : Value) (wr : World) : Prop :=
  ∃ (k bm : Nat) (pv rv : Value) (s : JS), vi = .int .i64 (k : Int) ∧ k ≤ l.length ∧ JGood n s k ∧ PI we wr jb b bs bm n pv rv s
def RLong (l : List (List UInt8)) (w0 : World) (vl vi : Value) (wr : World) : Prop := ∃ k : Nat, vi = .int .i64 (k : Int) ∧ k ≤ l.length ∧ vl = .bool ((l.take k).any (fun x => decide (2000 < x.length))) ∧ wr = w0
theorem any_take {l : List (List UInt8)} {k : Nat} {x : List UInt8} (h : l[k]? = some x) (p : List UInt8 → Bool) : (l.take (k + 1)).any p = ((l.take k).any p || p x) := by
  rw [List.take_add_one, h, List.any_append]; simp
set_option maxRecDepth 100000 in
set_option maxHeartbeats 1000000 in
theorem room_law (n : Int) (A : Option Addr) (c : Nat) (l : List Op45) (w : World) (hS : SL w 6 encO A l) (hok : ∀ a ∈ l, a.Ok w) (hl : l.length ≤ 9223372036854775807) (hn0 : -9223372036854775808 ≤ n) (hn1 : n ≤ 9223372036854775807) (hT : HasT w) :
    Calls Tryd.prog 4 #[.int .i64 n, .slice A l.length c] w (YesPost w) := by
  obtain ⟨R, eR⟩ : ∃ R, R = YesPost w := ⟨_, rfl⟩
  rw [← eR]
  have FIN : Hid (∀ w', Below w.heap.size w w' → R (.returned (.bool true)) w') := fun w' hb => by rw [eR]; exact ⟨rfl, hb⟩
  have HD := Lib.hid (head45_any w hT)
  have LI := Lib.hid (fun w' (hb : Below w.heap.size w w') => light_any n A c l w' (hS.below hb (Nat.le_refl _)) (fun a ha => by
    have h := hok a ha
    exact ⟨h.k0, h.k1, h.body, h.len, h.sl.below hb (Nat.le_refl _), h.size, h.a0, h.a1, h.w0, h.w1, h.b0, h.b1⟩) hl)
  have HT := Lib.hid hT
  have HS := Lib.hid hS
  have HOK := Lib.hid hok
  clear eR hT hS hok
  go_enter Tryd.func4, Tryd.ntmps4
  go_wp2_with fail
  refine HD.out.mono ?_
  rintro e w1 ⟨rfl, hb1⟩
  have HB1 := Lib.hid hb1
  have LI1 := Lib.hid (LI.out w1 hb1)
  clear HD LI hb1
  go_wp2_with fail
  refine LI1.out.mono ?_
  rintro e w' ⟨lb, rfl, hlb, rfl⟩
  clear LI1
  cases lb with
  | false =>
    have G := Lib.hid (FIN.out _ HB1.out)
    clear FIN
    go_wp2_with fail
    first
      | exact G.out
      | (go_ret; exact G.out)
  | true =>
    obtain ⟨h80, h30, h40⟩ := hlb rfl
    clear hlb
    by_cases hn1' : n < 1
    · have N := Lib.hid (new_none n w1 hn1')
      have O := Lib.hid (open_nil w1)
      have G := Lib.hid (FIN.out _ HB1.out)
      clear FIN
      go_wp2_with fail
      refine N.out.mono ?_
      rintro e w' ⟨rfl, rfl⟩
      go_wp2_with fail
      refine O.out.mono ?_
      rintro e w' ⟨rfl, rfl⟩
      clear N O
      go_wp2_with fail
      first
        | exact G.out
        | (go_ret; exact G.out)
    · obtain ⟨m, rfl⟩ : ∃ m : Nat, n = (m : Int) := ⟨n.toNat, by omega⟩
      have N := Lib.hid (new_any m w1 (by omega) (by omega))
      go_wp2_with fail
      refine N.out.mono ?_
      intro e w2 g1
      obtain ⟨b, bs, bm, rfl, hd, hb, hf, _⟩ := new_fp HB1.out g1
      clear N g1
      by_cases h4 : m < 4
      · have G : Hid (∀ w', Below w2.heap.size w2 w' → R (.returned (.bool true)) w') := fun w' h => FIN.out _ (hb.trans (h.mono hb.size))
        have OP : Hid (Calls Tryd.prog 12 #[.pointer (some ⟨b, 0, none⟩)] w2 fun e w' => Below w2.heap.size w2 w' ∧ e = .returned (.tuple #[.pointer none, .slice none 0 0, .int .i64 1])) := (open_any hd).mono fun e w' h => by
          obtain ⟨h1, ⟨_, h2⟩ | ⟨v, a, r, jb, rv, A, c, h2, _⟩⟩ := h
          · exact ⟨h1, by rw [h2, open_few h4]⟩
          · rw [open_few h4] at h2; cases h2
        clear FIN hd hb hf
        go_wp2_with fail
        refine OP.out.mono ?_
        rintro e w3 ⟨hb, rfl⟩
        have F := Lib.hid (G.out _ hb)
        clear OP G hb
        go_wp2_with fail
        first
          | exact F.out
          | (go_ret; exact F.out)
      · have OP := Lib.hid (open_pi HT.out hb hd hf (found_new (by omega)))
        have G0 := Lib.hid (JGood.new (n := m) (by omega) (by omega))
        clear hd hb hf
        go_wp2_with fail
        refine OP.out.mono ?_
        rintro e w3 ⟨jb, rv, A3, c3, rfl, hp, _, _⟩
        have HP3 := Lib.hid hp
        obtain ⟨ro, ero⟩ : ∃ ro, ro = 32 * ((m - 2) / 2) := ⟨_, rfl⟩
        have q1 : IntKind.i64.wrap ((m : Int) - 2) = (m : Int) - 2 := by rw [IntWalk.i64_left, IntWalk.wrap64_in _ ⟨by omega, by omega⟩]
        have q2 : Int.tdiv ((m : Int) - 2) 2 = (((m - 2) / 2 : Nat) : Int) := by rw [Int.tdiv_eq_ediv_of_nonneg (by omega)]; omega
        have q3 : IntKind.i64.wrap ((((m - 2) / 2 : Nat) : Int) * 32) = (ro : Int) := by rw [IntWalk.i64_left, IntWalk.wrap64_in _ ⟨by omega, by omega⟩]; omega
        have RO : Hid (ro ≤ 1280 ∧ ro = 32 * ((m - 2) / 2)) := by show _ ∧ _; omega
        obtain ⟨qo, eqo⟩ : ∃ qo, qo = (m - 2) / 2 := ⟨_, rfl⟩
        rw [← eqo] at q2 q3
        have q4 : IntKind.i64.wrap (qo : Int) = (qo : Int) := by rw [IntWalk.i64_left, IntWalk.wrap64_in _ ⟨by omega, by omega⟩]
        have HST : Hid (RRo w jb b bs m l (.int .i64 0) w3) := ⟨0, bm, _, rv, _, rfl, Nat.zero_le _, G0.out, hp⟩
        have M4 : Hid (4 ≤ m) := by show 4 ≤ m; omega
        have M5 : Hid (m ≤ 4000) := by show m ≤ 4000; omega
        clear OP hp G0 HP3 ero eqo
        go_wp2_with fail
        go_loopw [10] (fun i wr => RRo w jb b bs m l i wr) (fun i _ => l.length - (intOf i).toNat)
        case atStart => exact HST.out
        case round =>
          clear HST q1 q2 q3 q4
          obtain ⟨k, bm1, pv1, rv1, sk, rfl, hk, hg, hp⟩ := hrel
          by_cases hlt : k < l.length
          · obtain ⟨x, hx⟩ : ∃ x, l[k]? = some x := ⟨_, List.getElem?_eq_getElem hlt⟩
            have hxo := HOK.out x (List.mem_of_getElem? hx)
            have hxl := h40 x (List.mem_of_getElem? hx)
            have SB : Hid (∀ w', Below w.heap.size w w' → ∃ b1 o1, A = some ⟨b1, o1, none⟩ ∧ w'.cell? ⟨b1, o1 + k * 6, none⟩ = some (.int .u8 x.kind) ∧ w'.cell? ⟨b1, o1 + k * 6 + 1, none⟩ = some (.string x.body) ∧ w'.cell? ⟨b1, o1 + k * 6 + 2, none⟩ = some (.slice x.A x.list.length x.c)) := fun w' hb => by
              obtain ⟨b1, o1, e1, hc1⟩ := (HS.out.below hb (Nat.le_refl _)).at_ hx
              exact ⟨b1, o1, e1, hc1 0 _ rfl, by rw [Nat.add_assoc]; exact hc1 1 _ rfl, by rw [Nat.add_assoc]; exact hc1 2 _ rfl⟩
            have hki : (k : Int) < (l.length : Int) := by omega
            have k0 : (0 : Int) ≤ (k : Int) := by omega
            have HXO := Lib.hid hxo
            have HXL := Lib.hid hxl
            have HP := Lib.hid hp
            have GE := Lib.hid hg
            have RR := Lib.hid (records_any hp.j (good_few M5.out hg))
            obtain ⟨i0, hi, hz0, hz1, hz2⟩ := info_parts infoStr
            have HI := Lib.hid hi
            have HZ0 := Lib.hid hz0
            have HZ1 := Lib.hid hz1
            have HZ2 := Lib.hid hz2
            obtain ⟨xk, body, xA, xc, li, xa, xw, xb⟩ := x
            have hk0 := hxo.k0
            have hk1 := hxo.k1
            obtain ⟨b1, o1, rfl, _⟩ := SB.out wr hp.e.bl
            dsimp only at hk0 hk1
            clear hi hz0 hz1 hz2 hx hxo hxl hp hg
            go_wp2_with fail
            refine RR.out.mono ?_
            rintro e w5 ⟨A5, c5, rfl, hr5, hb5⟩
            have HP5 := Lib.hid (HP.out.grow hb5)
            have HW5 := Lib.hid hr5
            have LT : Hid (∀ k, JFp jb b bs bm1 pv1 rv1 k → k < wr.heap.size) := fun k hk => HP.out.j.lt hk
            have S5 : Hid (wr.heap.size ≤ w5.heap.size) := hb5.size
            have SL5 := Lib.hid (row_sl hr5).2.1
            obtain ⟨nr, enr⟩ : ∃ nr, nr = sk.recs.length := ⟨_, rfl⟩
            have LEN5 : Hid (nr = (sk.recs.map tx).length ∧ nr ≤ 1000000) := ⟨by rw [List.length_map]; exact enr, by rw [enr]; exact good_few M5.out GE.out⟩
            have ENR := Lib.hid enr
            rw [← enr]
            obtain ⟨b2, o2, e2, d0, d1, d2⟩ := SB.out w5 HP5.out.e.bl
            cases e2
            have D1 := Lib.hid d1
            clear RR hr5 hb5 HP d0 d2 enr
            go_wp2_with fail
            refine Free.wp_region_free 9 [(0, .ind (fun b => .slice (some ⟨b, 0, none⟩) 0 0) (fun b w2 => w2.heap[b]? = some (.cells #[] 9 (0, 0)) ∧ w5.heap.size ≤ b)), (2, .ind (fun y => .slice (some ⟨fstN y, 0, none⟩) nr (sndN y)) (fun y w2 => w2.ownsRow w5.heap.size 9 1 (.slice (some ⟨fstN y, 0, none⟩) nr (sndN y)) nr ((sk.recs.map tx).flatMap encS))), (8, .ind (fun b => .slice (some ⟨b, 0, none⟩) 1 1) (fun b w2 => w2.heap[b]? = some (.cells #[.string body] 9 (0, 0))))]
              (fun w2 => Below w5.heap.size w5 w2 ∧ w2.cell? ⟨b1, o1 + k * 6 + 1, none⟩ = some (.string body)) (by kernel_rfl) (by kernel_rfl) ?_ ⟨(Below.refl _ _).drew, d1⟩ (fun _ _ h g => ⟨h.1.trans (Below.mono g h.1.size), cell_grow' h.2 g⟩) ?_
            · intro j mk rr hf y w1 w2 hr gr
              simp only [Free.find] at hf
              split at hf
              · cases hf; exact ⟨(gr.block _ (Array.getElem?_eq_some_iff.1 hr.1).1).trans hr.1, hr.2⟩
              · split at hf
                · cases hf; exact rowB hr gr
                · split at hf
                  · cases hf; exact (gr.block _ (Array.getElem?_eq_some_iff.1 hr).1).trans hr
                  · cases hf
            simp only [List.take_succ_cons, List.take_zero]
            clear d1
            apply Free.chain_ind (by first | exact Free.wanted_of rfl rfl rfl | rfl) rfl
            · intro w' hB hA
              refine Free.opRun_of (v := .slice (some ⟨w'.heap.size, 0, none⟩) 0 0) (w' := w'.alloc (.cells #[] 9)) (by clear hB hA; go_light; go_simp <;> rfl) ⟨Free.Grow.alloc _ _, _, rfl, new_at rfl, hB.1.size⟩
            intro b0
            simp only [Act.put, List.setIfInBounds_toArray, List.set_cons_succ, List.set_cons_zero]
            iterate 1 (apply Free.chain_still (by first | exact Free.wanted_of rfl rfl rfl | rfl) rfl; (intro w' hB hA; obtain ⟨qB, q1⟩ := hB; clear hA  qB; go_light; go_simp <;> rfl); (try simp only [Act.put, List.setIfInBounds_toArray, List.set_cons_succ, List.set_cons_zero]))
            apply Free.chain_ind (by first | exact Free.wanted_of rfl rfl rfl | rfl) rfl
            · intro w' hB hA
              have h0 : w'.heap[b0]? = some (.cells #[] 9 (0, 0)) ∧ w5.heap.size ≤ b0 := hA _ List.mem_cons_self (by kernel_rfl)
              obtain ⟨g, cp, w2, hrun, hrow, hg, hcp⟩ := append_newJ w' 28 w5.heap.size b0 h0.1 h0.2 A5 c5 nr (sk.recs.map tx) LEN5.out.1 (SL5.out.below hB.1 (Nat.le_refl _)) (by have := LEN5.out; omega)
              obtain ⟨y, rfl, rfl⟩ := pair_ex g cp hcp
              exact Free.opRun_of (exec_append (s := .tmp 45) (x := .tmp 46) rfl rfl rfl hrun) ⟨hg, y, rfl, hrow⟩
            intro y3
            simp only [Act.put, List.setIfInBounds_toArray, List.set_cons_succ, List.set_cons_zero]
            iterate 5 (apply Free.chain_still (by first | exact Free.wanted_of rfl rfl rfl | rfl) rfl; (intro w' hB hA; obtain ⟨qB, q1⟩ := hB; clear hA  qB; go_light; go_simp <;> rfl); (try simp only [Act.put, List.setIfInBounds_toArray, List.set_cons_succ, List.set_cons_zero]))
            apply Free.chain_ind (by first | exact Free.wanted_of rfl rfl rfl | rfl) rfl
            · intro w' hB hA
              refine Free.opRun_of (v := .slice (some ⟨w'.heap.size, 0, none⟩) 1 1) (w' := w'.alloc (.cells #[.string body] 9)) (by clear hB hA; go_light; go_simp <;> rfl) ⟨Free.Grow.alloc _ _, _, rfl, new_at rfl⟩
            intro b6
            simp only [Act.put, List.setIfInBounds_toArray, List.set_cons_succ, List.set_cons_zero]
            apply Free.chain_nil
            intro wy hBz _ hh
            have hz6 : wy.heap[b6]? = some (.cells #[.string body] 9 (0, 0)) := hh _ List.mem_cons_self
            have hz3 : wy.ownsRow w5.heap.size 9 1 (.slice (some ⟨fstN y3, 0, none⟩) nr (sndN y3)) nr ((sk.recs.map tx).flatMap encS) := hh _ (List.mem_cons_of_mem _ List.mem_cons_self)
            simp only [List.drop_succ_cons, List.drop_zero]
            have HZ6 := Lib.hid hz6
            have HZ3 := Lib.hid hz3
            have HBY := Lib.hid hBz.1
            clear hz6 hz3 hBz hh
            refine wpList_append_list (ec := encS) rfl (.tmp 47) (.tmp 53) 28 rfl w5.heap.size 9 i0 _ 16 Tryd.underlying28 HI.out HZ0.out HZ1.out HZ2.out rfl (by decide) encSlen encSone _ _ _ rfl HZ3.out (some ⟨b6, 0, none⟩) 1 [body] rfl (sl_of_cells encSlen HZ6.out (fun j u hu => by simpa [encS] using hu)) (by have : maxLen = 9223372036854775807 := rfl; have := LEN5.out; simp only [List.length_cons, List.length_nil]; omega) (by have := LEN5.out; simp only [List.length_cons, List.length_nil]; omega) HBY.out.size ?_
            intro v7 w7 hown7 hg7 _
            have hb7 : Below w5.heap.size w5 w7 := HBY.out.grown hg7 HBY.out.size (fun j e => (HZ3.out.lt j e).1)
            have hr7 : RowT w7 w5.heap.size v7 (sk.recs ++ [body.data.toList]) := by
              unfold RowT
              rw [row_snoc, tx_of, List.length_append, ← ENR.out]
              exact hown7
            have HP7 := Lib.hid (HP5.out.grow hb7)
            have S7 : Hid (w5.heap.size ≤ w7.heap.size) := hb7.size
            have HW7 : Hid (RowT w7 wr.heap.size (.slice A5 sk.recs.length c5) sk.recs) := HW5.out.keep fun k hk => hb7.block k (World.ownsRow.lt HW5.out k hk).2
            obtain ⟨A7, n7, c7, rfl⟩ := row_is hr7
            obtain ⟨en7, _, _⟩ := row_sl hr7
            have EN7 := Lib.hid en7
            have HR7 := Lib.hid hr7
            obtain ⟨b2, o2, e2, d0, d1, d2⟩ := SB.out w7 HP7.out.e.bl
            cases e2
            rw [ENR.out]
            clear hown7 hg7 hb7 hr7 HZ6 HZ3 HBY SL5 LEN5 HW5 HP5 ENR en7
            have hW := good_walks M5.out GE.out
            obtain ⟨lo, elo⟩ : ∃ lo, decide ((2000 : Int) < (body.size : Int)) = lo := ⟨_, rfl⟩
            have AP := Lib.hid (append_any body HP7.out.j hW.on hW.pend hW.recs HXO.out.body HP7.out.e)
            by_cases hev : xk % 2 = 0
            · have ht : Int.tmod xk 2 = 0 := by rw [Int.tmod_eq_emod_of_nonneg hk0]; exact hev
              obtain ⟨r, er⟩ : ∃ r, r = sk.append m body.data.toList := ⟨_, rfl⟩
              rw [← er] at AP
              obtain ⟨af, eaf⟩ : ∃ af, af = sk.recs ++ [body.data.toList] := ⟨_, rfl⟩
              have SPEC : Hid ((lo = true ∧ r = (sk, 3)) ∨ (lo = false ∧ ro < roomL af ∧ (∀ b ∈ af, b.length ≤ 2000) ∧ r = (sk, 19)) ∨ (lo = false ∧ roomL af ≤ ro ∧ (∀ b ∈ af, b.length ≤ 2000) ∧ r.2 = 0 ∧ JGood m r.1 (k + 1) ∧ r.1.recs = af)) := by
                have hlb : body.data.toList.length = body.size := by simp
                have hal : body.size ≤ 2000 → ∀ b ∈ af, b.length ≤ 2000 := fun h b hb => by
                  rw [eaf] at hb
                  rcases List.mem_append.1 hb with h1 | h1
                  · exact GE.out.len.2 b h1
                  · rw [List.mem_singleton.1 h1]; omega
                rw [er, eaf, ← elo]
                rcases GE.out.append M4.out (by omega) body.data.toList with ⟨h1, e⟩ | ⟨h1, h2, e⟩ | ⟨h1, h2, e1, e2, e3⟩
                · exact .inl ⟨decide_eq_true (by omega), e⟩
                · exact .inr (.inl ⟨decide_eq_false (by omega), by have := RO.out; omega, by rw [← eaf]; exact hal (by omega), e⟩)
                · exact .inr (.inr ⟨decide_eq_false (by omega), by have := RO.out; omega, by rw [← eaf]; exact hal (by omega), e1, e2, e3⟩)
              have AFL : Hid (af.length ≤ 1000001) := by show _ ≤ _; rw [eaf, List.length_append]; have := good_few M5.out GE.out; simp; omega
              have HAF0 := HR7.out
              rw [EN7.out, ← eaf] at HAF0
              have HA7 := Lib.hid HAF0
              rw [EN7.out, ← eaf]
              clear er eaf HAF0 HR7 EN7 hW
              go_wp2_with fail
              refine AP.out.mono ?_
              intro e w6 hj
              obtain ⟨rfl, bm2, pv2, rv2, p2, kk, ff⟩ := HP7.out.next (s' := r.1) (c := r.2) hj
              obtain ⟨b2, o2, e2, d0, d1, d2⟩ := SB.out w6 p2.e.bl
              cases e2
              have HPN := Lib.hid p2
              have HAF := Lib.hid (HA7.out.keep fun q hq => kk.block q (World.ownsRow.lt HA7.out q hq).2 (fun hf => by have h1 := (World.ownsRow.lt HA7.out q hq).1; have h2 := LT.out q hf; have h3 := S5.out; omega))
              have HWAS := Lib.hid (HW7.out.keep fun q hq => kk.block q (World.ownsRow.lt HW7.out q hq).2 (fun hf => by have h1 := (World.ownsRow.lt HW7.out q hq).1; have h2 := LT.out q hf; omega))
              clear AP hj kk ff p2 HA7 HW7 HP7
              rcases SPEC.out with ⟨hlo, hr⟩ | ⟨hlo, hfit, hall, hr⟩ | ⟨hlo, hfit, hall, hr0, hgd, hrecs⟩
              · subst hlo
                rw [hr] at HPN
                have RR := Lib.hid (records_any HPN.out.j (good_few M5.out GE.out))
                rw [hr]
                clear SPEC HAF hr
                go_wp2_with fail
                refine RR.out.mono ?_
                rintro e w8 ⟨A8, c8, rfl, hr8, hb8⟩
                have SM := Lib.hid (same_rows hr8 (Below.refl _ _) HWAS.out hb8 (good_few M5.out GE.out))
                have HP8 := Lib.hid (HPN.out.grow hb8)
                clear RR hr8 hb8 HWAS
                go_wp2_with fail
                refine SM.out.mono ?_
                rintro e w9 ⟨rfl, hb9⟩
                have hp9 := HP8.out.grow hb9
                obtain ⟨b4, o4, e4, d0, d1, d2⟩ := SB.out w9 hp9.e.bl
                cases e4
                have KEY : Hid (RRo w jb b bs m l (.int .i64 ((k : Int) + 1)) w9) := ⟨k + 1, bm2, pv2, rv2, sk, by go_num, by omega, GE.out.more (by omega), hp9⟩
                clear SM hb9 hp9
                go_wp2_with fail
                go_roundw
                case rel =>
                  go_light
                  have key := KEY.out
                  first | exact key | ((repeat apply Exists.intro); exact ⟨key, rfl⟩)
                case measure => simp [intOf]; omega
              · subst hlo
                rw [hr] at HPN
                have RR := Lib.hid (records_any HPN.out.j (good_few M5.out GE.out))
                have haf := (row_sl HAF.out).2.1
                have ROOM := room45_any A7 c7 (af.map tx) w6 haf (by rw [List.length_map]; have := AFL.out; omega) (fun x hx => by
                  obtain ⟨y, hy, rfl⟩ := List.mem_map.1 hx
                  rw [tx_size]; have := hall y hy; omega)
                rw [List.length_map] at ROOM
                have hdr : (ro : Int) < (roomM (af.map tx) : Int) := by unfold roomM; rw [recsOf_map]; have := RO.out; omega
                obtain ⟨rm, erm⟩ : ∃ rm, rm = roomM (af.map tx) := ⟨_, rfl⟩
                rw [← erm] at ROOM hdr
                have ROOMH := Lib.hid ROOM
                rw [hr]
                clear SPEC HAF hr haf ROOM erm
                go_wp2_with fail
                refine ROOMH.out.mono ?_
                rintro e w' ⟨rfl, rfl⟩
                clear ROOMH
                go_wp2_with fail
                refine RR.out.mono ?_
                rintro e w8 ⟨A8, c8, rfl, hr8, hb8⟩
                have SM := Lib.hid (same_rows hr8 (Below.refl _ _) HWAS.out hb8 (good_few M5.out GE.out))
                have HP8 := Lib.hid (HPN.out.grow hb8)
                clear RR hr8 hb8 HWAS
                go_wp2_with fail
                refine SM.out.mono ?_
                rintro e w9 ⟨rfl, hb9⟩
                have hp9 := HP8.out.grow hb9
                obtain ⟨b4, o4, e4, d0, d1, d2⟩ := SB.out w9 hp9.e.bl
                cases e4
                have KEY : Hid (RRo w jb b bs m l (.int .i64 ((k : Int) + 1)) w9) := ⟨k + 1, bm2, pv2, rv2, sk, by go_num, by omega, GE.out.more (by omega), hp9⟩
                clear SM hb9 hp9
                go_wp2_with fail
                go_roundw
                case rel =>
                  go_light
                  have key := KEY.out
                  first | exact key | ((repeat apply Exists.intro); exact ⟨key, rfl⟩)
                case measure => simp [intOf]; omega
              · subst hlo
                have GR := Lib.hid hgd
                have RR := Lib.hid (records_any HPN.out.j (good_few M5.out GR.out))
                rw [hrecs] at RR
                have haf := (row_sl HAF.out).2.1
                have ROOM := room45_any A7 c7 (af.map tx) w6 haf (by rw [List.length_map]; have := AFL.out; omega) (fun x hx => by
                  obtain ⟨y, hy, rfl⟩ := List.mem_map.1 hx
                  rw [tx_size]; have := hall y hy; omega)
                rw [List.length_map] at ROOM
                have hdr : ¬ (ro : Int) < (roomM (af.map tx) : Int) := by unfold roomM; rw [recsOf_map]; have := RO.out; omega
                obtain ⟨rm, erm⟩ : ∃ rm, rm = roomM (af.map tx) := ⟨_, rfl⟩
                rw [← erm] at ROOM hdr
                have ROOMH := Lib.hid ROOM
                rw [hr0]
                clear SPEC hr0 haf ROOM erm hgd
                go_wp2_with fail
                refine ROOMH.out.mono ?_
                rintro e w' ⟨rfl, rfl⟩
                clear ROOMH
                go_wp2_with fail
                refine RR.out.mono ?_
                rintro e w8 ⟨A8, c8, rfl, hr8, hb8⟩
                have SM := Lib.hid (same_rows hr8 (Below.refl _ _) HAF.out hb8 (by rw [← hrecs]; exact good_few M5.out GR.out))
                have HP8 := Lib.hid (HPN.out.grow hb8)
                clear RR hr8 hb8 HAF
                go_wp2_with fail
                refine SM.out.mono ?_
                rintro e w9 ⟨rfl, hb9⟩
                have hp9 := HP8.out.grow hb9
                obtain ⟨b4, o4, e4, d0, d1, d2⟩ := SB.out w9 hp9.e.bl
                cases e4
                have KEY : Hid (RRo w jb b bs m l (.int .i64 ((k : Int) + 1)) w9) := ⟨k + 1, bm2, pv2, rv2, r.1, by go_num, by omega, GR.out, hp9⟩
                clear SM hb9 hp9
                go_wp2_with fail
                go_roundw
                case rel =>
                  go_light
                  have key := KEY.out
                  first | exact key | ((repeat apply Exists.intro); exact ⟨key, rfl⟩)
                case measure => simp [intOf]; omega
            · have ht : Int.tmod xk 2 = 1 := by rw [Int.tmod_eq_emod_of_nonneg hk0]; omega
              have hB := HP7.out.e.bl.size
              have HM : Hid ((w7.alloc (.cells #[] 9)).ownsRow w7.heap.size 9 1 (.slice (some ⟨w7.heap.size, 0, none⟩) 0 0) 0 []) := World.ownsRow_made w7 #[] 0 (Nat.le_refl _) (by decide) rfl
              have HSL : Hid (SL (w7.alloc (.cells #[] 9)) 1 encS xA li) := HXO.out.sl.below (HP7.out.e.bl.alloc hB _) (Nat.le_refl _)
              have hll : li.length ≤ 40 := HXL.out
              obtain ⟨b2, o2, e2, f0, f1, f2⟩ := SB.out (w7.alloc (.cells #[] 9)) (HP7.out.e.bl.alloc hB _)
              cases e2
              have HLL := Lib.hid hll
              clear AP HR7 EN7 elo lo
              go_wp2_with (at_builtin; refine wpList_append_list (ec := encS) rfl (.tmp 76) (.tmp 81) 28 rfl w7.heap.size 9 i0 _ 16 Tryd.underlying28 HI.out HZ0.out HZ1.out HZ2.out rfl (by decide) encSlen encSone _ 0 [] rfl HM.out xA xc li rfl HSL.out (by have : maxLen = 9223372036854775807 := rfl; omega) (by omega) (by simp) ?_)
              intro v8 w8 hown8 hg8 _
              have hb8 : Below w7.heap.size w7 w8 := ((Below.refl _ w7).alloc (Nat.le_refl _) (.cells #[] 9)).grown hg8 (by simp) (fun j e => (HM.out.lt j e).1)
              have hr8 : RowT w8 w7.heap.size v8 (recsOf li) := by
                unfold RowT
                rw [recsOf_tx, recsOf_len]
                have e0 : 0 + li.length = li.length := Nat.zero_add _
                first
                  | exact hown8
                  | (rw [e0] at hown8; exact hown8)
                  | simpa using hown8
              have HP8 := Lib.hid (HP7.out.grow hb8)
              have HW8 : Hid (RowT w8 wr.heap.size (.slice A5 sk.recs.length c5) sk.recs) := HW7.out.keep fun k hk => hb8.block k (World.ownsRow.lt HW7.out k hk).2
              obtain ⟨A8, n8, c8, rfl⟩ := row_is hr8
              obtain ⟨af, eaf⟩ : ∃ af, af = recsOf li := ⟨_, rfl⟩
              rw [← eaf] at hr8
              obtain ⟨en8, hs8, _⟩ := row_sl hr8
              subst en8
              have HA8 := Lib.hid hr8
              have S8 := Lib.hid hs8
              have LEN8 : Hid (af.length ≤ 40) := by show _ ≤ _; rw [eaf, recsOf_len]; exact HLL.out
              have EAF := Lib.hid eaf
              have HST : Hid (RLong af w8 (.bool false) (.int .i64 0) w8) := ⟨0, rfl, Nat.zero_le _, rfl, rfl⟩
              clear hown8 hg8 hb8 hr8 hs8 eaf HM HSL f0 f1 f2 HP7 HW7 d0 d1 d2 hll
              go_wp2_with fail
              go_loopw [13, 15] (fun v i wr => RLong af w8 v i wr) (fun _ i _ => af.length - (intOf i).toNat)
              case atStart => exact HST.out
              case round =>
                clear HST
                obtain ⟨q, rfl, hq, rfl, rfl⟩ := hrel
                by_cases hlq : q < af.length
                · obtain ⟨y, hy⟩ : ∃ y, af[q]? = some y := ⟨_, List.getElem?_eq_getElem hlq⟩
                  have hqi : (q : Int) < (af.length : Int) := by omega
                  have q0 : (0 : Int) ≤ (q : Int) := by omega
                  obtain ⟨b3, o3, rfl, hc3⟩ := S8.out.at_ (i := q) (e := tx y) (by rw [List.getElem?_map, hy]; rfl)
                  have d3 := hc3 0 (.string (tx y)) rfl
                  simp only [Nat.mul_one, Nat.add_zero] at d3
                  have hq40 := LEN8.out
                  have ht3 := any_take hy (fun x => decide (2000 < x.length))
                  have hsz : (tx y).size = y.length := tx_size y
                  obtain ⟨ty, ety⟩ : ∃ ty, ty = tx y := ⟨_, rfl⟩
                  rw [← ety] at d3 hsz
                  obtain ⟨acc, eacc⟩ : ∃ acc, acc = (af.take q).any (fun x => decide (2000 < x.length)) := ⟨_, rfl⟩
                  obtain ⟨lb, elb⟩ : ∃ lb, decide ((2000 : Int) < (ty.size : Int)) = lb := ⟨_, rfl⟩
                  have elb2 : decide (2000 < y.length) = lb := by rw [← elb]; exact decide_eq_decide.2 (by omega)
                  rw [← eacc] at ht3 ⊢
                  have KEY : Hid (RLong af wr (.bool (acc || lb)) (.int .i64 ((q : Int) + 1)) wr) := ⟨q + 1, by go_num, by omega, by rw [ht3, elb2], rfl⟩
                  clear hc3 ht3 eacc ety hsz hy elb2
                  cases acc with
                  | true =>
                    have KEY : Hid (RLong af wr (.bool true) (.int .i64 ((q : Int) + 1)) wr) := KEY.out
                    clear d3 elb
                    go_wp2_with fail
                    go_roundw
                    case rel =>
                      go_light
                      have key := KEY.out
                      first | exact key | ((repeat apply Exists.intro); exact ⟨key, rfl⟩)
                    case measure => simp [intOf]; omega
                  | false =>
                    have KEY : Hid (RLong af wr (.bool lb) (.int .i64 ((q : Int) + 1)) wr) := KEY.out
                    go_wp2_with fail
                    go_roundw
                    case rel =>
                      go_light
                      have key := KEY.out
                      first | exact key | ((repeat apply Exists.intro); exact ⟨key, rfl⟩)
                    case measure => simp [intOf]; omega
                · obtain rfl : q = af.length := by omega
                  have hqi : ¬ (af.length : Int) < (af.length : Int) := by omega
                  rw [List.take_length]
                  obtain ⟨lo, elo⟩ : ∃ lo, lo = af.any (fun x => decide (2000 < x.length)) := ⟨_, rfl⟩
                  rw [← elo]
                  have hW := good_walks M5.out GE.out
                  have CM := Lib.hid (compact_any (c := xc) li HP8.out.j (fun h _ => hW.on h) hW.pend (HXO.out.sl.below HP8.out.e.bl (Nat.le_refl _)) (fun w' hk => HXO.out.sl.below (HP8.out.e.bl.trans (hk.below (fun k hk => HP8.out.fp hk) HP8.out.e.bl.size)) (Nat.le_refl _)) (by have := HLL.out; omega) HP8.out.e)
                  rw [← EAF.out] at CM
                  obtain ⟨r, er⟩ : ∃ r, r = sk.compact m af := ⟨_, rfl⟩
                  rw [← er] at CM
                  have SPEC : Hid ((lo = true ∧ r = (sk, 3)) ∨ (lo = false ∧ ro < roomL af ∧ (∀ b ∈ af, b.length ≤ 2000) ∧ r = (sk, 19)) ∨ (lo = false ∧ roomL af ≤ ro ∧ (∀ b ∈ af, b.length ≤ 2000) ∧ r.2 = 0 ∧ JGood m r.1 (k + 1) ∧ r.1.recs = af)) := by
                    have hal : (∀ b ∈ af, b.length ≤ 2000) → lo = false := fun h => by
                      rw [elo, List.any_eq_false]
                      intro b hb
                      rw [decide_eq_true_eq]
                      have := h b hb; omega
                    rw [er]
                    rcases GE.out.compact M4.out (by omega) af with ⟨⟨b, h1, h2⟩, e⟩ | ⟨h1, h2, e⟩ | ⟨h1, h2, e1, e2, e3⟩
                    · exact .inl ⟨by rw [elo, List.any_eq_true]; exact ⟨b, h1, decide_eq_true h2⟩, e⟩
                    · exact .inr (.inl ⟨hal h1, by have := RO.out; omega, h1, e⟩)
                    · exact .inr (.inr ⟨hal h1, by have := RO.out; omega, h1, e1, e2, e3⟩)
                  have AFL : Hid (af.length ≤ 1000001) := by show _ ≤ _; have := LEN8.out; omega
                  obtain ⟨b2, o2, e2, d0, d1, d2⟩ := SB.out wr HP8.out.e.bl
                  cases e2
                  clear er elo hW S8 EAF
                  go_wp2_with fail
                  refine CM.out.mono ?_
                  intro e w9 hj
                  obtain ⟨rfl, bm2, pv2, rv2, p2, kk, ff⟩ := HP8.out.next (s' := r.1) (c := r.2) hj
                  obtain ⟨b2, o2, e2, d0, d1, d2⟩ := SB.out w9 p2.e.bl
                  cases e2
                  have HPN := Lib.hid p2
                  have HAF := Lib.hid (HA8.out.keep fun q hq => kk.block q (World.ownsRow.lt HA8.out q hq).2 (fun hf => by have h1 := (World.ownsRow.lt HA8.out q hq).1; have h2 := LT.out q hf; have h3 := S5.out; have h4 := S7.out; omega))
                  have HWAS := Lib.hid (HW8.out.keep fun q hq => kk.block q (World.ownsRow.lt HW8.out q hq).2 (fun hf => by have h1 := (World.ownsRow.lt HW8.out q hq).1; have h2 := LT.out q hf; omega))
                  clear CM hj kk ff p2 HA8 HW8 HP8
                  rcases SPEC.out with ⟨hlo, hr⟩ | ⟨hlo, hfit, hall, hr⟩ | ⟨hlo, hfit, hall, hr0, hgd, hrecs⟩
                  · subst hlo
                    rw [hr] at HPN
                    have RR := Lib.hid (records_any HPN.out.j (good_few M5.out GE.out))
                    rw [hr]
                    clear SPEC HAF hr
                    go_wp2_with fail
                    refine RR.out.mono ?_
                    rintro e w8 ⟨Ar, cr, rfl, hr8, hb8⟩
                    have SM := Lib.hid (same_rows hr8 (Below.refl _ _) HWAS.out hb8 (good_few M5.out GE.out))
                    have HP8 := Lib.hid (HPN.out.grow hb8)
                    clear RR hr8 hb8 HWAS
                    go_wp2_with fail
                    refine SM.out.mono ?_
                    rintro e w9 ⟨rfl, hb9⟩
                    have hp9 := HP8.out.grow hb9
                    obtain ⟨b4, o4, e4, d0, d1, d2⟩ := SB.out w9 hp9.e.bl
                    cases e4
                    have KEY : Hid (RRo w jb b bs m l (.int .i64 ((k : Int) + 1)) w9) := ⟨k + 1, bm2, pv2, rv2, sk, by go_num, by omega, GE.out.more (by omega), hp9⟩
                    clear SM hb9 hp9
                    go_wp2_with fail
                    go_roundw
                    case rel =>
                      go_light
                      have key := KEY.out
                      first | exact key | ((repeat apply Exists.intro); exact ⟨key, rfl⟩)
                    case measure => simp [intOf]; omega
                  · subst hlo
                    rw [hr] at HPN
                    have RR := Lib.hid (records_any HPN.out.j (good_few M5.out GE.out))
                    have haf := (row_sl HAF.out).2.1
                    have ROOM := room45_any A8 c8 (af.map tx) w9 haf (by rw [List.length_map]; have := AFL.out; omega) (fun x hx => by
                      obtain ⟨y, hy, rfl⟩ := List.mem_map.1 hx
                      rw [tx_size]; have := hall y hy; omega)
                    rw [List.length_map] at ROOM
                    have hdr : (ro : Int) < (roomM (af.map tx) : Int) := by unfold roomM; rw [recsOf_map]; have := RO.out; omega
                    obtain ⟨rm, erm⟩ : ∃ rm, rm = roomM (af.map tx) := ⟨_, rfl⟩
                    rw [← erm] at ROOM hdr
                    have ROOMH := Lib.hid ROOM
                    rw [hr]
                    clear SPEC HAF hr haf ROOM erm
                    go_wp2_with fail
                    refine ROOMH.out.mono ?_
                    rintro e w' ⟨rfl, rfl⟩
                    clear ROOMH
                    go_wp2_with fail
                    refine RR.out.mono ?_
                    rintro e w8 ⟨Ar, cr, rfl, hr8, hb8⟩
                    have SM := Lib.hid (same_rows hr8 (Below.refl _ _) HWAS.out hb8 (good_few M5.out GE.out))
                    have HP8 := Lib.hid (HPN.out.grow hb8)
                    clear RR hr8 hb8 HWAS
                    go_wp2_with fail
                    refine SM.out.mono ?_
                    rintro e w9 ⟨rfl, hb9⟩
                    have hp9 := HP8.out.grow hb9
                    obtain ⟨b4, o4, e4, d0, d1, d2⟩ := SB.out w9 hp9.e.bl
                    cases e4
                    have KEY : Hid (RRo w jb b bs m l (.int .i64 ((k : Int) + 1)) w9) := ⟨k + 1, bm2, pv2, rv2, sk, by go_num, by omega, GE.out.more (by omega), hp9⟩
                    clear SM hb9 hp9
                    go_wp2_with fail
                    go_roundw
                    case rel =>
                      go_light
                      have key := KEY.out
                      first | exact key | ((repeat apply Exists.intro); exact ⟨key, rfl⟩)
                    case measure => simp [intOf]; omega
                  · subst hlo
                    have GR := Lib.hid hgd
                    have RR := Lib.hid (records_any HPN.out.j (good_few M5.out GR.out))
                    rw [hrecs] at RR
                    have haf := (row_sl HAF.out).2.1
                    have ROOM := room45_any A8 c8 (af.map tx) w9 haf (by rw [List.length_map]; have := AFL.out; omega) (fun x hx => by
                      obtain ⟨y, hy, rfl⟩ := List.mem_map.1 hx
                      rw [tx_size]; have := hall y hy; omega)
                    rw [List.length_map] at ROOM
                    have hdr : ¬ (ro : Int) < (roomM (af.map tx) : Int) := by unfold roomM; rw [recsOf_map]; have := RO.out; omega
                    obtain ⟨rm, erm⟩ : ∃ rm, rm = roomM (af.map tx) := ⟨_, rfl⟩
                    rw [← erm] at ROOM hdr
                    have ROOMH := Lib.hid ROOM
                    rw [hr0]
                    clear SPEC hr0 haf ROOM erm hgd
                    go_wp2_with fail
                    refine ROOMH.out.mono ?_
                    rintro e w' ⟨rfl, rfl⟩
                    clear ROOMH
                    go_wp2_with fail
                    refine RR.out.mono ?_
                    rintro e w8 ⟨Ar, cr, rfl, hr8, hb8⟩
                    have SM := Lib.hid (same_rows hr8 (Below.refl _ _) HAF.out hb8 (by rw [← hrecs]; exact good_few M5.out GR.out))
                    have HP8 := Lib.hid (HPN.out.grow hb8)
                    clear RR hr8 hb8 HAF
                    go_wp2_with fail
                    refine SM.out.mono ?_
                    rintro e w9 ⟨rfl, hb9⟩
                    have hp9 := HP8.out.grow hb9
                    obtain ⟨b4, o4, e4, d0, d1, d2⟩ := SB.out w9 hp9.e.bl
                    cases e4
                    have KEY : Hid (RRo w jb b bs m l (.int .i64 ((k : Int) + 1)) w9) := ⟨k + 1, bm2, pv2, rv2, r.1, by go_num, by omega, GR.out, hp9⟩
                    clear SM hb9 hp9
                    go_wp2_with fail
                    go_roundw
                    case rel =>
                      go_light
                      have key := KEY.out
                      first | exact key | ((repeat apply Exists.intro); exact ⟨key, rfl⟩)
                    case measure => simp [intOf]; omega
          · obtain rfl : k = l.length := by omega
            have G := Lib.hid (FIN.out _ hp.e.bl)
            have hki : ¬ (l.length : Int) < (l.length : Int) := by omega
            clear FIN hp hg
            go_wp2_with fail
            first
              | exact G.out
              | (go_ret; exact G.out)
end Go.Proofs.YthfjaaigncjhlaaDoor
