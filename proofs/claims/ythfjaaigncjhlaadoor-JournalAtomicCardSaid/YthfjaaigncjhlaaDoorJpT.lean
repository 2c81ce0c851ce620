/- Law 45: JournalAtomic. Condition: the arguments are readable; the variable of strconv holds its numbers. -/
import Derived.Test.YthfjaaigncjhlaaDoorJpA
import Derived.Test.YthfjaaigncjhlaaDoorJpD
import Derived.Test.YthfjaaigncjhlaaDoorJnZ
namespace Go.Proofs.YthfjaaigncjhlaaDoor
open Go.RowKit Go.Blk Go.Jn Go.Dk Go.Mp Go.Rf Go.Shelf Go.Apl Go.Opn

def RAo (we : World) (b bs n : Nat) (l : List Op45) (vj vb vi : Value) (wr : World) : Prop :=
  ∃ (k jb bm : Nat) (pv rv : Value) (s : JS), vj = .pointer (some ⟨jb, 0, none⟩) ∧ vi = .int .i64 (k : Int) ∧ k ≤ l.length ∧ JFirm n s k ∧ PI we wr jb b bs bm n pv rv s ∧ OutAt we wr jb b bs bm pv rv vb s.recs
theorem rowK {F : Nat → Prop} {w w' : World} {B : Nat} {v : Value} {l : List (List UInt8)} (h : RowT w B v l) (hk : Keep F w w') (hn : ∀ k, v.ownBlock = some k → ¬ F k) : RowT w' B v l :=
  h.keep fun k e => hk.block k (World.ownsRow.lt h k e).2 (hn k e)
/-- Two rows of records, compared. -/
theorem same_gen {B1 B2 c1 c2 : Nat} {wx : World} {A1 A2 : Option Addr} {r t : List (List UInt8)} (h1 : RowT wx B1 (.slice A1 r.length c1) r) (h2 : RowT wx B2 (.slice A2 t.length c2) t) (hl : r.length ≤ 1000000) (ht : t.length ≤ 1000001) :
    Calls Tryd.prog 15 #[.slice A1 r.length c1, .slice A2 t.length c2] wx fun e w' => e = .returned (.bool (decide (r.map tx = t.map tx))) ∧ Below wx.heap.size wx w' := by
  obtain ⟨_, s1, _⟩ := row_sl h1
  obtain ⟨_, s2, _⟩ := row_sl h2
  have e1 : (r.map tx).length = r.length := by simp
  have e2 : (t.map tx).length = t.length := by simp
  have := same45_any A1 A2 c1 c2 (r.map tx) (t.map tx) wx s1 s2 (by omega) (by omega)
  rw [e1, e2] at this
  exact this
theorem tmod_ten (x : Int) : -9223372036854775808 ≤ Int.tmod x 10 ∧ Int.tmod x 10 ≤ 9223372036854775807 := by
  have h := Int.tmod_lt_of_pos x (show (0 : Int) < 10 by decide)
  have h2 := Int.lt_tmod_of_pos x (show (0 : Int) < 10 by decide)
  omega
set_option maxRecDepth 100000 in
set_option maxHeartbeats 1000000 in
theorem atomic_law (n : Int) (A : Option Addr) (c : Nat) (l : List Op45) (w : World) (hS : SL w 6 encO A l) (hok : ∀ a ∈ l, a.Ok w) (hl : l.length ≤ 9223372036854775807) (hn0 : -9223372036854775808 ≤ n) (hn1 : n ≤ 9223372036854775807) (hT : HasT w) :
    Calls Tryd.prog 8 #[.int .i64 n, .slice A l.length c] w (YesPost w) := by
  obtain ⟨R, eR⟩ : ∃ R, R = YesPost w := ⟨_, rfl⟩
  rw [← eR]
  have FIN : Hid (∀ w', Below w.heap.size w w' → R (.returned (.bool true)) w') := fun w' hb => by rw [eR]; exact ⟨rfl, hb⟩
  have HD := Lib.hid (head45_any w hT)
  have LI := Lib.hid (fun w' (hb : Below w.heap.size w w') => light_any n A c l w' (hS.below hb (Nat.le_refl _)) (fun a ha => by
    have h := hok a ha
    exact ⟨h.k0, h.k1, h.body, h.len, h.sl.below hb (Nat.le_refl _), h.size, h.a0, h.a1, h.w0, h.w1, h.b0, h.b1⟩) hl)
  have HT := Lib.hid hT
  have HS := Lib.hid hS
  have HOK := Lib.hid hok
  clear eR hT hS hok
  go_enter Tryd.func8, Tryd.ntmps8
  go_wp2_with fail
  refine HD.out.mono ?_
  rintro e w1 ⟨rfl, hb1⟩
  have HB1 := Lib.hid hb1
  have LI1 := Lib.hid (LI.out w1 hb1)
  clear HD LI hb1
  go_wp2_with fail
  refine LI1.out.mono ?_
  rintro e w' ⟨lb, rfl, hlb, rfl⟩
  clear LI1
  cases lb with
  | false =>
    have G := Lib.hid (FIN.out _ HB1.out)
    clear FIN
    go_wp2_with fail
    first
      | exact G.out
      | (go_ret; exact G.out)
  | true =>
    obtain ⟨h80, h30, h40⟩ := hlb rfl
    clear hlb
    by_cases hn1' : n < 1
    · have N := Lib.hid (new_none n w1 hn1')
      have O := Lib.hid (open_nil w1)
      have G := Lib.hid (FIN.out _ HB1.out)
      clear FIN
      go_wp2_with fail
      refine N.out.mono ?_
      rintro e w' ⟨rfl, rfl⟩
      go_wp2_with fail
      refine O.out.mono ?_
      rintro e w' ⟨rfl, rfl⟩
      clear N O
      go_wp2_with fail
      first
        | exact G.out
        | (go_ret; exact G.out)
    · obtain ⟨m, rfl⟩ : ∃ m : Nat, n = (m : Int) := ⟨n.toNat, by omega⟩
      have N := Lib.hid (new_any m w1 (by omega) (by omega))
      go_wp2_with fail
      refine N.out.mono ?_
      intro e w2 g1
      obtain ⟨b, bs, bm, rfl, hd, hb, hf, _⟩ := new_fp HB1.out g1
      clear N g1
      by_cases h4 : m < 4
      · have G : Hid (∀ w', Below w2.heap.size w2 w' → R (.returned (.bool true)) w') := fun w' h => FIN.out _ (hb.trans (h.mono hb.size))
        have OP : Hid (Calls Tryd.prog 12 #[.pointer (some ⟨b, 0, none⟩)] w2 fun e w' => Below w2.heap.size w2 w' ∧ e = .returned (.tuple #[.pointer none, .slice none 0 0, .int .i64 1])) := (open_any hd).mono fun e w' h => by
          obtain ⟨h1, ⟨_, h2⟩ | ⟨v, a, r, jb, rv, A, c, h2, _⟩⟩ := h
          · exact ⟨h1, by rw [h2, open_few h4]⟩
          · rw [open_few h4] at h2; cases h2
        clear FIN hd hb hf
        go_wp2_with fail
        refine OP.out.mono ?_
        rintro e w3 ⟨hb, rfl⟩
        have F := Lib.hid (G.out _ hb)
        clear OP G hb
        go_wp2_with fail
        first
          | exact F.out
          | (go_ret; exact F.out)
      · have OP := Lib.hid (open_pi HT.out hb hd hf (found_new (by omega)))
        have G0 := Lib.hid (JFirm.new (n := m) (by omega) (by omega))
        clear hd hb hf
        go_wp2_with fail
        refine OP.out.mono ?_
        rintro e w3 ⟨jb, rv, A3, c3, rfl, hp, ho3, _⟩
        have HST : Hid (RAo w b bs m l (.pointer (some ⟨jb, 0, none⟩)) (.slice A3 0 c3) (.int .i64 0) w3) := ⟨0, jb, bm, _, rv, _, rfl, rfl, Nat.zero_le _, G0.out, hp, ho3⟩
        have M4 : Hid (4 ≤ m) := by show 4 ≤ m; omega
        have M5 : Hid (m ≤ 4000) := by show m ≤ 4000; omega
        clear OP hp ho3 G0
        go_wp2_with fail
        go_loopw [7, 8, 10] (fun vj vb vi wr => RAo w b bs m l vj vb vi wr) (fun _ _ i _ => l.length - (intOf i).toNat)
        case atStart => exact HST.out
        case round =>
          clear HST
          obtain ⟨k, jb, bm1, pv1, rv1, sk, rfl, rfl, hk, hg, hp, hoa⟩ := hrel
          by_cases hlt : k < l.length
          · obtain ⟨x, hx⟩ : ∃ x, l[k]? = some x := ⟨_, List.getElem?_eq_getElem hlt⟩
            have hxo := HOK.out x (List.mem_of_getElem? hx)
            have hxl := h40 x (List.mem_of_getElem? hx)
            have SB : Hid (∀ w', Below w.heap.size w w' → ∃ b1 o1, A = some ⟨b1, o1, none⟩ ∧ w'.cell? ⟨b1, o1 + k * 6, none⟩ = some (.int .u8 x.kind) ∧ w'.cell? ⟨b1, o1 + k * 6 + 1, none⟩ = some (.string x.body) ∧ w'.cell? ⟨b1, o1 + k * 6 + 2, none⟩ = some (.slice x.A x.list.length x.c) ∧ w'.cell? ⟨b1, o1 + k * 6 + 3, none⟩ = some (.int .i64 x.after) ∧ w'.cell? ⟨b1, o1 + k * 6 + 4, none⟩ = some (.int .i64 x.writes) ∧ w'.cell? ⟨b1, o1 + k * 6 + 5, none⟩ = some (.int .i64 x.bytes)) := fun w' hb => by
              obtain ⟨b1, o1, e1, hc1⟩ := (HS.out.below hb (Nat.le_refl _)).at_ hx
              exact ⟨b1, o1, e1, hc1 0 _ rfl, by rw [Nat.add_assoc]; exact hc1 1 _ rfl, by rw [Nat.add_assoc]; exact hc1 2 _ rfl, by rw [Nat.add_assoc]; exact hc1 3 _ rfl, by rw [Nat.add_assoc]; exact hc1 4 _ rfl, by rw [Nat.add_assoc]; exact hc1 5 _ rfl⟩
            have hki : (k : Int) < (l.length : Int) := by omega
            have k0 : (0 : Int) ≤ (k : Int) := by omega
            have HXO := Lib.hid hxo
            have HXL := Lib.hid hxl
            have GE := Lib.hid hg
            obtain ⟨i0, hi, hz0, hz1, hz2⟩ := info_parts infoStr
            have HI := Lib.hid hi
            have HZ0 := Lib.hid hz0
            have HZ1 := Lib.hid hz1
            have HZ2 := Lib.hid hz2
            obtain ⟨A8, n8, c8, rfl⟩ := row_is hoa.row
            obtain ⟨en8, sl8, _⟩ := row_sl hoa.row
            subst en8
            have HW8 := Lib.hid hoa.row
            have NB0 := Lib.hid hoa.ne
            have HP5 := Lib.hid hp
            have LT : Hid (∀ k, JFp jb b bs bm1 pv1 rv1 k → k < wr.heap.size) := fun k hk => hp.j.lt hk
            obtain ⟨xk, body, xA, xc, li, xa, xw, xb⟩ := x
            have hk0 := hxo.k0
            have hk1 := hxo.k1
            have TB : Hid (-9223372036854775808 ≤ Int.tmod xa 10 ∧ Int.tmod xa 10 ≤ 9223372036854775807) := tmod_ten xa
            obtain ⟨b1, o1, rfl, d0, d1, d2, d3, d4, d5⟩ := SB.out wr hp.e.bl
            have SL5 := Lib.hid sl8
            obtain ⟨nr, enr⟩ : ∃ nr, nr = sk.recs.length := ⟨_, rfl⟩
            have LEN5 : Hid (nr = (sk.recs.map tx).length ∧ nr ≤ 1000000) := ⟨by rw [List.length_map]; exact enr, by rw [enr]; exact good_few M5.out GE.out.good⟩
            have ENR := Lib.hid enr
            rw [← enr]
            dsimp only at hk0 hk1 d0 d1 d2 d3 d4 d5
            clear hi hz0 hz1 hz2 hx hxo hxl hp hg hoa sl8 enr d0 d2 d3 d4 d5
            go_wp2_with fail
            refine Free.wp_region_free 9 [(0, .ind (fun b => .slice (some ⟨b, 0, none⟩) 0 0) (fun b w2 => w2.heap[b]? = some (.cells #[] 9 (0, 0)) ∧ wr.heap.size ≤ b)), (2, .ind (fun y => .slice (some ⟨fstN y, 0, none⟩) nr (sndN y)) (fun y w2 => w2.ownsRow wr.heap.size 9 1 (.slice (some ⟨fstN y, 0, none⟩) nr (sndN y)) nr ((sk.recs.map tx).flatMap encS))), (8, .ind (fun b => .slice (some ⟨b, 0, none⟩) 1 1) (fun b w2 => w2.heap[b]? = some (.cells #[.string body] 9 (0, 0))))]
              (fun w2 => Below wr.heap.size wr w2 ∧ w2.cell? ⟨b1, o1 + k * 6 + 1, none⟩ = some (.string body)) (by kernel_rfl) (by kernel_rfl) ?_ ⟨(Below.refl _ _).drew, d1⟩ (fun _ _ h g => ⟨h.1.trans (Below.mono g h.1.size), cell_grow' h.2 g⟩) ?_
            · intro j mk rr hf y w1 w2 hr gr
              simp only [Free.find] at hf
              split at hf
              · cases hf; exact ⟨(gr.block _ (Array.getElem?_eq_some_iff.1 hr.1).1).trans hr.1, hr.2⟩
              · split at hf
                · cases hf; exact rowB hr gr
                · split at hf
                  · cases hf; exact (gr.block _ (Array.getElem?_eq_some_iff.1 hr).1).trans hr
                  · cases hf
            simp only [List.take_succ_cons, List.take_zero]
            clear d1
            apply Free.chain_ind (by first | exact Free.wanted_of rfl rfl rfl | rfl) rfl
            · intro w' hB hA
              refine Free.opRun_of (v := .slice (some ⟨w'.heap.size, 0, none⟩) 0 0) (w' := w'.alloc (.cells #[] 9)) (by clear hB hA; go_light; go_simp <;> rfl) ⟨Free.Grow.alloc _ _, _, rfl, new_at rfl, hB.1.size⟩
            intro b0
            simp only [Act.put, List.setIfInBounds_toArray, List.set_cons_succ, List.set_cons_zero]
            iterate 1 (apply Free.chain_still (by first | exact Free.wanted_of rfl rfl rfl | rfl) rfl; (intro w' hB hA; obtain ⟨qB, q1⟩ := hB; clear hA  qB; go_light; go_simp <;> rfl); (try simp only [Act.put, List.setIfInBounds_toArray, List.set_cons_succ, List.set_cons_zero]))
            apply Free.chain_ind (by first | exact Free.wanted_of rfl rfl rfl | rfl) rfl
            · intro w' hB hA
              have h0 : w'.heap[b0]? = some (.cells #[] 9 (0, 0)) ∧ wr.heap.size ≤ b0 := hA _ List.mem_cons_self (by kernel_rfl)
              obtain ⟨g, cp, w2, hrun, hrow, hg, hcp⟩ := append_newJ w' 28 wr.heap.size b0 h0.1 h0.2 A8 c8 nr (sk.recs.map tx) LEN5.out.1 (SL5.out.below hB.1 (Nat.le_refl _)) (by have := LEN5.out; omega)
              obtain ⟨y, rfl, rfl⟩ := pair_ex g cp hcp
              exact Free.opRun_of (exec_append (s := .tmp 41) (x := .tmp 42) rfl rfl rfl hrun) ⟨hg, y, rfl, hrow⟩
            intro y3
            simp only [Act.put, List.setIfInBounds_toArray, List.set_cons_succ, List.set_cons_zero]
            iterate 5 (apply Free.chain_still (by first | exact Free.wanted_of rfl rfl rfl | rfl) rfl; (intro w' hB hA; obtain ⟨qB, q1⟩ := hB; clear hA  qB; go_light; go_simp <;> rfl); (try simp only [Act.put, List.setIfInBounds_toArray, List.set_cons_succ, List.set_cons_zero]))
            apply Free.chain_ind (by first | exact Free.wanted_of rfl rfl rfl | rfl) rfl
            · intro w' hB hA
              refine Free.opRun_of (v := .slice (some ⟨w'.heap.size, 0, none⟩) 1 1) (w' := w'.alloc (.cells #[.string body] 9)) (by clear hB hA; go_light; go_simp <;> rfl) ⟨Free.Grow.alloc _ _, _, rfl, new_at rfl⟩
            intro b6
            simp only [Act.put, List.setIfInBounds_toArray, List.set_cons_succ, List.set_cons_zero]
            apply Free.chain_nil
            intro wy hBz _ hh
            have hz6 : wy.heap[b6]? = some (.cells #[.string body] 9 (0, 0)) := hh _ List.mem_cons_self
            have hz3 : wy.ownsRow wr.heap.size 9 1 (.slice (some ⟨fstN y3, 0, none⟩) nr (sndN y3)) nr ((sk.recs.map tx).flatMap encS) := hh _ (List.mem_cons_of_mem _ List.mem_cons_self)
            simp only [List.drop_succ_cons, List.drop_zero]
            have HZ6 := Lib.hid hz6
            have HZ3 := Lib.hid hz3
            have HBY := Lib.hid hBz.1
            clear hz6 hz3 hBz hh
            refine wpList_append_list (ec := encS) rfl (.tmp 43) (.tmp 49) 28 rfl wr.heap.size 9 i0 _ 16 Tryd.underlying28 HI.out HZ0.out HZ1.out HZ2.out rfl (by decide) encSlen encSone _ _ _ rfl HZ3.out (some ⟨b6, 0, none⟩) 1 [body] rfl (sl_of_cells encSlen HZ6.out (fun j u hu => by simpa [encS] using hu)) (by have : maxLen = 9223372036854775807 := rfl; have := LEN5.out; simp only [List.length_cons, List.length_nil]; omega) (by have := LEN5.out; simp only [List.length_cons, List.length_nil]; omega) HBY.out.size ?_
            intro v7 w7 hown7 hg7 _
            have hb7 : Below wr.heap.size wr w7 := HBY.out.grown hg7 HBY.out.size (fun j e => (HZ3.out.lt j e).1)
            have hr7 : RowT w7 wr.heap.size v7 (sk.recs ++ [body.data.toList]) := by
              unfold RowT
              rw [row_snoc, tx_of, List.length_append, ← ENR.out]
              exact hown7
            have HP7 := Lib.hid (HP5.out.grow hb7)
            have S7 : Hid (wr.heap.size ≤ w7.heap.size) := hb7.size
            have HW7 := Lib.hid (rowB HW8.out hb7)
            obtain ⟨A7, n7, c7, rfl⟩ := row_is hr7
            obtain ⟨en7, _, _⟩ := row_sl hr7
            have EN7 := Lib.hid en7
            have HR7 := Lib.hid hr7
            obtain ⟨b2, o2, e2, d0, d1, d2, d3, d4, d5⟩ := SB.out w7 HP7.out.e.bl
            cases e2
            rw [ENR.out]
            clear hown7 hg7 hb7 hr7 HZ6 HZ3 HBY SL5 LEN5 HW8 HP5 ENR en7
            by_cases hev : xk % 2 = 0
            · have ht : Int.tmod xk 2 = 0 := by rw [Int.tmod_eq_emod_of_nonneg hk0]; exact hev
              obtain ⟨af, eaf⟩ : ∃ af, af = sk.recs ++ [body.data.toList] := ⟨_, rfl⟩
              have AFL : Hid (af.length ≤ 1000001) := by show _ ≤ _; rw [eaf, List.length_append]; have := good_few M5.out GE.out.good; simp; omega
              have HAF0 := HR7.out
              rw [EN7.out, ← eaf] at HAF0
              have HA7 := Lib.hid HAF0
              rw [EN7.out, ← eaf]
              have NB1 : Hid (∀ k, (Value.slice A8 sk.recs.length c8).ownBlock = some k → ¬ JFp jb b bs bm1 pv1 rv1 k) := NB0.out
              have NA1 : Hid (∀ k, (Value.slice A7 af.length c7).ownBlock = some k → ¬ JFp jb b bs bm1 pv1 rv1 k) := fun q hq hf => by have h1 := (World.ownsRow.lt HA7.out q hq).1; have h2 := LT.out q hf; omega
              have EAF := Lib.hid eaf
              clear eaf HAF0 HR7 EN7 NB0
              go_wp2_with fail
              refine Free.wp_region_free 17 [] (fun w2 => Below w7.heap.size w7 w2 ∧ w2.cell? ⟨b1, o1 + k * 6 + 3, none⟩ = some (.int .i64 xa) ∧ w2.cell? ⟨b1, o1 + k * 6 + 4, none⟩ = some (.int .i64 xw) ∧ w2.cell? ⟨b1, o1 + k * 6 + 5, none⟩ = some (.int .i64 xb)) (by kernel_rfl) (by kernel_rfl) (Free.mono_det (fun j mk r hf => by simp only [Free.find] at hf; repeat' (first | cases hf | split at hf))) ⟨(Below.refl _ _).drew, d3, d4, d5⟩ (fun _ _ h g => ⟨h.1.trans (Below.mono g h.1.size), cell_grow' h.2.1 g, cell_grow' h.2.2.1 g, cell_grow' h.2.2.2 g⟩) ?_
              simp only [List.take_succ_cons, List.take_zero]
              clear d0 d1 d2 d3 d4 d5
              iterate 17 (apply Free.chain_still (by first | exact Free.wanted_of rfl rfl rfl | rfl) rfl; (intro w' hB hA; obtain ⟨qB, q3, q4, q5⟩ := hB; clear hA  qB; go_light; go_simp <;> rfl); (try simp only [Act.put, List.setIfInBounds_toArray, List.set_cons_succ, List.set_cons_zero]))
              apply Free.chain_nil
              intro wy hBz _ _
              simp only [List.drop_succ_cons, List.drop_zero]
              have HPY := Lib.hid (HP7.out.grow hBz.1)
              have HBEFY := Lib.hid (rowB HW7.out hBz.1)
              have HAFTY := Lib.hid (rowB HA7.out hBz.1)
              have ARM := Lib.hid (dk_arm HPY.out.j.disk (Int.tmod xa 10) xw xb TB.out.1 TB.out.2 HXO.out.w0 HXO.out.w1 HXO.out.b0 HXO.out.b1)
              clear hBz HP7 HW7 HA7
              go_wp2_with fail
              refine ARM.out.mono ?_
              intro e w5 hq
              obtain ⟨rfl, bm5, pv5, hp5, kk5, ff5⟩ := HPY.out.disk hq
              obtain ⟨dk, edk⟩ : ∃ dk, dk = sk.d.arm (Int.tmod xa 10) xw xb := ⟨_, rfl⟩
              rw [← edk] at hp5
              have DK : Hid (dk.st = sk.d.st ∧ dk.Ok m ∧ dk.on = true ∧ dk.pend = []) := by
                rw [edk]
                refine ⟨by unfold DD.arm; rw [if_pos GE.out.good.on], arm_ok GE.out.good.ok TB.out.1 TB.out.2 HXO.out.w0 HXO.out.w1 HXO.out.b0 HXO.out.b1, by unfold DD.arm; rw [if_pos GE.out.good.on]; exact GE.out.good.on, by unfold DD.arm; rw [if_pos GE.out.good.on]; exact GE.out.good.pend⟩
              have NB5 : Hid (∀ k, (Value.slice A8 sk.recs.length c8).ownBlock = some k → ¬ JFp jb b bs bm5 pv5 rv1 k) := fun q hq hf => (ff5 q hf).elim (NB1.out q hq) (fun h => by have := (World.ownsRow.lt HBEFY.out q hq).2; omega)
              have NA5 : Hid (∀ k, (Value.slice A7 af.length c7).ownBlock = some k → ¬ JFp jb b bs bm5 pv5 rv1 k) := fun q hq hf => (ff5 q hf).elim (NA1.out q hq) (fun h => by have := (World.ownsRow.lt HAFTY.out q hq).2; omega)
              have HBEF5 := Lib.hid (rowK HBEFY.out kk5 NB1.out)
              have HAFT5 := Lib.hid (rowK HAFTY.out kk5 NA1.out)
              have HP5 := Lib.hid hp5
              obtain ⟨b2, o2, e2, d0, d1, d2, d3, d4, d5⟩ := SB.out w5 hp5.e.bl
              cases e2
              clear ARM hq hp5 kk5 ff5 HPY HBEFY HAFTY edk NA1 NB1
              obtain ⟨r, er⟩ : ∃ r, r = JS.append m { sk with d := dk } body.data.toList := ⟨_, rfl⟩
              have AP := Lib.hid (append_any body HP5.out.j (fun _ => DK.out.2.2.1) (by show dk.pend.length ≤ _; rw [DK.out.2.2.2]; exact Nat.zero_le _) (good_few (s := sk) M5.out GE.out.good) HXO.out.body HP5.out.e)
              rw [← er] at AP
              have AT : Hid (Atom m sk k r af) := by rw [er, EAF.out]; exact atom_append M4.out GE.out (by omega) DK.out.1 DK.out.2.1 DK.out.2.2.1 DK.out.2.2.2 _
              clear er EAF DK
              go_wp2_with fail
              refine AP.out.mono ?_
              intro e w6 hj
              obtain ⟨rfl, bm2, pv2, rv2, p2, kk, ff⟩ := HP5.out.next (s' := r.1) (c := r.2) hj
              have HPN := Lib.hid p2
              have HBEF := Lib.hid (rowK HBEF5.out kk NB5.out)
              have HAFT := Lib.hid (rowK HAFT5.out kk NA5.out)
              have NB : Hid (∀ k, (Value.slice A8 sk.recs.length c8).ownBlock = some k → ¬ JFp jb b bs bm2 pv2 rv2 k) := fun q hq hf => (ff q hf).elim (NB5.out q hq) (fun h => by have := (World.ownsRow.lt HBEF5.out q hq).2; omega)
              have NA : Hid (∀ k, (Value.slice A7 af.length c7).ownBlock = some k → ¬ JFp jb b bs bm2 pv2 rv2 k) := fun q hq hf => (ff q hf).elim (NA5.out q hq) (fun h => by have := (World.ownsRow.lt HAFT5.out q hq).2; omega)
              obtain ⟨b3, o3, e3, d0, d1, d2, d3, d4, d5⟩ := SB.out w6 p2.e.bl
              cases e3
              clear AP hj kk ff p2 HP5 HBEF5 HAFT5 NA5 NB5 d0 d1 d2 d3 d4 d5
              by_cases hc21 : r.2 = 21
              · have hcb : (r.2 == 21) = true := by simpa using hc21
                have ST := Lib.hid (dk_start HPN.out.j.disk)
                go_wp2_with fail
                refine ST.out.mono ?_
                intro e w7 hq
                obtain ⟨rfl, bm7, pv7, hp7, kk7, ff7⟩ := HPN.out.disk hq
                have HP7 := Lib.hid hp7
                have HBEF7 := Lib.hid (rowK HBEF.out kk7 NB.out)
                have HAFT7 := Lib.hid (rowK HAFT.out kk7 NA.out)
                have NB7 : Hid (∀ k, (Value.slice A8 sk.recs.length c8).ownBlock = some k → ¬ JFp jb b bs bm7 pv7 rv2 k) := fun q hq hf => (ff7 q hf).elim (NB.out q hq) (fun h => by have := (World.ownsRow.lt HBEF.out q hq).2; omega)
                have NA7 : Hid (∀ k, (Value.slice A7 af.length c7).ownBlock = some k → ¬ JFp jb b bs bm7 pv7 rv2 k) := fun q hq hf => (ff7 q hf).elim (NA.out q hq) (fun h => by have := (World.ownsRow.lt HAFT.out q hq).2; omega)
                have ARM := Lib.hid (dk_arm hp7.j.disk (-1) 0 0 (by decide) (by decide) (by decide) (by decide) (by decide) (by decide))
                clear ST hq hp7 kk7 ff7 HPN HBEF HAFT NA NB
                go_wp2_with fail
                refine ARM.out.mono ?_
                intro e w9 hq
                obtain ⟨rfl, bm9, pv9, hp9, kk9, ff9⟩ := HP7.out.disk hq
                have HPA := Lib.hid hp9
                have HBEFA := Lib.hid (rowK HBEF7.out kk9 NB7.out)
                have HAFTA := Lib.hid (rowK HAFT7.out kk9 NA7.out)
                clear ARM hq hp9 kk9 ff9 HP7 HBEF7 HAFT7 NA7 NB7
                obtain ⟨v2, a2, rec, ho2, hf2, hor, h0, h1⟩ := AT.out _ (.inl ⟨hc21, rfl⟩)
                have OP := Lib.hid (open_pi HT.out HPA.out.e.bl HPA.out.j.disk HPA.out.e.f ho2)
                have HF2 := Lib.hid hf2
                have HOR := Lib.hid hor
                have HC0 := Lib.hid h0
                have HC1 := Lib.hid h1
                clear ho2 hf2 hor h0 h1
                go_wp2_with fail
                refine OP.out.mono ?_
                rintro e w10 ⟨jb10, rv10, A10, c10, rfl, hp10, ho10, hb10⟩
                have HP10 := Lib.hid hp10
                have HO10 := Lib.hid ho10
                have HBEF10 := Lib.hid (rowB HBEFA.out hb10)
                have HAFT10 := Lib.hid (rowB HAFTA.out hb10)
                clear OP hp10 ho10 hb10 HPA HBEFA HAFTA
                have FG := Lib.hid (good_few M5.out HF2.out.good)
                have SM1 := Lib.hid (same_gen HO10.out.row HBEF10.out FG.out (Nat.le_succ_of_le (good_few M5.out GE.out.good)))
                have hone : decide (rec.map tx = sk.recs.map tx) = true ∨ decide (rec.map tx = af.map tx) = true := HOR.out.imp (fun e => decide_eq_true (by rw [e])) (fun e => decide_eq_true (by rw [e]))
                have htw : r.2 = 0 → decide (rec.map tx = af.map tx) = true := fun e => decide_eq_true (by rw [HC0.out e])
                have hon1 : r.2 ≠ 0 → r.2 ≠ 21 → decide (rec.map tx = sk.recs.map tx) = true := fun e e2 => decide_eq_true (by rw [HC1.out e e2])
                obtain ⟨one, eone⟩ : ∃ one, one = decide (rec.map tx = sk.recs.map tx) := ⟨_, rfl⟩
                obtain ⟨two, etwo⟩ : ∃ two, two = decide (rec.map tx = af.map tx) := ⟨_, rfl⟩
                rw [← eone] at hone hon1 SM1
                rw [← etwo] at hone htw
                have ETWO := Lib.hid etwo
                have HONE := Lib.hid hone
                have HTW := Lib.hid htw
                have HON1 := Lib.hid hon1
                clear eone etwo hone htw hon1
                go_wp2_with fail
                refine SM1.out.mono ?_
                rintro e w11 ⟨rfl, hb11⟩
                have HP11 := Lib.hid (HP10.out.grow hb11)
                have HO11 := Lib.hid (HO10.out.grow hb11)
                have HAFT11 := Lib.hid (rowB HAFT10.out hb11)
                have SM2 := Lib.hid (same_gen HO11.out.row HAFT11.out FG.out AFL.out)
                rw [← ETWO.out] at SM2
                clear SM1 hb11 HP10 HO10 HAFT10 HBEF10
                go_wp2_with fail
                refine SM2.out.mono ?_
                rintro e w12 ⟨rfl, hb12⟩
                have hp12 := HP11.out.grow hb12
                have KEY : Hid (RAo w b bs m l (.pointer (some ⟨jb10, 0, none⟩)) (.slice A10 rec.length c10) (.int .i64 ((k : Int) + 1)) w12) := ⟨k + 1, jb10, bm9, pv9, rv10, _, rfl, by go_num, by omega, HF2.out, hp12, HO11.out.grow hb12⟩
                obtain ⟨b4, o4, e4, d0, d1, d2, d3, d4, d5⟩ := SB.out w12 hp12.e.bl
                cases e4
                clear SM2 hb12 hp12 HP11 HO11 HAFT11
                have hc0 : (r.2 == 0) = false := by rw [hc21]; decide
                have hn21 : (21 : Int) ≠ 0 := by decide
                cases two with
                | true =>
                  cases one with
                  | true =>
                    go_wp2_with fail
                    go_roundw
                    case rel =>
                      go_light
                      have key := KEY.out
                      first | exact key | ((repeat apply Exists.intro); exact ⟨key, rfl⟩)
                    case measure => simp [intOf]; omega
                  | false =>
                    go_wp2_with fail
                    go_roundw
                    case rel =>
                      go_light
                      have key := KEY.out
                      first | exact key | ((repeat apply Exists.intro); exact ⟨key, rfl⟩)
                    case measure => simp [intOf]; omega
                | false =>
                  cases one with
                  | true =>
                    go_wp2_with fail
                    go_roundw
                    case rel =>
                      go_light
                      have key := KEY.out
                      first | exact key | ((repeat apply Exists.intro); exact ⟨key, rfl⟩)
                    case measure => simp [intOf]; omega
                  | false => exact absurd HONE.out (by simp)
              · have hcb : (r.2 == 21) = false := by simpa using hc21
                have ARM := Lib.hid (dk_arm HPN.out.j.disk (-1) 0 0 (by decide) (by decide) (by decide) (by decide) (by decide) (by decide))
                go_wp2_with fail
                refine ARM.out.mono ?_
                intro e w9 hq
                obtain ⟨rfl, bm9, pv9, hp9, kk9, ff9⟩ := HPN.out.disk hq
                have HPA := Lib.hid hp9
                have HBEFA := Lib.hid (rowK HBEF.out kk9 NB.out)
                have HAFTA := Lib.hid (rowK HAFT.out kk9 NA.out)
                clear ARM hq hp9 kk9 ff9 HPN HBEF HAFT NA NB
                obtain ⟨v2, a2, rec, ho2, hf2, hor, h0, h1⟩ := AT.out _ (.inr ⟨hc21, rfl⟩)
                have OP := Lib.hid (open_pi HT.out HPA.out.e.bl HPA.out.j.disk HPA.out.e.f ho2)
                have HF2 := Lib.hid hf2
                have HOR := Lib.hid hor
                have HC0 := Lib.hid h0
                have HC1 := Lib.hid h1
                clear ho2 hf2 hor h0 h1
                go_wp2_with fail
                refine OP.out.mono ?_
                rintro e w10 ⟨jb10, rv10, A10, c10, rfl, hp10, ho10, hb10⟩
                have HP10 := Lib.hid hp10
                have HO10 := Lib.hid ho10
                have HBEF10 := Lib.hid (rowB HBEFA.out hb10)
                have HAFT10 := Lib.hid (rowB HAFTA.out hb10)
                clear OP hp10 ho10 hb10 HPA HBEFA HAFTA
                have FG := Lib.hid (good_few M5.out HF2.out.good)
                have SM1 := Lib.hid (same_gen HO10.out.row HBEF10.out FG.out (Nat.le_succ_of_le (good_few M5.out GE.out.good)))
                have hone : decide (rec.map tx = sk.recs.map tx) = true ∨ decide (rec.map tx = af.map tx) = true := HOR.out.imp (fun e => decide_eq_true (by rw [e])) (fun e => decide_eq_true (by rw [e]))
                have htw : r.2 = 0 → decide (rec.map tx = af.map tx) = true := fun e => decide_eq_true (by rw [HC0.out e])
                have hon1 : r.2 ≠ 0 → r.2 ≠ 21 → decide (rec.map tx = sk.recs.map tx) = true := fun e e2 => decide_eq_true (by rw [HC1.out e e2])
                obtain ⟨one, eone⟩ : ∃ one, one = decide (rec.map tx = sk.recs.map tx) := ⟨_, rfl⟩
                obtain ⟨two, etwo⟩ : ∃ two, two = decide (rec.map tx = af.map tx) := ⟨_, rfl⟩
                rw [← eone] at hone hon1 SM1
                rw [← etwo] at hone htw
                have ETWO := Lib.hid etwo
                have HONE := Lib.hid hone
                have HTW := Lib.hid htw
                have HON1 := Lib.hid hon1
                clear eone etwo hone htw hon1
                go_wp2_with fail
                refine SM1.out.mono ?_
                rintro e w11 ⟨rfl, hb11⟩
                have HP11 := Lib.hid (HP10.out.grow hb11)
                have HO11 := Lib.hid (HO10.out.grow hb11)
                have HAFT11 := Lib.hid (rowB HAFT10.out hb11)
                have SM2 := Lib.hid (same_gen HO11.out.row HAFT11.out FG.out AFL.out)
                rw [← ETWO.out] at SM2
                clear SM1 hb11 HP10 HO10 HAFT10 HBEF10
                go_wp2_with fail
                refine SM2.out.mono ?_
                rintro e w12 ⟨rfl, hb12⟩
                have hp12 := HP11.out.grow hb12
                have KEY : Hid (RAo w b bs m l (.pointer (some ⟨jb10, 0, none⟩)) (.slice A10 rec.length c10) (.int .i64 ((k : Int) + 1)) w12) := ⟨k + 1, jb10, bm9, pv9, rv10, _, rfl, by go_num, by omega, HF2.out, hp12, HO11.out.grow hb12⟩
                obtain ⟨b4, o4, e4, d0, d1, d2, d3, d4, d5⟩ := SB.out w12 hp12.e.bl
                cases e4
                clear SM2 hb12 hp12 HP11 HO11 HAFT11
                by_cases hc0' : r.2 = 0
                · have hc0 : (r.2 == 0) = true := by simpa using hc0'
                  obtain rfl : two = true := HTW.out hc0'
                  cases one with
                  | true =>
                    go_wp2_with fail
                    go_roundw
                    case rel =>
                      go_light
                      have key := KEY.out
                      first | exact key | ((repeat apply Exists.intro); exact ⟨key, rfl⟩)
                    case measure => simp [intOf]; omega
                  | false =>
                    go_wp2_with fail
                    go_roundw
                    case rel =>
                      go_light
                      have key := KEY.out
                      first | exact key | ((repeat apply Exists.intro); exact ⟨key, rfl⟩)
                    case measure => simp [intOf]; omega
                · have hc0 : (r.2 == 0) = false := by simpa using hc0'
                  obtain rfl : one = true := HON1.out hc0' hc21
                  cases two with
                  | true =>
                    go_wp2_with fail
                    go_roundw
                    case rel =>
                      go_light
                      have key := KEY.out
                      first | exact key | ((repeat apply Exists.intro); exact ⟨key, rfl⟩)
                    case measure => simp [intOf]; omega
                  | false =>
                    go_wp2_with fail
                    go_roundw
                    case rel =>
                      go_light
                      have key := KEY.out
                      first | exact key | ((repeat apply Exists.intro); exact ⟨key, rfl⟩)
                    case measure => simp [intOf]; omega
            · have ht : Int.tmod xk 2 = 1 := by rw [Int.tmod_eq_emod_of_nonneg hk0]; omega
              have hB := HP7.out.e.bl.size
              have HM : Hid ((w7.alloc (.cells #[] 9)).ownsRow w7.heap.size 9 1 (.slice (some ⟨w7.heap.size, 0, none⟩) 0 0) 0 []) := World.ownsRow_made w7 #[] 0 (Nat.le_refl _) (by decide) rfl
              have HSL : Hid (SL (w7.alloc (.cells #[] 9)) 1 encS xA li) := HXO.out.sl.below (HP7.out.e.bl.alloc hB _) (Nat.le_refl _)
              have hll : li.length ≤ 40 := HXL.out
              obtain ⟨b2, o2, e2, f0, f1, f2, f3, f4, f5⟩ := SB.out (w7.alloc (.cells #[] 9)) (HP7.out.e.bl.alloc hB _)
              cases e2
              have HLL := Lib.hid hll
              clear HR7 EN7
              go_wp2_with (at_builtin; refine wpList_append_list (ec := encS) rfl (.tmp 58) (.tmp 63) 28 rfl w7.heap.size 9 i0 _ 16 Tryd.underlying28 HI.out HZ0.out HZ1.out HZ2.out rfl (by decide) encSlen encSone _ 0 [] rfl HM.out xA xc li rfl HSL.out (by have : maxLen = 9223372036854775807 := rfl; omega) (by omega) (by simp) ?_)
              intro v8 w8 hown8 hg8 _
              have hb8 : Below w7.heap.size w7 w8 := ((Below.refl _ w7).alloc (Nat.le_refl _) (.cells #[] 9)).grown hg8 (by simp) (fun j e => (HM.out.lt j e).1)
              have hr8 : RowT w8 w7.heap.size v8 (recsOf li) := by
                unfold RowT
                rw [recsOf_tx, recsOf_len]
                have e0 : 0 + li.length = li.length := Nat.zero_add _
                first
                  | exact hown8
                  | (rw [e0] at hown8; exact hown8)
                  | simpa using hown8
              have HP8 := Lib.hid (HP7.out.grow hb8)
              have HW8 := Lib.hid (rowB HW7.out hb8)
              obtain ⟨A9, n9, c9, rfl⟩ := row_is hr8
              obtain ⟨af, eaf⟩ : ∃ af, af = recsOf li := ⟨_, rfl⟩
              rw [← eaf] at hr8
              obtain ⟨en9, _, _⟩ := row_sl hr8
              subst en9
              have HA8 := Lib.hid hr8
              have EAF := Lib.hid eaf
              have AFL : Hid (af.length ≤ 1000001) := by show _ ≤ _; rw [eaf, recsOf_len]; have := HLL.out; omega
              have NB1 : Hid (∀ k, (Value.slice A8 sk.recs.length c8).ownBlock = some k → ¬ JFp jb b bs bm1 pv1 rv1 k) := NB0.out
              have NA1 : Hid (∀ k, (Value.slice A9 af.length c9).ownBlock = some k → ¬ JFp jb b bs bm1 pv1 rv1 k) := fun q hq hf => by have h1 := (World.ownsRow.lt HA8.out q hq).1; have h2 := LT.out q hf; have h3 := S7.out; omega
              obtain ⟨b3, o3, e3, d0, d1, d2, d3, d4, d5⟩ := SB.out w8 HP8.out.e.bl
              cases e3
              clear hown8 hg8 hb8 hr8 eaf HM HSL f0 f1 f2 f3 f4 f5 HP7 HW7 hll NB0
              go_wp2_with fail
              refine Free.wp_region_free 17 [] (fun w2 => Below w8.heap.size w8 w2 ∧ w2.cell? ⟨b1, o1 + k * 6 + 3, none⟩ = some (.int .i64 xa) ∧ w2.cell? ⟨b1, o1 + k * 6 + 4, none⟩ = some (.int .i64 xw) ∧ w2.cell? ⟨b1, o1 + k * 6 + 5, none⟩ = some (.int .i64 xb)) (by kernel_rfl) (by kernel_rfl) (Free.mono_det (fun j mk r hf => by simp only [Free.find] at hf; repeat' (first | cases hf | split at hf))) ⟨(Below.refl _ _).drew, d3, d4, d5⟩ (fun _ _ h g => ⟨h.1.trans (Below.mono g h.1.size), cell_grow' h.2.1 g, cell_grow' h.2.2.1 g, cell_grow' h.2.2.2 g⟩) ?_
              simp only [List.take_succ_cons, List.take_zero]
              clear d0 d1 d2 d3 d4 d5
              iterate 17 (apply Free.chain_still (by first | exact Free.wanted_of rfl rfl rfl | rfl) rfl; (intro w' hB hA; obtain ⟨qB, q3, q4, q5⟩ := hB; clear hA  qB; go_light; go_simp <;> rfl); (try simp only [Act.put, List.setIfInBounds_toArray, List.set_cons_succ, List.set_cons_zero]))
              apply Free.chain_nil
              intro wy hBz _ _
              simp only [List.drop_succ_cons, List.drop_zero]
              have HPY := Lib.hid (HP8.out.grow hBz.1)
              have HBEFY := Lib.hid (rowB HW8.out hBz.1)
              have HAFTY := Lib.hid (rowB HA8.out hBz.1)
              have ARM := Lib.hid (dk_arm HPY.out.j.disk (Int.tmod xa 10) xw xb TB.out.1 TB.out.2 HXO.out.w0 HXO.out.w1 HXO.out.b0 HXO.out.b1)
              clear hBz HP8 HW8 HA8
              go_wp2_with fail
              refine ARM.out.mono ?_
              intro e w5 hq
              obtain ⟨rfl, bm5, pv5, hp5, kk5, ff5⟩ := HPY.out.disk hq
              obtain ⟨dk, edk⟩ : ∃ dk, dk = sk.d.arm (Int.tmod xa 10) xw xb := ⟨_, rfl⟩
              rw [← edk] at hp5
              have DK : Hid (dk.st = sk.d.st ∧ dk.Ok m ∧ dk.on = true ∧ dk.pend = []) := by
                rw [edk]
                refine ⟨by unfold DD.arm; rw [if_pos GE.out.good.on], arm_ok GE.out.good.ok TB.out.1 TB.out.2 HXO.out.w0 HXO.out.w1 HXO.out.b0 HXO.out.b1, by unfold DD.arm; rw [if_pos GE.out.good.on]; exact GE.out.good.on, by unfold DD.arm; rw [if_pos GE.out.good.on]; exact GE.out.good.pend⟩
              have NB5 : Hid (∀ k, (Value.slice A8 sk.recs.length c8).ownBlock = some k → ¬ JFp jb b bs bm5 pv5 rv1 k) := fun q hq hf => (ff5 q hf).elim (NB1.out q hq) (fun h => by have := (World.ownsRow.lt HBEFY.out q hq).2; omega)
              have NA5 : Hid (∀ k, (Value.slice A9 af.length c9).ownBlock = some k → ¬ JFp jb b bs bm5 pv5 rv1 k) := fun q hq hf => (ff5 q hf).elim (NA1.out q hq) (fun h => by have := (World.ownsRow.lt HAFTY.out q hq).2; omega)
              have HBEF5 := Lib.hid (rowK HBEFY.out kk5 NB1.out)
              have HAFT5 := Lib.hid (rowK HAFTY.out kk5 NA1.out)
              have HP5 := Lib.hid hp5
              obtain ⟨b2, o2, e2, d0, d1, d2, d3, d4, d5⟩ := SB.out w5 hp5.e.bl
              cases e2
              clear ARM hq hp5 kk5 ff5 HPY HBEFY HAFTY edk NA1 NB1
              obtain ⟨r, er⟩ : ∃ r, r = JS.compact m { sk with d := dk } af := ⟨_, rfl⟩
              have CM := Lib.hid (compact_any (c := xc) li HP5.out.j (fun _ _ => DK.out.2.2.1) (by show dk.pend.length ≤ _; rw [DK.out.2.2.2]; exact Nat.zero_le _) (HXO.out.sl.below HP5.out.e.bl (Nat.le_refl _)) (fun w' hk => HXO.out.sl.below (HP5.out.e.bl.trans (hk.below (fun k hk => HP5.out.fp hk) HP5.out.e.bl.size)) (Nat.le_refl _)) (by have := HLL.out; omega) HP5.out.e)
              rw [← EAF.out, ← er] at CM
              have AT : Hid (Atom m sk k r af) := by rw [er]; exact atom_compact M4.out GE.out (by omega) DK.out.1 DK.out.2.1 DK.out.2.2.1 DK.out.2.2.2 _
              clear er EAF DK
              go_wp2_with fail
              refine CM.out.mono ?_
              intro e w6 hj
              obtain ⟨rfl, bm2, pv2, rv2, p2, kk, ff⟩ := HP5.out.next (s' := r.1) (c := r.2) hj
              have HPN := Lib.hid p2
              have HBEF := Lib.hid (rowK HBEF5.out kk NB5.out)
              have HAFT := Lib.hid (rowK HAFT5.out kk NA5.out)
              have NB : Hid (∀ k, (Value.slice A8 sk.recs.length c8).ownBlock = some k → ¬ JFp jb b bs bm2 pv2 rv2 k) := fun q hq hf => (ff q hf).elim (NB5.out q hq) (fun h => by have := (World.ownsRow.lt HBEF5.out q hq).2; omega)
              have NA : Hid (∀ k, (Value.slice A9 af.length c9).ownBlock = some k → ¬ JFp jb b bs bm2 pv2 rv2 k) := fun q hq hf => (ff q hf).elim (NA5.out q hq) (fun h => by have := (World.ownsRow.lt HAFT5.out q hq).2; omega)
              obtain ⟨b3, o3, e3, d0, d1, d2, d3, d4, d5⟩ := SB.out w6 p2.e.bl
              cases e3
              clear CM hj kk ff p2 HP5 HBEF5 HAFT5 NA5 NB5 d0 d1 d2 d3 d4 d5
              by_cases hc21 : r.2 = 21
              · have hcb : (r.2 == 21) = true := by simpa using hc21
                have ST := Lib.hid (dk_start HPN.out.j.disk)
                go_wp2_with fail
                refine ST.out.mono ?_
                intro e w7 hq
                obtain ⟨rfl, bm7, pv7, hp7, kk7, ff7⟩ := HPN.out.disk hq
                have HP7 := Lib.hid hp7
                have HBEF7 := Lib.hid (rowK HBEF.out kk7 NB.out)
                have HAFT7 := Lib.hid (rowK HAFT.out kk7 NA.out)
                have NB7 : Hid (∀ k, (Value.slice A8 sk.recs.length c8).ownBlock = some k → ¬ JFp jb b bs bm7 pv7 rv2 k) := fun q hq hf => (ff7 q hf).elim (NB.out q hq) (fun h => by have := (World.ownsRow.lt HBEF.out q hq).2; omega)
                have NA7 : Hid (∀ k, (Value.slice A9 af.length c9).ownBlock = some k → ¬ JFp jb b bs bm7 pv7 rv2 k) := fun q hq hf => (ff7 q hf).elim (NA.out q hq) (fun h => by have := (World.ownsRow.lt HAFT.out q hq).2; omega)
                have ARM := Lib.hid (dk_arm hp7.j.disk (-1) 0 0 (by decide) (by decide) (by decide) (by decide) (by decide) (by decide))
                clear ST hq hp7 kk7 ff7 HPN HBEF HAFT NA NB
                go_wp2_with fail
                refine ARM.out.mono ?_
                intro e w9 hq
                obtain ⟨rfl, bm9, pv9, hp9, kk9, ff9⟩ := HP7.out.disk hq
                have HPA := Lib.hid hp9
                have HBEFA := Lib.hid (rowK HBEF7.out kk9 NB7.out)
                have HAFTA := Lib.hid (rowK HAFT7.out kk9 NA7.out)
                clear ARM hq hp9 kk9 ff9 HP7 HBEF7 HAFT7 NA7 NB7
                obtain ⟨v2, a2, rec, ho2, hf2, hor, h0, h1⟩ := AT.out _ (.inl ⟨hc21, rfl⟩)
                have OP := Lib.hid (open_pi HT.out HPA.out.e.bl HPA.out.j.disk HPA.out.e.f ho2)
                have HF2 := Lib.hid hf2
                have HOR := Lib.hid hor
                have HC0 := Lib.hid h0
                have HC1 := Lib.hid h1
                clear ho2 hf2 hor h0 h1
                go_wp2_with fail
                refine OP.out.mono ?_
                rintro e w10 ⟨jb10, rv10, A10, c10, rfl, hp10, ho10, hb10⟩
                have HP10 := Lib.hid hp10
                have HO10 := Lib.hid ho10
                have HBEF10 := Lib.hid (rowB HBEFA.out hb10)
                have HAFT10 := Lib.hid (rowB HAFTA.out hb10)
                clear OP hp10 ho10 hb10 HPA HBEFA HAFTA
                have FG := Lib.hid (good_few M5.out HF2.out.good)
                have SM1 := Lib.hid (same_gen HO10.out.row HBEF10.out FG.out (Nat.le_succ_of_le (good_few M5.out GE.out.good)))
                have hone : decide (rec.map tx = sk.recs.map tx) = true ∨ decide (rec.map tx = af.map tx) = true := HOR.out.imp (fun e => decide_eq_true (by rw [e])) (fun e => decide_eq_true (by rw [e]))
                have htw : r.2 = 0 → decide (rec.map tx = af.map tx) = true := fun e => decide_eq_true (by rw [HC0.out e])
                have hon1 : r.2 ≠ 0 → r.2 ≠ 21 → decide (rec.map tx = sk.recs.map tx) = true := fun e e2 => decide_eq_true (by rw [HC1.out e e2])
                obtain ⟨one, eone⟩ : ∃ one, one = decide (rec.map tx = sk.recs.map tx) := ⟨_, rfl⟩
                obtain ⟨two, etwo⟩ : ∃ two, two = decide (rec.map tx = af.map tx) := ⟨_, rfl⟩
                rw [← eone] at hone hon1 SM1
                rw [← etwo] at hone htw
                have ETWO := Lib.hid etwo
                have HONE := Lib.hid hone
                have HTW := Lib.hid htw
                have HON1 := Lib.hid hon1
                clear eone etwo hone htw hon1
                go_wp2_with fail
                refine SM1.out.mono ?_
                rintro e w11 ⟨rfl, hb11⟩
                have HP11 := Lib.hid (HP10.out.grow hb11)
                have HO11 := Lib.hid (HO10.out.grow hb11)
                have HAFT11 := Lib.hid (rowB HAFT10.out hb11)
                have SM2 := Lib.hid (same_gen HO11.out.row HAFT11.out FG.out AFL.out)
                rw [← ETWO.out] at SM2
                clear SM1 hb11 HP10 HO10 HAFT10 HBEF10
                go_wp2_with fail
                refine SM2.out.mono ?_
                rintro e w12 ⟨rfl, hb12⟩
                have hp12 := HP11.out.grow hb12
                have KEY : Hid (RAo w b bs m l (.pointer (some ⟨jb10, 0, none⟩)) (.slice A10 rec.length c10) (.int .i64 ((k : Int) + 1)) w12) := ⟨k + 1, jb10, bm9, pv9, rv10, _, rfl, by go_num, by omega, HF2.out, hp12, HO11.out.grow hb12⟩
                obtain ⟨b4, o4, e4, d0, d1, d2, d3, d4, d5⟩ := SB.out w12 hp12.e.bl
                cases e4
                clear SM2 hb12 hp12 HP11 HO11 HAFT11
                have hc0 : (r.2 == 0) = false := by rw [hc21]; decide
                have hn21 : (21 : Int) ≠ 0 := by decide
                cases two with
                | true =>
                  cases one with
                  | true =>
                    go_wp2_with fail
                    go_roundw
                    case rel =>
                      go_light
                      have key := KEY.out
                      first | exact key | ((repeat apply Exists.intro); exact ⟨key, rfl⟩)
                    case measure => simp [intOf]; omega
                  | false =>
                    go_wp2_with fail
                    go_roundw
                    case rel =>
                      go_light
                      have key := KEY.out
                      first | exact key | ((repeat apply Exists.intro); exact ⟨key, rfl⟩)
                    case measure => simp [intOf]; omega
                | false =>
                  cases one with
                  | true =>
                    go_wp2_with fail
                    go_roundw
                    case rel =>
                      go_light
                      have key := KEY.out
                      first | exact key | ((repeat apply Exists.intro); exact ⟨key, rfl⟩)
                    case measure => simp [intOf]; omega
                  | false => exact absurd HONE.out (by simp)
              · have hcb : (r.2 == 21) = false := by simpa using hc21
                have ARM := Lib.hid (dk_arm HPN.out.j.disk (-1) 0 0 (by decide) (by decide) (by decide) (by decide) (by decide) (by decide))
                go_wp2_with fail
                refine ARM.out.mono ?_
                intro e w9 hq
                obtain ⟨rfl, bm9, pv9, hp9, kk9, ff9⟩ := HPN.out.disk hq
                have HPA := Lib.hid hp9
                have HBEFA := Lib.hid (rowK HBEF.out kk9 NB.out)
                have HAFTA := Lib.hid (rowK HAFT.out kk9 NA.out)
                clear ARM hq hp9 kk9 ff9 HPN HBEF HAFT NA NB
                obtain ⟨v2, a2, rec, ho2, hf2, hor, h0, h1⟩ := AT.out _ (.inr ⟨hc21, rfl⟩)
                have OP := Lib.hid (open_pi HT.out HPA.out.e.bl HPA.out.j.disk HPA.out.e.f ho2)
                have HF2 := Lib.hid hf2
                have HOR := Lib.hid hor
                have HC0 := Lib.hid h0
                have HC1 := Lib.hid h1
                clear ho2 hf2 hor h0 h1
                go_wp2_with fail
                refine OP.out.mono ?_
                rintro e w10 ⟨jb10, rv10, A10, c10, rfl, hp10, ho10, hb10⟩
                have HP10 := Lib.hid hp10
                have HO10 := Lib.hid ho10
                have HBEF10 := Lib.hid (rowB HBEFA.out hb10)
                have HAFT10 := Lib.hid (rowB HAFTA.out hb10)
                clear OP hp10 ho10 hb10 HPA HBEFA HAFTA
                have FG := Lib.hid (good_few M5.out HF2.out.good)
                have SM1 := Lib.hid (same_gen HO10.out.row HBEF10.out FG.out (Nat.le_succ_of_le (good_few M5.out GE.out.good)))
                have hone : decide (rec.map tx = sk.recs.map tx) = true ∨ decide (rec.map tx = af.map tx) = true := HOR.out.imp (fun e => decide_eq_true (by rw [e])) (fun e => decide_eq_true (by rw [e]))
                have htw : r.2 = 0 → decide (rec.map tx = af.map tx) = true := fun e => decide_eq_true (by rw [HC0.out e])
                have hon1 : r.2 ≠ 0 → r.2 ≠ 21 → decide (rec.map tx = sk.recs.map tx) = true := fun e e2 => decide_eq_true (by rw [HC1.out e e2])
                obtain ⟨one, eone⟩ : ∃ one, one = decide (rec.map tx = sk.recs.map tx) := ⟨_, rfl⟩
                obtain ⟨two, etwo⟩ : ∃ two, two = decide (rec.map tx = af.map tx) := ⟨_, rfl⟩
                rw [← eone] at hone hon1 SM1
                rw [← etwo] at hone htw
                have ETWO := Lib.hid etwo
                have HONE := Lib.hid hone
                have HTW := Lib.hid htw
                have HON1 := Lib.hid hon1
                clear eone etwo hone htw hon1
                go_wp2_with fail
                refine SM1.out.mono ?_
                rintro e w11 ⟨rfl, hb11⟩
                have HP11 := Lib.hid (HP10.out.grow hb11)
                have HO11 := Lib.hid (HO10.out.grow hb11)
                have HAFT11 := Lib.hid (rowB HAFT10.out hb11)
                have SM2 := Lib.hid (same_gen HO11.out.row HAFT11.out FG.out AFL.out)
                rw [← ETWO.out] at SM2
                clear SM1 hb11 HP10 HO10 HAFT10 HBEF10
                go_wp2_with fail
                refine SM2.out.mono ?_
                rintro e w12 ⟨rfl, hb12⟩
                have hp12 := HP11.out.grow hb12
                have KEY : Hid (RAo w b bs m l (.pointer (some ⟨jb10, 0, none⟩)) (.slice A10 rec.length c10) (.int .i64 ((k : Int) + 1)) w12) := ⟨k + 1, jb10, bm9, pv9, rv10, _, rfl, by go_num, by omega, HF2.out, hp12, HO11.out.grow hb12⟩
                obtain ⟨b4, o4, e4, d0, d1, d2, d3, d4, d5⟩ := SB.out w12 hp12.e.bl
                cases e4
                clear SM2 hb12 hp12 HP11 HO11 HAFT11
                by_cases hc0' : r.2 = 0
                · have hc0 : (r.2 == 0) = true := by simpa using hc0'
                  obtain rfl : two = true := HTW.out hc0'
                  cases one with
                  | true =>
                    go_wp2_with fail
                    go_roundw
                    case rel =>
                      go_light
                      have key := KEY.out
                      first | exact key | ((repeat apply Exists.intro); exact ⟨key, rfl⟩)
                    case measure => simp [intOf]; omega
                  | false =>
                    go_wp2_with fail
                    go_roundw
                    case rel =>
                      go_light
                      have key := KEY.out
                      first | exact key | ((repeat apply Exists.intro); exact ⟨key, rfl⟩)
                    case measure => simp [intOf]; omega
                · have hc0 : (r.2 == 0) = false := by simpa using hc0'
                  obtain rfl : one = true := HON1.out hc0' hc21
                  cases two with
                  | true =>
                    go_wp2_with fail
                    go_roundw
                    case rel =>
                      go_light
                      have key := KEY.out
                      first | exact key | ((repeat apply Exists.intro); exact ⟨key, rfl⟩)
                    case measure => simp [intOf]; omega
                  | false =>
                    go_wp2_with fail
                    go_roundw
                    case rel =>
                      go_light
                      have key := KEY.out
                      first | exact key | ((repeat apply Exists.intro); exact ⟨key, rfl⟩)
                    case measure => simp [intOf]; omega
          · obtain rfl : k = l.length := by omega
            have G := Lib.hid (FIN.out _ hp.e.bl)
            have hki : ¬ (l.length : Int) < (l.length : Int) := by omega
            clear FIN hp hg hoa
            go_wp2_with fail
            first
              | exact G.out
              | (go_ret; exact G.out)
end Go.Proofs.YthfjaaigncjhlaaDoor
