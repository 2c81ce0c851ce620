/- The law DiscloseLengths, walked. Condition: the variables of digest and of strconv hold their numbers. -/
import Derived.Test.YtamiaalfjmppaaaDoorDw3
import Derived.IntWalk
namespace Go.Proofs.YtamiaalfjmppaaaDoor
open Go.RowKit Go.Blk Go.Sg Go.Opn Go.Di Go.Apl Go.Rf

/-- What Prove hands back, for a law that asks for its length. -/
def PrLen (l : List ByteArray) (w : World) (e : Ending) (w' : World) : Prop :=
  ∃ A m c E, e = .returned (.tuple #[.slice A m c, .int .i64 E]) ∧ (E = 0 → m ≤ dgt (l.length - 1)) ∧ Below w.heap.size w w'
theorem prove_len (l : List ByteArray) (A : Option Addr) (c : Nat) (i : Int) (w : World) (hc : l.length ≤ c) (hn : l.length < 1000000000) (hs : SL w 1 encS A l) (hsh : Short l) (hT : HasT w) :
    Calls Tryd.prog 18 #[.slice A l.length c, .int .i64 i] w (PrLen l w) := by
  refine (prove_dis l A c i w hc hn hs hsh hT).mono ?_
  rintro e w' ⟨hb, ⟨h0, h1, A', c', _, _, rfl⟩ | ⟨_, rfl⟩⟩
  · exact ⟨_, _, _, _, rfl, fun _ => path_short l i.toNat (by omega), hb⟩
  · exact ⟨_, _, _, _, rfl, fun h => absurd h (by decide), hb⟩
theorem check_long {r : ByteArray} {n i : Int} {x : Fac} {s : ByteArray} {p q : List ByteArray} (h : checkD r n i x s p = true) (hq : q.length ≠ p.length) : checkD r n i x s q = false := by
  unfold checkD at h ⊢
  rw [Bool.and_eq_true, Bool.and_eq_true, decide_eq_true_eq, decide_eq_true_eq] at h
  have : decide (q.length = (lev i.toNat n.toNat).length) = false := decide_eq_false (fun e => hq (e.trans h.2.1.symm))
  rw [this]; simp
def fstN (y : Nat) : Nat := y / 18446744073709551616
def sndN (y : Nat) : Nat := y % 18446744073709551616
theorem pairN (g c : Nat) (h : c ≤ 9223372036854775807) : ∃ y, fstN y = g ∧ sndN y = c := ⟨g * 18446744073709551616 + c, by unfold fstN; omega, by unfold sndN; omega⟩
theorem append_new (w : World) (ty : TypeId) (base b0 : Nat) (hb0 : w.heap[b0]? = some (.cells #[] 9 (0, 0))) (hbase : base ≤ b0) (A : Option Addr) (c : Nat) (l : List ByteArray) (hs : SL w 1 encS A l) (hl : l.length < 1000000) :
    ∃ g cap w', (Builtin.append_ #[23, 23] ty #[.slice (some ⟨b0, 0, none⟩) 0 0, .slice A l.length c]).run Tryd.prog w = .ok (.slice (some ⟨g, 0, none⟩) l.length cap) w' ∧ w'.ownsRow base 9 1 (.slice (some ⟨g, 0, none⟩) l.length cap) l.length (l.map Value.string) ∧ Free.Grow w w' ∧ cap ≤ 9223372036854775807 := by
  obtain ⟨i0, hi, hz0, hz1, hz2⟩ := info_parts infoStr
  have hlt : b0 < w.heap.size := (Array.getElem?_eq_some_iff.1 hb0).1
  by_cases h0 : l = []
  · subst h0
    obtain ⟨w', hr, hg, hh⟩ := append_list (P := Tryd.prog) (ec := encS) w 23 ty 9 i0 Tryd.underlying23 hi hz1 encS_len encS_one b0 0 0 #[] hb0 A c [] hs (Nat.le_refl _) rfl
    have hh : w'.heap[b0]? = some (.cells #[] 9 (0, 0)) := hh
    refine ⟨b0, 0, w', hr, ⟨rfl, .inr ⟨b0, 0, #[], rfl, hbase, hh, Nat.le_refl _, Nat.zero_le _, rfl, rfl⟩⟩, ⟨hg.os, hg.tape, hg.output, hg.size, fun k hk => ?_⟩, Nat.zero_le _⟩
    by_cases e : k = b0
    · subst e; rw [hh, hb0]
    · exact hg.block k hk (by simpa using e)
  · obtain ⟨b, off, rfl, _⟩ := hs.cells h0
    have hpos : 0 < l.length := List.length_pos_iff.2 h0
    have hown : w.ownsRow base 9 1 (.slice (some ⟨b0, 0, none⟩) 0 0) 0 [] := ⟨rfl, .inr ⟨b0, 0, #[], rfl, hbase, hb0, Nat.le_refl _, Nat.zero_le _, rfl, rfl⟩⟩
    obtain ⟨cap, w', hr, hrow, hg⟩ := Apk.append_grows (P := Tryd.prog) w base 23 ty 9 i0 _ 1 16 Tryd.underlying23 hi hz0 hz1 hz2 rfl (by decide) _ 0 [] hown ⟨b, off, none⟩ l.length c (l.flatMap encS) (flat_len encS_len l) (sl_flat encS_len hs) (fun u hu => by
      obtain ⟨x, _, hx⟩ := List.mem_flatMap.1 hu
      exact encS_one x u hx) (by have : maxLen = 9223372036854775807 := rfl; omega) (by omega) (by omega) hpos (fun g cap e => by cases e; omega)
    rw [Nat.zero_add] at hr hrow
    rw [encS_map] at hrow
    refine ⟨w.heap.size, cap, w', hr, hrow, ⟨hg.os, hg.tape, hg.output, hg.size, fun k hk => hg.block k hk (by simp)⟩, ?_⟩
    rcases hrow.2 with ⟨e, _⟩ | ⟨g, cp, cur, e, _, _, _, h5, _⟩
    · cases e
    · cases e; exact h5
def RDg (n : Nat) (d z : Value) : Prop := ∃ (k : Nat) (m : Int), d = .int .i64 (k : Int) ∧ z = .int .i64 m ∧ -1 ≤ m ∧ m ≤ (n : Int) - 1 ∧ k ≤ n ∧ dgt (n - 1) = k + dgt m.toNat
theorem dgt_le : ∀ m : Nat, dgt m ≤ m := by
  intro m
  induction m using Nat.strongRecOn with
  | _ m ih =>
    by_cases h : m = 0
    · subst h; rw [dgt_zero]; decide
    · rw [dgt_more h]
      have := ih (m / 2) (by omega)
      omega
set_option maxRecDepth 100000 in
set_option maxHeartbeats 4000000 in
theorem lengths34_law (A B : Option Addr) (c d : Nat) (a p : List ByteArray) (x : Clm) (w : World) (hl1 : a.length ≤ 9223372036854775807) (hc1 : a.length ≤ c) (hs1 : SL w 1 encS A a) (hx : x.Ok) (hl2 : p.length ≤ 9223372036854775807) (hc2 : p.length ≤ d) (hs2 : SL w 1 encS B p) (hT : HasT w) :
    Calls Tryd.prog 9 #[.slice A a.length c, .agg (encC x (.slice B p.length d)).toArray] w fun r w' => r = .returned (.bool true) ∧ Below w.heap.size w w' := by
  obtain ⟨R, eR⟩ : ∃ R : Ending → World → Prop, R = fun r w' => r = .returned (.bool true) ∧ Below w.heap.size w w' := ⟨_, rfl⟩
  rw [← eR]
  have FIN : Hid (∀ w', Below w.heap.size w w' → R (.returned (.bool true)) w') := fun w' hb => by rw [eR]; exact ⟨rfl, hb⟩
  obtain ⟨n, i, ⟨xr, xa, xl, xh, xf, xs⟩, s, r⟩ := x
  obtain ⟨V, eV⟩ : ∃ V, V = w.alloc (.cells (encC ⟨n, i, ⟨xr, xa, xl, xh, xf, xs⟩, s, r⟩ (.slice B p.length d)).toArray 50) := ⟨_, rfl⟩
  have HBV : Hid (Below w.heap.size w V) := by rw [eV]; exact (Below.refl _ w).alloc (Nat.le_refl _) _
  have BC : Hid (∀ w', Below V.heap.size V w' → Blk w' w.heap.size (encC ⟨n, i, ⟨xr, xa, xl, xh, xf, xs⟩, s, r⟩ (.slice B p.length d)) 50) := fun w' hb => by
    have h0 : Blk V w.heap.size (encC ⟨n, i, ⟨xr, xa, xl, xh, xf, xs⟩, s, r⟩ (.slice B p.length d)) 50 := by rw [eV]; exact Blk.new w _ _
    exact h0.below hb h0.lt
  have HXO : Hid ((⟨xr, xa, xl, xh, xf, xs⟩ : Fac).Ok) := hx.x
  have S1 := Lib.hid (hs1.below HBV.out (Nat.le_refl _))
  have S2 := Lib.hid (hs2.below HBV.out (Nat.le_refl _))
  have HT := Lib.hid (hT.below HBV.out (Nat.le_refl _))
  have HH := Lib.hid (head34_any V HT.out)
  have EV : Hid (w.alloc (.cells #[.int .i64 n, .int .i64 i, .int .i64 xr, .int .i64 xa, .int .i64 xl, .int .i64 xh, .int .i64 xf, .bool xs, .string s, .string r, .slice B p.length d] 50) = V) := eV.symm
  clear eR hs1 hs2 hT eV hx
  show Calls Tryd.prog 9 #[.slice A a.length c, .agg #[.int .i64 n, .int .i64 i, .int .i64 xr, .int .i64 xa, .int .i64 xl, .int .i64 xh, .int .i64 xf, .bool xs, .string s, .string r, .slice B p.length d]] w R
  go_enter Tryd.func9, Tryd.ntmps9
  go_wp2_with fail
  rw [EV.out]
  refine HH.out.mono ?_
  rintro e w1 ⟨rfl, hb1⟩
  have HB1 := Lib.hid hb1
  have HW1 := Lib.hid (HBV.out.trans (hb1.mono HBV.out.size))
  clear hb1 HH EV
  have CSa := Lib.hid (small_any A c 40 a w1 (S1.out.below HB1.out (Nat.le_refl _)) hl1)
  obtain ⟨F, eF⟩ : ∃ F, F = smallB a 40 := ⟨_, rfl⟩
  rw [← eF] at CSa
  have EF := Lib.hid eF
  clear eF
  go_wp2_with fail
  refine CSa.out.mono ?_
  rintro e w' ⟨rfl, rfl⟩
  clear CSa
  cases F with
  | false =>
    go_wp2_with fail
    exact FIN.out _ HW1.out
  | true =>
  have CSb := Lib.hid (small_any B d 40 p w1 (S2.out.below HB1.out (Nat.le_refl _)) hl2)
  obtain ⟨G, eG⟩ : ∃ G, G = smallB p 40 := ⟨_, rfl⟩
  rw [← eG] at CSb
  have EG := Lib.hid eG
  clear eG
  have qb := BC.out _ HB1.out
  have ce0 := qb.cellD 0 _ rfl
  have ce1 := qb.cellD 1 _ rfl
  have ce2 := qb.cellD 2 _ rfl
  have ce3 := qb.cellD 3 _ rfl
  have ce4 := qb.cellD 4 _ rfl
  have ce5 := qb.cellD 5 _ rfl
  have ce6 := qb.cellD 6 _ rfl
  have ce7 := qb.cellD 7 _ rfl
  have ce8 := qb.cellD 8 _ rfl
  have ce9 := qb.cellD 9 _ rfl
  have ce10 := qb.cellD 10 _ rfl
  clear qb
  go_wp2_with fail
  refine CSb.out.mono ?_
  rintro e w' ⟨rfl, rfl⟩
  clear CSb
  cases G with
  | false =>
    go_wp2_with fail
    exact FIN.out _ HW1.out
  | true =>
  have SA := Lib.hid (smallB_short EF.out.symm)
  have SB := Lib.hid (smallB_short EG.out.symm)
  clear EF EG
  by_cases hs200 : 200 < s.size
  · have q1 : (200 : Int) < (s.size : Int) := by omega
    go_wp2_with fail
    exact FIN.out _ HW1.out
  have q1 : ¬ (200 : Int) < (s.size : Int) := by omega
  by_cases hr200 : 200 < r.size
  · have q2 : (200 : Int) < (r.size : Int) := by omega
    go_wp2_with fail
    exact FIN.out _ HW1.out
  have q2 : ¬ (200 : Int) < (r.size : Int) := by omega
  have ha40 := SA.out.1
  have hp40 := SB.out.1
  have CP := Lib.hid (prove_len a A c i w1 hc1 (by omega) (S1.out.below HB1.out (Nat.le_refl _)) (short_200 SA.out.2) (HT.out.below HB1.out (Nat.le_refl _)))
  go_wp2_with fail
  refine CP.out.mono ?_
  rintro e w2 ⟨A2, m2, c2, E, rfl, hm2, hb2⟩
  have HB2 := Lib.hid (HB1.out.trans (hb2.mono HB1.out.size))
  have HM2 := Lib.hid hm2
  have HST : Hid (RDg a.length (.int .i64 0) (.int .i64 ((a.length : Int) - 1))) := ⟨0, (a.length : Int) - 1, rfl, rfl, by omega, by omega, Nat.zero_le _, by rw [show ((a.length : Int) - 1).toNat = a.length - 1 by omega]; omega⟩
  clear CP hb2 hm2
  clear ce0 ce1 ce2 ce3 ce4 ce5 ce6 ce7 ce8 ce9 ce10
  go_wp2_with fail
  go_loop [8, 9] (fun u v => RDg a.length u v) (fun _ v => (intOf v).toNat)
  case atStart => exact HST.out
  case round =>
    clear HST
    obtain ⟨k, m, rfl, rfl, hm0, hmn, hkn, hdg⟩ := hrel
    by_cases hm : 0 < m
    · obtain ⟨M, rfl⟩ : ∃ M : Nat, m = (M : Int) := ⟨m.toNat, by omega⟩
      have HN : Hid (RDg a.length (.int .i64 ((k : Int) + 1)) (.int .i64 ((M : Int) / 2))) := by
        rw [Int.toNat_natCast] at hdg
        have e1 := dgt_more (m := M) (by omega)
        have h1 : dgt (a.length - 1) ≤ a.length - 1 := dgt_le _
        refine ⟨k + 1, ((M / 2 : Nat) : Int), by go_num, by simp, by omega, by omega, by omega, ?_⟩
        rw [Int.toNat_natCast]; omega
      clear hdg
      go_wp2_with fail
      go_round
      case rel => exact HN.out
      case measure => simp [intOf]; omega
    · have HK : Hid (dgt (a.length - 1) = k) := by
        show _ = _
        rw [hdg, show m.toNat = 0 by omega, dgt_zero]; rfl
      have hE : E = 0 → ¬ ((k : Int) < (m2 : Int)) := fun e => by have := HM2.out e; have := HK.out; omega
      have HE := Lib.hid hE
      have hm' : ¬ 0 < m := hm
      clear hdg hE
      have CC : Hid (∀ w', Below V.heap.size V w' → Calls Tryd.prog 19 #[.string r, .int .i64 n, .int .i64 i, .agg (encF ⟨xr, xa, xl, xh, xf, xs⟩).toArray, .string s, .slice B p.length d] w' fun e w2 => e = .returned (.bool (checkD r n i ⟨xr, xa, xl, xh, xf, xs⟩ s p)) ∧ Below w'.heap.size w' w2) := fun w' hb =>
        check_dis r n i _ s p B d w' HXO.out (by omega) (by omega) (S2.out.below hb (Nat.le_refl _)) (short_200 SB.out.2) (HT.out.below hb (Nat.le_refl _))
      have CK : Hid (∀ w' A' c', checkD r n i ⟨xr, xa, xl, xh, xf, xs⟩ s p = true → ∀ q : List ByteArray, q.length ≠ p.length → q.length < 1000 → Short q → Below V.heap.size V w' → SL w' 1 encS A' q → Calls Tryd.prog 19 #[.string r, .int .i64 n, .int .i64 i, .agg (encF ⟨xr, xa, xl, xh, xf, xs⟩).toArray, .string s, .slice A' q.length c'] w' fun e w2 => e = .returned (.bool false) ∧ Below w'.heap.size w' w2) := fun w' A' c' h q hq hq2 hq3 hb hs => by
        have := check_dis r n i _ s q A' c' w' HXO.out (by omega) (by omega) hs hq3 (HT.out.below hb (Nat.le_refl _))
        rw [check_long h hq] at this
        exact this
      obtain ⟨C, eC⟩ : ∃ C, C = checkD r n i ⟨xr, xa, xl, xh, xf, xs⟩ s p := ⟨_, rfl⟩
      rw [← eC] at CC CK
      clear eC
      have qb := BC.out _ HB2.out
      have ce0 := qb.cellD 0 _ rfl
      have ce1 := qb.cellD 1 _ rfl
      have ce2 := qb.cellD 2 _ rfl
      have ce3 := qb.cellD 3 _ rfl
      have ce4 := qb.cellD 4 _ rfl
      have ce5 := qb.cellD 5 _ rfl
      have ce6 := qb.cellD 6 _ rfl
      have ce7 := qb.cellD 7 _ rfl
      have ce8 := qb.cellD 8 _ rfl
      have ce9 := qb.cellD 9 _ rfl
      have ce10 := qb.cellD 10 _ rfl
      clear qb
      by_cases hE0 : E = 0
      · subst hE0
        have hkm := HE.out rfl
        go_wp2_with fail
        refine (CC.out _ HB2.out).mono ?_
        rintro e w3 ⟨rfl, hb3⟩
        have HB3 := Lib.hid (HB2.out.trans (hb3.mono HB2.out.size))
        have HW3 := Lib.hid (HBV.out.trans (HB3.out.mono HBV.out.size))
        clear hb3 CC
        clear ce0 ce1 ce2 ce3 ce4 ce5 ce6 ce7 ce8 ce9 ce10
        cases C with
        | false =>
          go_wp2_with fail
          exact FIN.out _ HW3.out
        | true =>
        have CK2 : Hid (∀ w' A' c', ∀ q : List ByteArray, q.length ≠ p.length → q.length < 1000 → Short q → Below V.heap.size V w' → SL w' 1 encS A' q → Calls Tryd.prog 19 #[.string r, .int .i64 n, .int .i64 i, .agg (encF ⟨xr, xa, xl, xh, xf, xs⟩).toArray, .string s, .slice A' q.length c'] w' fun e w2 => e = .returned (.bool false) ∧ Below w'.heap.size w' w2) := fun w' A' c' => CK.out w' A' c' rfl
        clear CK
        obtain ⟨k9, k10⟩ : w3.cell? ⟨w.heap.size, 9, none⟩ = some (.string r) ∧ w3.cell? ⟨w.heap.size, 10, none⟩ = some (.slice B p.length d) := ⟨(BC.out _ HB3.out).cellD 9 _ rfl, (BC.out _ HB3.out).cellD 10 _ rfl⟩
        have S23 := Lib.hid (S2.out.below HB3.out (Nat.le_refl _))
        go_wp2_with fail
        refine Free.wp_region_free 7 [(0, .ind (fun b => .slice (some ⟨b, 0, none⟩) 0 0) (fun b w2 => w2.heap[b]? = some (.cells #[] 9 (0, 0)) ∧ w3.heap.size ≤ b)), (3, .ind (fun y => .slice (some ⟨fstN y, 0, none⟩) p.length (sndN y)) (fun y w2 => w2.ownsRow w3.heap.size 9 1 (.slice (some ⟨fstN y, 0, none⟩) p.length (sndN y)) p.length (p.map Value.string))), (6, .ind (fun b => .slice (some ⟨b, 0, none⟩) 1 1) (fun b w2 => w2.heap[b]? = some (.cells #[.string r] 9 (0, 0))))]
          (fun w2 => Below w3.heap.size w3 w2 ∧ w2.cell? ⟨w.heap.size, 9, none⟩ = some (.string r) ∧ w2.cell? ⟨w.heap.size, 10, none⟩ = some (.slice B p.length d)) (by kernel_rfl) (by kernel_rfl) ?_ ⟨(Below.refl _ _).drew, k9, k10⟩ (fun _ _ h g => ⟨h.1.trans (Below.mono g h.1.size), cell_grow h.2.1 g, cell_grow h.2.2 g⟩) ?_
        · intro j mk rr hf y w1 w2 hr gr
          simp only [Free.find] at hf
          split at hf
          · cases hf; exact ⟨(gr.block _ (Array.getElem?_eq_some_iff.1 hr.1).1).trans hr.1, hr.2⟩
          · split at hf
            · cases hf; exact row_below hr gr
            · split at hf
              · cases hf; exact (gr.block _ (Array.getElem?_eq_some_iff.1 hr).1).trans hr
              · cases hf
        simp only [List.take_succ_cons, List.take_zero]
        clear k9 k10
        apply Free.chain_ind (by first | exact Free.wanted_of rfl rfl rfl | rfl) rfl
        · intro w' hB hA
          refine Free.opRun_of (v := .slice (some ⟨w'.heap.size, 0, none⟩) 0 0) (w' := w'.alloc (.cells #[] 9)) (by clear hB hA; go_light; go_simp <;> rfl) ⟨Free.Grow.alloc _ _, _, rfl, new_at rfl, hB.1.size⟩
        intro b0
        simp only [Act.put, List.setIfInBounds_toArray, List.set_cons_succ, List.set_cons_zero]
        iterate 2 (apply Free.chain_still (by first | exact Free.wanted_of rfl rfl rfl | rfl) rfl; (intro w' hB hA; obtain ⟨qB, q9, q10⟩ := hB; clear hA  qB; go_light; go_simp <;> rfl); (try simp only [Act.put, List.setIfInBounds_toArray, List.set_cons_succ, List.set_cons_zero]))
        apply Free.chain_ind (by first | exact Free.wanted_of rfl rfl rfl | rfl) rfl
        · intro w' hB hA
          have h0 : w'.heap[b0]? = some (.cells #[] 9 (0, 0)) ∧ w3.heap.size ≤ b0 := hA _ List.mem_cons_self (by kernel_rfl)
          obtain ⟨g, cp, w2, hrun, hrow, hg, hcp⟩ := append_new w' 23 w3.heap.size b0 h0.1 h0.2 B d p (S23.out.below hB.1 (Nat.le_refl _)) (by omega)
          obtain ⟨y, rfl, rfl⟩ := pairN g cp hcp
          exact Free.opRun_of (exec_append (s := .tmp 73) (x := .tmp 75) rfl rfl rfl hrun) ⟨hg, y, rfl, hrow⟩
        intro y3
        simp only [Act.put, List.setIfInBounds_toArray, List.set_cons_succ, List.set_cons_zero]
        iterate 2 (apply Free.chain_still (by first | exact Free.wanted_of rfl rfl rfl | rfl) rfl; (intro w' hB hA; obtain ⟨qB, q9, q10⟩ := hB; clear hA  qB; go_light; go_simp <;> rfl); (try simp only [Act.put, List.setIfInBounds_toArray, List.set_cons_succ, List.set_cons_zero]))
        apply Free.chain_ind (by first | exact Free.wanted_of rfl rfl rfl | rfl) rfl
        · intro w' hB hA
          refine Free.opRun_of (v := .slice (some ⟨w'.heap.size, 0, none⟩) 1 1) (w' := w'.alloc (.cells #[.string r] 9)) (by clear hB hA; go_light; go_simp <;> rfl) ⟨Free.Grow.alloc _ _, _, rfl, new_at rfl⟩
        intro b6
        simp only [Act.put, List.setIfInBounds_toArray, List.set_cons_succ, List.set_cons_zero]
        apply Free.chain_nil
        intro wy hBz _ hh
        have hz6 : wy.heap[b6]? = some (.cells #[.string r] 9 (0, 0)) := hh _ List.mem_cons_self
        have hz3 : wy.ownsRow w3.heap.size 9 1 (.slice (some ⟨fstN y3, 0, none⟩) p.length (sndN y3)) p.length (p.map Value.string) := hh _ (List.mem_cons_of_mem _ List.mem_cons_self)
        simp only [List.drop_succ_cons, List.drop_zero]
        have HZ6 := Lib.hid hz6
        have HZ3 := Lib.hid hz3
        have HBY := Lib.hid hBz.1
        clear hz6 hz3 hBz hh
        obtain ⟨i0, hi, hz0, hz1, hz2⟩ := info_parts infoStr
        refine wpList_append_list (ec := encS) rfl (.tmp 76) (.tmp 79) 23 rfl w3.heap.size 9 i0 _ 16 Tryd.underlying23 hi hz0 hz1 hz2 rfl (by decide) encS_len encS_one _ _ _ rfl HZ3.out (some ⟨b6, 0, none⟩) 1 [r] rfl (sl_new (l := [r]) HZ6.out) (by have : maxLen = 9223372036854775807 := rfl; simp only [List.length_cons, List.length_nil]; omega) (by simp only [List.length_cons, List.length_nil]; omega) HBY.out.size ?_
        intro v5 w5 hown5 hg5 _
        have hb5 : Below w3.heap.size w3 w5 := HBY.out.grown hg5 HBY.out.size (fun j e => (HZ3.out.lt j e).1)
        have HB5 := Lib.hid (HB3.out.trans (hb5.mono HB3.out.size))
        obtain ⟨pr, epr⟩ : ∃ pr, pr = p ++ [r] := ⟨_, rfl⟩
        obtain ⟨A5, c5, rfl, hc5, hsl5⟩ := own_texts (l := pr) hown5 (by rw [epr, List.flatMap_append, encS_map p])
        have hprl : pr.length = p.length + 1 := by rw [epr, List.length_append]; rfl
        have hprs : Short pr := fun t ht => by
          rw [epr] at ht
          rcases List.mem_append.1 ht with h | h
          · exact short_200 SB.out.2 t h
          · have : t = r := by simpa using h
            subst this; omega
        have CM := Lib.hid (CK2.out w5 A5 c5 pr (by omega) (by omega) hprs HB5.out hsl5)
        clear hown5 hg5 hb5 epr hc5 hsl5 hprl hprs hi hz0 hz1 hz2 HZ6 HZ3 HBY
        have qb := BC.out _ HB5.out
        have ce0 := qb.cellD 0 _ rfl
        have ce1 := qb.cellD 1 _ rfl
        have ce2 := qb.cellD 2 _ rfl
        have ce3 := qb.cellD 3 _ rfl
        have ce4 := qb.cellD 4 _ rfl
        have ce5 := qb.cellD 5 _ rfl
        have ce6 := qb.cellD 6 _ rfl
        have ce7 := qb.cellD 7 _ rfl
        have ce8 := qb.cellD 8 _ rfl
        have ce9 := qb.cellD 9 _ rfl
        have ce10 := qb.cellD 10 _ rfl
        clear qb
        go_wp2_with fail
        refine CM.out.mono ?_
        rintro e w6 ⟨rfl, hb6⟩
        have HB6 := Lib.hid (HB5.out.trans (hb6.mono HB5.out.size))
        have HW6 := Lib.hid (HBV.out.trans (HB6.out.mono HBV.out.size))
        clear hb6 CM
        clear ce0 ce1 ce2 ce3 ce4 ce5 ce6 ce7 ce8 ce9 ce10
        by_cases hp0 : p = []
        · have z1 : ((p.length : Int) == 0) = true := by rw [hp0]; rfl
          have k10 : w6.cell? ⟨w.heap.size, 10, none⟩ = some (.slice B p.length d) := (BC.out _ HB6.out).cellD 10 _ rfl
          clear hp0
          go_wp2_with fail
          refine Free.wp_region_free 28 [] (fun w2 => Below w6.heap.size w6 w2 ∧ w2.cell? ⟨w.heap.size, 10, none⟩ = some (.slice B p.length d)) (by kernel_rfl) (by kernel_rfl) (Free.mono_det (fun j mk r hf => by simp only [Free.find] at hf; repeat' (first | cases hf | split at hf))) ⟨(Below.refl _ _).drew, k10⟩ (fun _ _ h g => ⟨h.1.trans (Below.mono g h.1.size), cell_grow h.2 g⟩) ?_
          simp only [List.take_succ_cons, List.take_zero]
          clear k10
          iterate 7 (apply Free.chain_still (by first | exact Free.wanted_of rfl rfl rfl | rfl) rfl; (intro w' hB hA; obtain ⟨qB, q10⟩ := hB; clear hA  qB; go_light; go_simp <;> rfl); (try simp only [Act.put, List.setIfInBounds_toArray, List.set_cons_succ, List.set_cons_zero]))
          iterate 19 (apply Free.chain_skip (by exact unwanted2 rfl rfl rfl rfl); simp only [Act.put, List.setIfInBounds_toArray, List.set_cons_succ, List.set_cons_zero])
          iterate 2 (apply Free.chain_still (by first | exact Free.wanted_of rfl rfl rfl | rfl) rfl; (intro w' hB hA; obtain ⟨qB, q10⟩ := hB; clear hA  qB; go_light; go_simp <;> rfl); (try simp only [Act.put, List.setIfInBounds_toArray, List.set_cons_succ, List.set_cons_zero]))
          apply Free.chain_nil
          intro wz hBz _ _
          simp only [List.drop_succ_cons, List.drop_zero]
          have L := Lib.hid (HW6.out.trans (hBz.1.mono HW6.out.size))
          clear hBz
          go_wp2_with fail
          exact FIN.out _ L.out
        · obtain ⟨K, eK⟩ : ∃ K, p.length = K + 1 := ⟨p.length - 1, by have := List.length_pos_iff.2 hp0; omega⟩
          have z1 : ((p.length : Int) == 0) = false := beq_eq_false_iff_ne.2 (by omega)
          have z2 : IntKind.i64.wrap ((p.length : Int) - 1) = (K : Int) := by rw [IntWalk.i64_in _ (by omega)]; omega
          have z3 : (0 : Int) ≤ (K : Int) := by omega
          have z4 : (K : Int) ≤ (p.length : Int) := by omega
          have z5 : (K : Int) ≤ (d : Int) := by omega
          have CD : Hid (∀ w', Below V.heap.size V w' → Calls Tryd.prog 19 #[.string r, .int .i64 n, .int .i64 i, .agg (encF ⟨xr, xa, xl, xh, xf, xs⟩).toArray, .string s, .slice B K d] w' fun e w2 => e = .returned (.bool false) ∧ Below w'.heap.size w' w2) := fun w' hb => by
            have := CK2.out w' B d p.dropLast (by rw [List.length_dropLast]; omega) (by rw [List.length_dropLast]; omega) (fun t ht => short_200 SB.out.2 t ((List.dropLast_sublist p).subset ht)) hb (by rw [List.dropLast_eq_take]; exact (S2.out.below hb (Nat.le_refl _)).take _)
            rw [List.length_dropLast, show p.length - 1 = K by omega] at this
            exact this
          have EK := Lib.hid eK
          obtain ⟨k0, k1, k8, k9, k10⟩ : w6.cell? ⟨w.heap.size, 0, none⟩ = some (.int .i64 n) ∧ w6.cell? ⟨w.heap.size, 1, none⟩ = some (.int .i64 i) ∧ w6.cell? ⟨w.heap.size, 8, none⟩ = some (.string s) ∧ w6.cell? ⟨w.heap.size, 9, none⟩ = some (.string r) ∧ w6.cell? ⟨w.heap.size, 10, none⟩ = some (.slice B p.length d) :=
            ⟨(BC.out _ HB6.out).cellD 0 _ rfl, (BC.out _ HB6.out).cellD 1 _ rfl, (BC.out _ HB6.out).cellD 8 _ rfl, (BC.out _ HB6.out).cellD 9 _ rfl, (BC.out _ HB6.out).cellD 10 _ rfl⟩
          clear hp0 eK
          go_wp2_with fail
          refine Free.wp_region_free 28 [(24, .det (.bool false))] (fun w2 => Below w6.heap.size w6 w2 ∧ w2.cell? ⟨w.heap.size, 0, none⟩ = some (.int .i64 n) ∧ w2.cell? ⟨w.heap.size, 1, none⟩ = some (.int .i64 i) ∧ w2.cell? ⟨w.heap.size, 8, none⟩ = some (.string s) ∧ w2.cell? ⟨w.heap.size, 9, none⟩ = some (.string r) ∧ w2.cell? ⟨w.heap.size, 10, none⟩ = some (.slice B p.length d)) (by kernel_rfl) (by kernel_rfl) (Free.mono_det (fun j mk r hf => by simp only [Free.find] at hf; repeat' (first | cases hf | split at hf))) ⟨(Below.refl _ _).drew, k0, k1, k8, k9, k10⟩ (fun _ _ h g => ⟨h.1.trans (Below.mono g h.1.size), cell_grow h.2.1 g, cell_grow h.2.2.1 g, cell_grow h.2.2.2.1 g, cell_grow h.2.2.2.2.1 g, cell_grow h.2.2.2.2.2 g⟩) ?_
          simp only [List.take_succ_cons, List.take_zero]
          clear k0 k1 k8 k9 k10
          iterate 14 (apply Free.chain_still (by first | exact Free.wanted_of rfl rfl rfl | rfl) rfl; (intro w' hB hA; obtain ⟨qB, r0, r1, r8, r9, r10⟩ := hB; clear hA  qB; go_light; go_simp <;> rfl); (try simp only [Act.put, List.setIfInBounds_toArray, List.set_cons_succ, List.set_cons_zero]))
          apply Free.chain_still (by first | exact Free.wanted_of rfl rfl rfl | rfl) rfl
          · intro w' hB hA
            exact exec_fac (x := ⟨xr, xa, xl, xh, xf, xs⟩) (b := w.heap.size) (off := 2) rfl rfl (fun p u hu => by have hk := BC.out w' (HB6.out.trans (hB.1.mono HB6.out.size)); rw [Nat.add_comm]; refine hk.cellD (p + 2) u ?_; have hp6 : p < 6 := (List.getElem?_eq_some_iff.1 hu).1; show (encF ⟨xr, xa, xl, xh, xf, xs⟩ ++ _)[p]? = _; rw [List.getElem?_append_left (by exact hp6)]; exact hu)
          simp only [Act.put, List.setIfInBounds_toArray, List.set_cons_succ, List.set_cons_zero]
          iterate 9 (apply Free.chain_still (by first | exact Free.wanted_of rfl rfl rfl | rfl) rfl; (intro w' hB hA; obtain ⟨qB, r0, r1, r8, r9, r10⟩ := hB; clear hA  qB; go_light; go_simp <;> rfl); (try simp only [Act.put, List.setIfInBounds_toArray, List.set_cons_succ, List.set_cons_zero]))
          apply Free.chain_det (by first | exact Free.wanted_of rfl rfl rfl | rfl) rfl
          · intro w' hB hA
            refine Free.opRun_call (f := 19) (args := #[.string r, .int .i64 n, .int .i64 i, .agg (encF ⟨xr, xa, xl, xh, xf, xs⟩).toArray, .string s, .slice B K d]) (by clear hB hA; go_simp <;> rfl) ?_
            refine (CD.out w' (HB6.out.trans (hB.1.mono HB6.out.size))).mono ?_
            rintro e w3 ⟨rfl, hb3⟩
            exact ⟨_, rfl, hb3, rfl⟩
          simp only [Act.put, List.setIfInBounds_toArray, List.set_cons_succ, List.set_cons_zero]
          iterate 3 (apply Free.chain_still (by first | exact Free.wanted_of rfl rfl rfl | rfl) rfl; (intro w' hB hA; obtain ⟨qB, r0, r1, r8, r9, r10⟩ := hB; clear hA  qB; go_light; go_simp <;> rfl); (try simp only [Act.put, List.setIfInBounds_toArray, List.set_cons_succ, List.set_cons_zero]))
          apply Free.chain_nil
          intro wz hBz _ _
          simp only [List.drop_succ_cons, List.drop_zero]
          have L := Lib.hid (HW6.out.trans (hBz.1.mono HW6.out.size))
          clear hBz CD z1 z2 z3 z4 z5
          go_wp2_with fail
          exact FIN.out _ L.out
      · have q3 : (E == 0) = false := beq_eq_false_iff_ne.2 hE0
        clear hE0
        go_wp2_with fail
        refine (CC.out _ HB2.out).mono ?_
        rintro e w3 ⟨rfl, hb3⟩
        have HB3 := Lib.hid (HB2.out.trans (hb3.mono HB2.out.size))
        have HW3 := Lib.hid (HBV.out.trans (HB3.out.mono HBV.out.size))
        clear hb3 CC
        clear ce0 ce1 ce2 ce3 ce4 ce5 ce6 ce7 ce8 ce9 ce10
        cases C with
        | false =>
          go_wp2_with fail
          exact FIN.out _ HW3.out
        | true =>
        have CK2 : Hid (∀ w' A' c', ∀ q : List ByteArray, q.length ≠ p.length → q.length < 1000 → Short q → Below V.heap.size V w' → SL w' 1 encS A' q → Calls Tryd.prog 19 #[.string r, .int .i64 n, .int .i64 i, .agg (encF ⟨xr, xa, xl, xh, xf, xs⟩).toArray, .string s, .slice A' q.length c'] w' fun e w2 => e = .returned (.bool false) ∧ Below w'.heap.size w' w2) := fun w' A' c' => CK.out w' A' c' rfl
        clear CK
        obtain ⟨k9, k10⟩ : w3.cell? ⟨w.heap.size, 9, none⟩ = some (.string r) ∧ w3.cell? ⟨w.heap.size, 10, none⟩ = some (.slice B p.length d) := ⟨(BC.out _ HB3.out).cellD 9 _ rfl, (BC.out _ HB3.out).cellD 10 _ rfl⟩
        have S23 := Lib.hid (S2.out.below HB3.out (Nat.le_refl _))
        go_wp2_with fail
        refine Free.wp_region_free 7 [(0, .ind (fun b => .slice (some ⟨b, 0, none⟩) 0 0) (fun b w2 => w2.heap[b]? = some (.cells #[] 9 (0, 0)) ∧ w3.heap.size ≤ b)), (3, .ind (fun y => .slice (some ⟨fstN y, 0, none⟩) p.length (sndN y)) (fun y w2 => w2.ownsRow w3.heap.size 9 1 (.slice (some ⟨fstN y, 0, none⟩) p.length (sndN y)) p.length (p.map Value.string))), (6, .ind (fun b => .slice (some ⟨b, 0, none⟩) 1 1) (fun b w2 => w2.heap[b]? = some (.cells #[.string r] 9 (0, 0))))]
          (fun w2 => Below w3.heap.size w3 w2 ∧ w2.cell? ⟨w.heap.size, 9, none⟩ = some (.string r) ∧ w2.cell? ⟨w.heap.size, 10, none⟩ = some (.slice B p.length d)) (by kernel_rfl) (by kernel_rfl) ?_ ⟨(Below.refl _ _).drew, k9, k10⟩ (fun _ _ h g => ⟨h.1.trans (Below.mono g h.1.size), cell_grow h.2.1 g, cell_grow h.2.2 g⟩) ?_
        · intro j mk rr hf y w1 w2 hr gr
          simp only [Free.find] at hf
          split at hf
          · cases hf; exact ⟨(gr.block _ (Array.getElem?_eq_some_iff.1 hr.1).1).trans hr.1, hr.2⟩
          · split at hf
            · cases hf; exact row_below hr gr
            · split at hf
              · cases hf; exact (gr.block _ (Array.getElem?_eq_some_iff.1 hr).1).trans hr
              · cases hf
        simp only [List.take_succ_cons, List.take_zero]
        clear k9 k10
        apply Free.chain_ind (by first | exact Free.wanted_of rfl rfl rfl | rfl) rfl
        · intro w' hB hA
          refine Free.opRun_of (v := .slice (some ⟨w'.heap.size, 0, none⟩) 0 0) (w' := w'.alloc (.cells #[] 9)) (by clear hB hA; go_light; go_simp <;> rfl) ⟨Free.Grow.alloc _ _, _, rfl, new_at rfl, hB.1.size⟩
        intro b0
        simp only [Act.put, List.setIfInBounds_toArray, List.set_cons_succ, List.set_cons_zero]
        iterate 2 (apply Free.chain_still (by first | exact Free.wanted_of rfl rfl rfl | rfl) rfl; (intro w' hB hA; obtain ⟨qB, q9, q10⟩ := hB; clear hA  qB; go_light; go_simp <;> rfl); (try simp only [Act.put, List.setIfInBounds_toArray, List.set_cons_succ, List.set_cons_zero]))
        apply Free.chain_ind (by first | exact Free.wanted_of rfl rfl rfl | rfl) rfl
        · intro w' hB hA
          have h0 : w'.heap[b0]? = some (.cells #[] 9 (0, 0)) ∧ w3.heap.size ≤ b0 := hA _ List.mem_cons_self (by kernel_rfl)
          obtain ⟨g, cp, w2, hrun, hrow, hg, hcp⟩ := append_new w' 23 w3.heap.size b0 h0.1 h0.2 B d p (S23.out.below hB.1 (Nat.le_refl _)) (by omega)
          obtain ⟨y, rfl, rfl⟩ := pairN g cp hcp
          exact Free.opRun_of (exec_append (s := .tmp 73) (x := .tmp 75) rfl rfl rfl hrun) ⟨hg, y, rfl, hrow⟩
        intro y3
        simp only [Act.put, List.setIfInBounds_toArray, List.set_cons_succ, List.set_cons_zero]
        iterate 2 (apply Free.chain_still (by first | exact Free.wanted_of rfl rfl rfl | rfl) rfl; (intro w' hB hA; obtain ⟨qB, q9, q10⟩ := hB; clear hA  qB; go_light; go_simp <;> rfl); (try simp only [Act.put, List.setIfInBounds_toArray, List.set_cons_succ, List.set_cons_zero]))
        apply Free.chain_ind (by first | exact Free.wanted_of rfl rfl rfl | rfl) rfl
        · intro w' hB hA
          refine Free.opRun_of (v := .slice (some ⟨w'.heap.size, 0, none⟩) 1 1) (w' := w'.alloc (.cells #[.string r] 9)) (by clear hB hA; go_light; go_simp <;> rfl) ⟨Free.Grow.alloc _ _, _, rfl, new_at rfl⟩
        intro b6
        simp only [Act.put, List.setIfInBounds_toArray, List.set_cons_succ, List.set_cons_zero]
        apply Free.chain_nil
        intro wy hBz _ hh
        have hz6 : wy.heap[b6]? = some (.cells #[.string r] 9 (0, 0)) := hh _ List.mem_cons_self
        have hz3 : wy.ownsRow w3.heap.size 9 1 (.slice (some ⟨fstN y3, 0, none⟩) p.length (sndN y3)) p.length (p.map Value.string) := hh _ (List.mem_cons_of_mem _ List.mem_cons_self)
        simp only [List.drop_succ_cons, List.drop_zero]
        have HZ6 := Lib.hid hz6
        have HZ3 := Lib.hid hz3
        have HBY := Lib.hid hBz.1
        clear hz6 hz3 hBz hh
        obtain ⟨i0, hi, hz0, hz1, hz2⟩ := info_parts infoStr
        refine wpList_append_list (ec := encS) rfl (.tmp 76) (.tmp 79) 23 rfl w3.heap.size 9 i0 _ 16 Tryd.underlying23 hi hz0 hz1 hz2 rfl (by decide) encS_len encS_one _ _ _ rfl HZ3.out (some ⟨b6, 0, none⟩) 1 [r] rfl (sl_new (l := [r]) HZ6.out) (by have : maxLen = 9223372036854775807 := rfl; simp only [List.length_cons, List.length_nil]; omega) (by simp only [List.length_cons, List.length_nil]; omega) HBY.out.size ?_
        intro v5 w5 hown5 hg5 _
        have hb5 : Below w3.heap.size w3 w5 := HBY.out.grown hg5 HBY.out.size (fun j e => (HZ3.out.lt j e).1)
        have HB5 := Lib.hid (HB3.out.trans (hb5.mono HB3.out.size))
        obtain ⟨pr, epr⟩ : ∃ pr, pr = p ++ [r] := ⟨_, rfl⟩
        obtain ⟨A5, c5, rfl, hc5, hsl5⟩ := own_texts (l := pr) hown5 (by rw [epr, List.flatMap_append, encS_map p])
        have hprl : pr.length = p.length + 1 := by rw [epr, List.length_append]; rfl
        have hprs : Short pr := fun t ht => by
          rw [epr] at ht
          rcases List.mem_append.1 ht with h | h
          · exact short_200 SB.out.2 t h
          · have : t = r := by simpa using h
            subst this; omega
        have CM := Lib.hid (CK2.out w5 A5 c5 pr (by omega) (by omega) hprs HB5.out hsl5)
        clear hown5 hg5 hb5 epr hc5 hsl5 hprl hprs hi hz0 hz1 hz2 HZ6 HZ3 HBY
        have qb := BC.out _ HB5.out
        have ce0 := qb.cellD 0 _ rfl
        have ce1 := qb.cellD 1 _ rfl
        have ce2 := qb.cellD 2 _ rfl
        have ce3 := qb.cellD 3 _ rfl
        have ce4 := qb.cellD 4 _ rfl
        have ce5 := qb.cellD 5 _ rfl
        have ce6 := qb.cellD 6 _ rfl
        have ce7 := qb.cellD 7 _ rfl
        have ce8 := qb.cellD 8 _ rfl
        have ce9 := qb.cellD 9 _ rfl
        have ce10 := qb.cellD 10 _ rfl
        clear qb
        go_wp2_with fail
        refine CM.out.mono ?_
        rintro e w6 ⟨rfl, hb6⟩
        have HB6 := Lib.hid (HB5.out.trans (hb6.mono HB5.out.size))
        have HW6 := Lib.hid (HBV.out.trans (HB6.out.mono HBV.out.size))
        clear hb6 CM
        clear ce0 ce1 ce2 ce3 ce4 ce5 ce6 ce7 ce8 ce9 ce10
        by_cases hp0 : p = []
        · have z1 : ((p.length : Int) == 0) = true := by rw [hp0]; rfl
          have k10 : w6.cell? ⟨w.heap.size, 10, none⟩ = some (.slice B p.length d) := (BC.out _ HB6.out).cellD 10 _ rfl
          clear hp0
          go_wp2_with fail
          refine Free.wp_region_free 28 [] (fun w2 => Below w6.heap.size w6 w2 ∧ w2.cell? ⟨w.heap.size, 10, none⟩ = some (.slice B p.length d)) (by kernel_rfl) (by kernel_rfl) (Free.mono_det (fun j mk r hf => by simp only [Free.find] at hf; repeat' (first | cases hf | split at hf))) ⟨(Below.refl _ _).drew, k10⟩ (fun _ _ h g => ⟨h.1.trans (Below.mono g h.1.size), cell_grow h.2 g⟩) ?_
          simp only [List.take_succ_cons, List.take_zero]
          clear k10
          iterate 7 (apply Free.chain_still (by first | exact Free.wanted_of rfl rfl rfl | rfl) rfl; (intro w' hB hA; obtain ⟨qB, q10⟩ := hB; clear hA  qB; go_light; go_simp <;> rfl); (try simp only [Act.put, List.setIfInBounds_toArray, List.set_cons_succ, List.set_cons_zero]))
          iterate 19 (apply Free.chain_skip (by exact unwanted2 rfl rfl rfl rfl); simp only [Act.put, List.setIfInBounds_toArray, List.set_cons_succ, List.set_cons_zero])
          iterate 2 (apply Free.chain_still (by first | exact Free.wanted_of rfl rfl rfl | rfl) rfl; (intro w' hB hA; obtain ⟨qB, q10⟩ := hB; clear hA  qB; go_light; go_simp <;> rfl); (try simp only [Act.put, List.setIfInBounds_toArray, List.set_cons_succ, List.set_cons_zero]))
          apply Free.chain_nil
          intro wz hBz _ _
          simp only [List.drop_succ_cons, List.drop_zero]
          have L := Lib.hid (HW6.out.trans (hBz.1.mono HW6.out.size))
          clear hBz
          go_wp2_with fail
          exact FIN.out _ L.out
        · obtain ⟨K, eK⟩ : ∃ K, p.length = K + 1 := ⟨p.length - 1, by have := List.length_pos_iff.2 hp0; omega⟩
          have z1 : ((p.length : Int) == 0) = false := beq_eq_false_iff_ne.2 (by omega)
          have z2 : IntKind.i64.wrap ((p.length : Int) - 1) = (K : Int) := by rw [IntWalk.i64_in _ (by omega)]; omega
          have z3 : (0 : Int) ≤ (K : Int) := by omega
          have z4 : (K : Int) ≤ (p.length : Int) := by omega
          have z5 : (K : Int) ≤ (d : Int) := by omega
          have CD : Hid (∀ w', Below V.heap.size V w' → Calls Tryd.prog 19 #[.string r, .int .i64 n, .int .i64 i, .agg (encF ⟨xr, xa, xl, xh, xf, xs⟩).toArray, .string s, .slice B K d] w' fun e w2 => e = .returned (.bool false) ∧ Below w'.heap.size w' w2) := fun w' hb => by
            have := CK2.out w' B d p.dropLast (by rw [List.length_dropLast]; omega) (by rw [List.length_dropLast]; omega) (fun t ht => short_200 SB.out.2 t ((List.dropLast_sublist p).subset ht)) hb (by rw [List.dropLast_eq_take]; exact (S2.out.below hb (Nat.le_refl _)).take _)
            rw [List.length_dropLast, show p.length - 1 = K by omega] at this
            exact this
          have EK := Lib.hid eK
          obtain ⟨k0, k1, k8, k9, k10⟩ : w6.cell? ⟨w.heap.size, 0, none⟩ = some (.int .i64 n) ∧ w6.cell? ⟨w.heap.size, 1, none⟩ = some (.int .i64 i) ∧ w6.cell? ⟨w.heap.size, 8, none⟩ = some (.string s) ∧ w6.cell? ⟨w.heap.size, 9, none⟩ = some (.string r) ∧ w6.cell? ⟨w.heap.size, 10, none⟩ = some (.slice B p.length d) :=
            ⟨(BC.out _ HB6.out).cellD 0 _ rfl, (BC.out _ HB6.out).cellD 1 _ rfl, (BC.out _ HB6.out).cellD 8 _ rfl, (BC.out _ HB6.out).cellD 9 _ rfl, (BC.out _ HB6.out).cellD 10 _ rfl⟩
          clear hp0 eK
          go_wp2_with fail
          refine Free.wp_region_free 28 [(24, .det (.bool false))] (fun w2 => Below w6.heap.size w6 w2 ∧ w2.cell? ⟨w.heap.size, 0, none⟩ = some (.int .i64 n) ∧ w2.cell? ⟨w.heap.size, 1, none⟩ = some (.int .i64 i) ∧ w2.cell? ⟨w.heap.size, 8, none⟩ = some (.string s) ∧ w2.cell? ⟨w.heap.size, 9, none⟩ = some (.string r) ∧ w2.cell? ⟨w.heap.size, 10, none⟩ = some (.slice B p.length d)) (by kernel_rfl) (by kernel_rfl) (Free.mono_det (fun j mk r hf => by simp only [Free.find] at hf; repeat' (first | cases hf | split at hf))) ⟨(Below.refl _ _).drew, k0, k1, k8, k9, k10⟩ (fun _ _ h g => ⟨h.1.trans (Below.mono g h.1.size), cell_grow h.2.1 g, cell_grow h.2.2.1 g, cell_grow h.2.2.2.1 g, cell_grow h.2.2.2.2.1 g, cell_grow h.2.2.2.2.2 g⟩) ?_
          simp only [List.take_succ_cons, List.take_zero]
          clear k0 k1 k8 k9 k10
          iterate 14 (apply Free.chain_still (by first | exact Free.wanted_of rfl rfl rfl | rfl) rfl; (intro w' hB hA; obtain ⟨qB, r0, r1, r8, r9, r10⟩ := hB; clear hA  qB; go_light; go_simp <;> rfl); (try simp only [Act.put, List.setIfInBounds_toArray, List.set_cons_succ, List.set_cons_zero]))
          apply Free.chain_still (by first | exact Free.wanted_of rfl rfl rfl | rfl) rfl
          · intro w' hB hA
            exact exec_fac (x := ⟨xr, xa, xl, xh, xf, xs⟩) (b := w.heap.size) (off := 2) rfl rfl (fun p u hu => by have hk := BC.out w' (HB6.out.trans (hB.1.mono HB6.out.size)); rw [Nat.add_comm]; refine hk.cellD (p + 2) u ?_; have hp6 : p < 6 := (List.getElem?_eq_some_iff.1 hu).1; show (encF ⟨xr, xa, xl, xh, xf, xs⟩ ++ _)[p]? = _; rw [List.getElem?_append_left (by exact hp6)]; exact hu)
          simp only [Act.put, List.setIfInBounds_toArray, List.set_cons_succ, List.set_cons_zero]
          iterate 9 (apply Free.chain_still (by first | exact Free.wanted_of rfl rfl rfl | rfl) rfl; (intro w' hB hA; obtain ⟨qB, r0, r1, r8, r9, r10⟩ := hB; clear hA  qB; go_light; go_simp <;> rfl); (try simp only [Act.put, List.setIfInBounds_toArray, List.set_cons_succ, List.set_cons_zero]))
          apply Free.chain_det (by first | exact Free.wanted_of rfl rfl rfl | rfl) rfl
          · intro w' hB hA
            refine Free.opRun_call (f := 19) (args := #[.string r, .int .i64 n, .int .i64 i, .agg (encF ⟨xr, xa, xl, xh, xf, xs⟩).toArray, .string s, .slice B K d]) (by clear hB hA; go_simp <;> rfl) ?_
            refine (CD.out w' (HB6.out.trans (hB.1.mono HB6.out.size))).mono ?_
            rintro e w3 ⟨rfl, hb3⟩
            exact ⟨_, rfl, hb3, rfl⟩
          simp only [Act.put, List.setIfInBounds_toArray, List.set_cons_succ, List.set_cons_zero]
          iterate 3 (apply Free.chain_still (by first | exact Free.wanted_of rfl rfl rfl | rfl) rfl; (intro w' hB hA; obtain ⟨qB, r0, r1, r8, r9, r10⟩ := hB; clear hA  qB; go_light; go_simp <;> rfl); (try simp only [Act.put, List.setIfInBounds_toArray, List.set_cons_succ, List.set_cons_zero]))
          apply Free.chain_nil
          intro wz hBz _ _
          simp only [List.drop_succ_cons, List.drop_zero]
          have L := Lib.hid (HW6.out.trans (hBz.1.mono HW6.out.size))
          clear hBz CD z1 z2 z3 z4 z5
          go_wp2_with fail
          exact FIN.out _ L.out
end Go.Proofs.YtamiaalfjmppaaaDoor
