/- Package chain: Append. Condition: the variables of digest and of strconv hold their numbers. The plain laws of signatures: a signature belongs to its text and key; S is unique; keys of different secrets differ. No condition. Plain facts on Append: what it returns is a chain; the examples of the head of layer 31. No condition. The head of the statements on package chain: fixed examples. Condition: the variables of digest and of strconv hold their numbers. Arguments opened: entries, lists of entries. No condition. The chain of the texts of facts (w21Sealed), walked. Condition: the variables of digest and of strconv hold their numbers. The non-vacuity check of the statements on facts that are sealed (w21Kept), walked. Condition: the variables of digest and of strconv hold their numbers. Plain facts on Check: the first entry with an error; days. No condition. Plain facts on a chain of the texts of facts. No condition. Plain facts on a chain in which the root of leaves is signed. No condition. The non-vacuity check of the statements on facts that are sealed (w21Kept), walked. Condition: the variables of digest and of strconv hold their numbers. -/
import Derived.Test.YtamiaalfjmppaaaDoorZJ1
import Derived.Test.YtamiaalfjmppaaaDoorApl
import Derived.OwnWalk
import Derived.Laws.MakeOwn
import Derived.Lib.SmallJoins
import Derived.Test.YtamiaalfjmppaaaDoorFb1
import Derived.Test.YtamiaalfjmppaaaDoorRf
namespace Go.Proofs.YtamiaalfjmppaaaDoor
open Go.RowKit Go.Blk Go.Opn Go.Apl

theorem infoE : (Tryd.prog.info? 42).map (fun i => (i.zero, i.size, i.bytes)) = some (some (.agg #[.int .i64 0, .int .i64 0, .int .i64 0, .string ⟨#[]⟩, .string ⟨#[]⟩, .int .i64 0, .int .i64 0]), 7, 72) := by kernel_rfl
theorem encE_len (e : E31) : (encE e).length = 7 := rfl
theorem encE_one (e : E31) : ∀ u ∈ encE e, u.oneCell' = true := by
  intro u hu
  simp only [encE, List.mem_cons, List.not_mem_nil, or_false] at hu
  rcases hu with rfl | rfl | rfl | rfl | rfl | rfl | rfl <;> rfl
theorem sumB_size (t : ByteArray) : (sumB KC t).size = 64 := by rw [sumB_eq]; show (sumL KC t).toArray.size = 64; simp [sumL_len]
theorem prevE_size (l : List E31) : (prevE l).size ≤ 64 := by
  unfold prevE
  cases l.getLast? with
  | none => exact Nat.zero_le _
  | some e => exact Nat.le_of_eq (sumB_size _)
/-- The entry before it is signed. -/
def nxE (l : List E31) (house day : Int) (body : ByteArray) : E31 := ⟨house, l.length, day, prevE l, body, 0, 0⟩
def nx0 (l : List E31) (house day : Int) (body : ByteArray) : E31 := ⟨house, l.length, day, ⟨#[]⟩, body, 0, 0⟩
/-- The further entry. -/
def appN (l : List E31) (house secret day : Int) (body : ByteArray) : E31 := ⟨house, l.length, day, prevE l, body, sgR secret (txE (nxE l house day body)), sgS secret (txE (nxE l house day body))⟩
/-- The error of Append. -/
def appE (l : List E31) (house secret day : Int) (body : ByteArray) : Int :=
  if isSec secret then (if (chk l house (pubV secret)).1 = 0 then misp l (nx0 l house day body) house else (chk l house (pubV secret)).1) else 1
def AppPost (w : World) (l : List E31) (house secret day : Int) (body : ByteArray) (e : Ending) (w' : World) : Prop :=
  Below w.heap.size w w' ∧ ((appE l house secret day body ≠ 0 ∧ e = .returned (.tuple #[.slice none 0 0, .int .i64 (appE l house secret day body)])) ∨
    (appE l house secret day body = 0 ∧ ∃ b, w.heap.size ≤ b ∧ e = .returned (.tuple #[.slice (some ⟨b, 0, none⟩) (l.length + 1) (l.length + 1), .int .i64 0]) ∧ SL w' 7 encE (some ⟨b, 0, none⟩) (l ++ [appN l house secret day body])))
def zeroE : List Value := [.int .i64 0, .int .i64 0, .int .i64 0, .string ⟨#[]⟩, .string ⟨#[]⟩, .int .i64 0, .int .i64 0]
def madeE (n : Nat) : Array Value := madeCells zeroE.toArray ((n + 1) * 7)
theorem madeE_size (n : Nat) : (madeE n).size = (n + 1) * 7 := size_madeCells _ _
theorem made_entries (n : Nat) (hn : n ≤ 1000000) (W : World) : (Instr.makeSlice 28 (.int .i64 0) (.int .i64 ((n : Int) + 1))).run Tryd.prog W = .ok (.slice (some ⟨W.heap.size, 0, none⟩) 0 (n + 1)) (W.alloc (.cells (madeE n) 42)) := by
  obtain ⟨i, hi, hz0, hz1, hz2⟩ := info_parts infoE
  have h := run_make (P := Tryd.prog) W 28 42 i _ Tryd.underlying28 hi hz0 .i64 .i64 0 ((n : Int) + 1) (by omega) (by omega) (by rw [hz2]; omega) (by omega)
  rw [h, hz1]
  have e : ((n : Int) + 1).toNat = n + 1 := by omega
  rw [e]; rfl
theorem misp_err (l : List E31) (e : E31) (house : Int) : misp l e house = 0 ∨ misp l e house ≠ 0 := Decidable.em _
set_option maxRecDepth 100000 in
set_option maxHeartbeats 4000000 in
theorem app_any (A : Option Addr) (c : Nat) (l : List E31) (house secret day : Int) (body : ByteArray) (w : World) (h : SL w 7 encE A l) (hl : l.length ≤ 1000000) (hlc : l.length ≤ c) (hf : Few l)
    (hh0 : -9223372036854775808 ≤ house) (hh1 : house ≤ 9223372036854775807) (hd0 : -9223372036854775808 ≤ day) (hd1 : day ≤ 9223372036854775807) (hb : body.size ≤ 1000000000) (hT : HasT w) :
    Calls Tryd.prog 15 #[.slice A l.length c, .int .i64 house, .int .i64 secret, .int .i64 day, .string body] w (AppPost w l house secret day body) := by
  have c0 := fun w => pub_any secret w
  unfold pubE at c0
  by_cases hs : isSec secret
  · simp only [if_pos hs] at c0
    obtain ⟨E, eE⟩ : ∃ E, E = appE l house secret day body := ⟨_, rfl⟩
    obtain ⟨y, ey⟩ : ∃ y, y = pubV secret := ⟨_, rfl⟩
    have hE : E = if (chk l house y).1 = 0 then misp l (nx0 l house day body) house else (chk l house y).1 := by rw [eE, ey]; unfold appE; rw [if_pos hs]
    have POST : Hid (∀ e w', Below w.heap.size w w' → ((E ≠ 0 ∧ e = .returned (.tuple #[.slice none 0 0, .int .i64 E])) ∨
        (E = 0 ∧ ∃ b, w.heap.size ≤ b ∧ e = .returned (.tuple #[.slice (some ⟨b, 0, none⟩) (l.length + 1) (l.length + 1), .int .i64 0]) ∧ SL w' 7 encE (some ⟨b, 0, none⟩) (l ++ [appN l house secret day body]))) → AppPost w l house secret day body e w') := by
      intro e w' h1 h2
      rw [eE] at h2
      exact ⟨h1, h2⟩
    have C0 := Lib.hid c0
    have C1 : Hid (∀ w', Below w.heap.size w w' → Calls Tryd.prog 17 #[.slice A l.length c, .int .i64 house, .int .i64 y] w' (ChkPost w' (chk l house y))) := fun w' hb => check_any A c l house y w' (h.below hb (Nat.le_refl _)) (by omega) hlc hf (hT.below hb (Nat.le_refl _))
    have C2 : Hid (∀ w', Below w.heap.size w w' → Calls Tryd.prog 41 #[.slice A l.length c, .agg (encE (nx0 l house day body)).toArray, .int .i64 house] w' fun en w2 => en = .returned (.int .i64 (misp l (nx0 l house day body) house)) ∧ Below w'.heap.size w' w2) := fun w' hb => misp_any A c l _ house w' (by omega) (h.below hb (Nat.le_refl _))
    have C3 : Hid (∀ w', Below w.heap.size w w' → Calls Tryd.prog 42 #[.slice A l.length c] w' fun en w2 => en = .returned (.string (prevE l)) ∧ Below w'.heap.size w' w2) := fun w' hb => prev_any A c l w' (h.below hb (Nat.le_refl _)) (by omega) hf (hT.below hb (Nat.le_refl _))
    have hps := prevE_size l
    have hok : (nxE l house day body).Ok := by
      refine ⟨hh0, hh1, ?_, ?_, hd0, hd1, (by decide : (-9223372036854775808 : Int) ≤ 0), (by decide : (0 : Int) ≤ 9223372036854775807), (by decide : (-9223372036854775808 : Int) ≤ 0), (by decide : (0 : Int) ≤ 9223372036854775807), ?_, ?_⟩
      · show (-9223372036854775808 : Int) ≤ (l.length : Int); omega
      · show (l.length : Int) ≤ 9223372036854775807; omega
      · show (prevE l).size ≤ _; omega
      · show body.size ≤ _; omega
    have C4 : Hid (∀ w', Below w.heap.size w w' → Calls Tryd.prog 44 #[.agg (encE (nxE l house day body)).toArray] w' fun en w2 => en = .returned (.string (txE (nxE l house day body))) ∧ Below w'.heap.size w' w2) := fun w' hb2 => text31_any _ w' hok (by show (prevE l).size ≤ _; omega) hb (hT.below hb2 (Nat.le_refl _))
    have htx : (txE (nxE l house day body)).size ≤ 1000000000000 := by
      have := txE_size hok
      have e1 : (nxE l house day body).prev.size ≤ 64 := hps
      have e2 : (nxE l house day body).body.size ≤ 1000000000 := hb
      omega
    have C5 : Hid (∀ w', Below w.heap.size w w' → Calls Tryd.prog 43 #[.int .i64 secret, .string (txE (nxE l house day body))] w' fun e w2 => e = .returned (.tuple #[.agg #[.int .i64 (sgR secret (txE (nxE l house day body))), .int .i64 (sgS secret (txE (nxE l house day body)))], .int .i64 0]) ∧ Below w'.heap.size w' w2) := fun w' hb2 => sign_yes secret _ w' hs htx (hT.below hb2 (Nat.le_refl _))
    have EA : Hid (encE (appN l house secret day body) = [.int .i64 house, .int .i64 l.length, .int .i64 day, .string (prevE l), .string body, .int .i64 (sgR secret (txE (nxE l house day body))), .int .i64 (sgS secret (txE (nxE l house day body)))]) := rfl
    obtain ⟨nw, enw⟩ : ∃ nw, nw = appN l house secret day body := ⟨_, rfl⟩
    obtain ⟨ms, ems⟩ : ∃ ms, ms = misp l (nx0 l house day body) house := ⟨_, rfl⟩
    rw [← enw] at POST EA
    rw [← ems] at hE C2
    obtain ⟨pv, epv⟩ : ∃ pv, pv = prevE l := ⟨_, rfl⟩
    obtain ⟨tx, etx⟩ : ∃ tx, tx = txE (nxE l house day body) := ⟨_, rfl⟩
    have C4' : Hid (∀ w', Below w.heap.size w w' → Calls Tryd.prog 44 #[.agg #[.int .i64 house, .int .i64 l.length, .int .i64 day, .string pv, .string body, .int .i64 0, .int .i64 0]] w' fun en w2 => en = .returned (.string tx) ∧ Below w'.heap.size w' w2) := by
      rw [epv, etx]; exact C4
    have C2' : Hid (∀ w', Below w.heap.size w w' → Calls Tryd.prog 41 #[.slice A l.length c, .agg #[.int .i64 house, .int .i64 l.length, .int .i64 day, .string ⟨#[]⟩, .string body, .int .i64 0, .int .i64 0], .int .i64 house] w' fun en w2 => en = .returned (.int .i64 ms) ∧ Below w'.heap.size w' w2) := C2
    rw [← etx] at C5 EA
    rw [← epv] at C3 EA
    obtain ⟨sr, esr⟩ : ∃ sr, sr = sgR secret tx := ⟨_, rfl⟩
    obtain ⟨ss, ess⟩ : ∃ ss, ss = sgS secret tx := ⟨_, rfl⟩
    rw [← esr, ← ess] at C5 EA
    rw [← ey] at C0
    obtain ⟨cr, ecr⟩ : ∃ cr, cr = chk l house y := ⟨_, rfl⟩
    rw [← ecr] at C1 hE
    obtain ⟨ce, ca⟩ := cr
    simp only at hE
    have HSL := Lib.hid h
    have HE := Lib.hid hE
    obtain ⟨n, en⟩ : ∃ n, n = l.length := ⟨_, rfl⟩
    rw [← en] at POST C1 C2' C3 C4' EA hl hlc ⊢
    have EN := Lib.hid en
    clear C2 C4 hs eE ey hE c0 hps hok htx hb enw ems epv etx esr ess ecr h hf hT en hh0 hh1 hd0 hd1
    go_enter Tryd.func15, Tryd.ntmps15
    go_wp2_with fail
    refine (C0.out _).mono ?_
    rintro e w' ⟨rfl, rfl⟩
    clear C0
    go_wp2_with fail
    refine (C1.out _ (Below.refl _ _)).mono ?_
    rintro e w1 ⟨rfl, hb1⟩
    have HB1 := Lib.hid hb1
    clear hb1 C1
    simp only
    by_cases hce : ce = 0
    · subst hce
      have he : E = ms := by rw [HE.out, if_pos rfl]
      have HE2 := Lib.hid he
      clear HE he
      go_wp2_with fail
      refine (C2'.out _ (HB1.out.alloc HB1.out.size _)).mono ?_
      rintro e w2 ⟨rfl, hb2⟩
      have B2 := Lib.hid ((Blk.new w1 [.int .i64 house, .int .i64 n, .int .i64 day, .string ⟨#[]⟩, .string body, .int .i64 0, .int .i64 0] 42).below hb2 (by simp))
      have HB2 := Lib.hid ((HB1.out.alloc HB1.out.size (.cells #[.int .i64 house, .int .i64 n, .int .i64 day, .string ⟨#[]⟩, .string body, .int .i64 0, .int .i64 0] 42)).trans (hb2.mono (by have := HB1.out.size; simp; omega)))
      clear hb2 C2'
      obtain ⟨q, eq⟩ : ∃ q, q = w1.heap.size := ⟨_, rfl⟩
      have hq : w.heap.size ≤ q := by rw [eq]; exact HB1.out.size
      rw [← eq] at B2 ⊢
      clear eq
      by_cases hms : ms = 0
      · subst hms
        go_wp2_with fail
        refine (C3.out _ HB2.out).mono ?_
        rintro e w3 ⟨rfl, hb3⟩
        have b3 := B2.out.below hb3 B2.out.lt
        have f3 := b3.frozen 3
        have g3 := b3.cellD 3 _ rfl
        have b4 := b3.set 3 (.string pv)
        simp only [List.set_cons_succ, List.set_cons_zero] at b4
        have B4 := Lib.hid b4
        have c0 := b4.cellD 0 _ rfl
        have c1 := b4.cellD 1 _ rfl
        have c2 := b4.cellD 2 _ rfl
        have c3 := b4.cellD 3 _ rfl
        have c4 := b4.cellD 4 _ rfl
        have c5 := b4.cellD 5 _ rfl
        have c6 := b4.cellD 6 _ rfl
        have HB4 := Lib.hid ((HB2.out.trans (hb3.mono HB2.out.size)).setCell (p := ⟨q, 3, none⟩) hq (.string pv))
        clear hb3 b3 b4 C3 B2 HB2
        go_wp2_with fail
        refine (C4'.out _ HB4.out).mono ?_
        rintro e w5 ⟨rfl, hb5⟩
        have B5 := Lib.hid (B4.out.below hb5 B4.out.lt)
        have HB5 := Lib.hid (HB4.out.trans (hb5.mono HB4.out.size))
        clear hb5 C4' B4 HB4 c0 c1 c2 c3 c4 c5 c6 f3 g3
        go_wp2_with fail
        refine (C5.out _ HB5.out).mono ?_
        rintro e w6 ⟨rfl, hb6⟩
        have b6 := B5.out.below hb6 B5.out.lt
        have f5 := b6.frozen 5
        have f6 := b6.frozen 6
        have g5 := b6.cellD 5 _ rfl
        have g6 := b6.cellD 6 _ rfl
        have b7 := (b6.set 5 (.int .i64 sr)).set 6 (.int .i64 ss)
        simp only [List.set_cons_succ, List.set_cons_zero] at b7
        have B7 := Lib.hid b7
        have HB7 := Lib.hid (((HB5.out.trans (hb6.mono HB5.out.size)).setCell (p := ⟨q, 5, none⟩) hq (.int .i64 sr)).setCell (p := ⟨q, 6, none⟩) hq (.int .i64 ss))
        have hmk := fun W => made_entries n hl W
        obtain ⟨Z, eZ⟩ : ∃ Z, Z = madeE n := ⟨_, rfl⟩
        have hZ : Z.size = (n + 1) * 7 := by rw [eZ]; exact madeE_size n
        rw [← eZ] at hmk
        have HZ := Lib.hid hZ
        clear hb6 b6 b7 C5 B5 HB5 eZ hZ
        go_wp2_with fail
        obtain ⟨V, eV⟩ : ∃ V, V = ((w6.setCell ⟨q, 5, none⟩ (.int .i64 sr)).setCell ⟨q, 6, none⟩ (.int .i64 ss)).alloc (.cells Z 42) := ⟨_, rfl⟩
        obtain ⟨g, eg⟩ : ∃ g, g = w6.heap.size := ⟨_, rfl⟩
        have hz6 : ((w6.setCell ⟨q, 5, none⟩ (.int .i64 sr)).setCell ⟨q, 6, none⟩ (.int .i64 ss)).heap.size = w6.heap.size := by simp [World.setCell]
        have hbV : Below w.heap.size w V := by rw [eV]; exact HB7.out.alloc HB7.out.size _
        have bq : Blk V q (encE nw) 42 := by rw [eV, EA.out]; exact B7.out.alloc _
        have hgV : V.heap[g]? = some (.cells Z 42 (0, 0)) := by rw [eV, eg, ← hz6]; exact heap_alloc_last _ _
        have hgq : q ≠ g := by have := B7.out.lt; rw [hz6] at this; omega
        have hgw : w.heap.size ≤ g := by have := HB7.out.size; rw [hz6] at this; omega
        rw [← eV, ← eg]
        obtain ⟨i0, hi, hz0, hz1, hz2⟩ := info_parts infoE
        have HI := Lib.hid hi
        have HZ0 := Lib.hid hz0
        have HZ1 := Lib.hid hz1
        have hXl : (l.flatMap encE).length = n * 7 := by rw [flat_len encE_len, EN.out]
        have HX := Lib.hid hXl
        letI : Fre2.Rel := ⟨RowL g 42 (l.flatMap encE) (encE nw), RowL.refl, RowL.trans⟩
        clear eV eg hz6 hmk B7 HB7 hi hz0 hz1 hz2 f5 f6 g5 g6 hXl
        refine Fre2.wp_region_free 6 [(2, .ind (fun _ => .slice (some ⟨g, 0, none⟩) n (n + 1)) (fun _ w2 => ∃ cc : Array Value, w2.heap[g]? = some (.cells cc 42 (0, 0)) ∧ cc.size = (n + 1) * 7 ∧ cc.toList.take (l.flatMap encE).length = l.flatMap encE)),
            (4, .ind (fun g6 => .slice (some ⟨g6, 0, none⟩) 1 1) (fun g6 w2 => Blk w2 g6 (encE nw) 42 ∧ g6 ≠ g)),
            (5, .ind (fun _ => .slice (some ⟨g, 0, none⟩) (n + 1) (n + 1)) (fun _ w2 => ∃ cc : Array Value, w2.heap[g]? = some (.cells cc 42 (0, 0)) ∧ cc.toList = l.flatMap encE ++ encE nw))]
          (fun w2 => Below w.heap.size w w2 ∧ Blk w2 q (encE nw) 42 ∧ ∃ cc : Array Value, w2.heap[g]? = some (.cells cc 42 (0, 0)) ∧ cc.size = (n + 1) * 7) (by kernel_rfl) (by kernel_rfl) ?_ ⟨hbV.drew, bq.drew, Z, hgV, HZ.out⟩
          (fun w1 w2 h r => ?_) ?_
        · intro j mk r hf y w1 w2 hr rr
          have rr : RowL g 42 (l.flatMap encE) (encE nw) w1 w2 := rr
          simp only [Free.find] at hf
          repeat' split at hf
          · cases hf
            obtain ⟨cc, h1, h2, h3⟩ := hr
            obtain ⟨c2, k1, k2, k3, _⟩ := rr.row cc h1
            exact ⟨c2, k1, k2.trans h2, k3 h3⟩
          · cases hf; exact ⟨hr.1.keepB (rr.block _ hr.1.lt hr.2), hr.2⟩
          · cases hf
            obtain ⟨cc, h1, h2⟩ := hr
            obtain ⟨c2, k1, _, _, k4⟩ := rr.row cc h1
            exact ⟨c2, k1, k4 h2⟩
          · cases hf
        · have r : RowL g 42 (l.flatMap encE) (encE nw) w1 w2 := r
          obtain ⟨h1, h2, cc, h3, h4⟩ := h
          obtain ⟨c2, k1, k2, _, _⟩ := r.row cc h3
          refine ⟨⟨r.os.trans h1.os, r.tape.trans h1.tape, r.output.trans h1.output, Nat.le_trans h1.size r.size, fun k hk => (r.block k (Nat.lt_of_lt_of_le hk h1.size) (by omega)).trans (h1.block k hk)⟩, h2.keepB (r.block _ h2.lt hgq), c2, k1, k2.trans h4⟩
        simp only [List.take_succ_cons, List.take_zero]
        clear hbV bq hgV
        iterate 2 (apply Fre2.chain_still (by first | exact Free.wanted_of rfl rfl rfl | rfl) rfl; (intro w' hB hA; obtain ⟨q0, q1, q2⟩ := hB; clear hA  q0 q1 q2; go_light; go_simp <;> rfl); (try simp only [Act.put, List.setIfInBounds_toArray, List.set_cons_succ, List.set_cons_zero]))
        apply Fre2.chain_ind rfl rfl
        · intro w' hB hA
          obtain ⟨hb, _, cc, h3, h4⟩ := hB
          obtain ⟨w2, hrun, hgr, hhp⟩ := append_list (P := Tryd.prog) w' 28 28 42 i0 Tryd.underlying28 HI.out HZ1.out encE_len encE_one g 0 (n + 1) cc h3 A c l (HSL.out.below hb (Nat.le_refl _)) (by have := EN.out; omega) h4
          rw [Nat.zero_add, ← EN.out] at hrun
          rw [Nat.zero_mul] at hhp
          refine Free.opRun_of (v := .slice (some ⟨g, 0, none⟩) n (n + 1)) (w' := w2) (exec_append (s := .tmp 68) (x := .tmp 69) rfl rfl rfl hrun) ⟨?_, 0, rfl, _, hhp, ?_, spl_first_take cc _⟩
          · exact RowL.of_set hgr h3 hhp (Apk.spl_size _ _ _ (by rw [HX.out, h4]; omega)) (fun _ => spl_first_take cc _) (spl_first_full cc _ _)
          · rw [Apk.spl_size _ _ _ (by rw [HX.out, h4]; omega)]; exact h4
        intro y0
        simp only [Act.put, List.setIfInBounds_toArray, List.set_cons_succ, List.set_cons_zero]
        apply Fre2.chain_still rfl rfl
        · intro w' hB hA
          exact exec_row rfl (by rfl) hB.2.1 Tryd.underlying42 rfl (by rw [List.size_toArray, encE_len]; kernel_rfl)
        simp only [Act.put, List.setIfInBounds_toArray, List.set_cons_succ, List.set_cons_zero]
        apply Fre2.chain_ind rfl rfl
        · intro w' hB hA
          refine Free.opRun_of (v := .slice (some ⟨w'.heap.size, 0, none⟩) 1 1) (w' := w'.alloc (.cells (encE nw).toArray 42)) ?_ ⟨RowL.grow ((Below.refl _ _).alloc (Nat.le_refl _) _), w'.heap.size, rfl, Blk.new w' (encE nw) 42, ?_⟩
          · have hb := Apk.run_slice_one (P := Tryd.prog) w' 28 42 i0 _ Tryd.underlying28 HI.out HZ0.out (encE nw).toArray (by rw [List.size_toArray, encE_len, HZ1.out]) (by rw [HZ1.out]; decide) (by rw [HZ1.out]; decide)
            exact exec_slice rfl hb
          · obtain ⟨_, _, cc, h3, _⟩ := hB
            have := (Array.getElem?_eq_some_iff.1 h3).1; omega
        intro g6
        simp only [Act.put, List.setIfInBounds_toArray, List.set_cons_succ, List.set_cons_zero]
        apply Fre2.chain_ind rfl rfl
        · intro w' hB hA
          have h6 : Blk w' g6 (encE nw) 42 ∧ g6 ≠ g := hA _ List.mem_cons_self (by kernel_rfl)
          obtain ⟨cc, h3, h4, h5⟩ : ∃ cc : Array Value, w'.heap[g]? = some (.cells cc 42 (0, 0)) ∧ cc.size = (n + 1) * 7 ∧ cc.toList.take (l.flatMap encE).length = l.flatMap encE := hA _ (List.mem_cons_of_mem _ List.mem_cons_self) (by kernel_rfl)
          have hs1 : SL w' 7 encE (some ⟨g6, 0, none⟩) [nw] := sl_of_cells encE_len h6.1 (fun j u hu => by simpa using hu)
          obtain ⟨w2, hrun, hgr, hhp⟩ := append_list (P := Tryd.prog) w' 28 28 42 i0 Tryd.underlying28 HI.out HZ1.out encE_len encE_one g n (n + 1) cc h3 (some ⟨g6, 0, none⟩) 1 [nw] hs1 (Nat.le_refl _) h4
          have e1 : [nw].flatMap encE = encE nw := by simp
          rw [e1, ← HX.out] at hhp
          have hlast := spl_last_full cc (l.flatMap encE) (encE nw) h5 (by rw [h4, HX.out, encE_len]; omega)
          refine Free.opRun_of (v := .slice (some ⟨g, 0, none⟩) (n + 1) (n + 1)) (w' := w2) (exec_append (s := .tmp 70) (x := .tmp 72) rfl rfl rfl hrun) ⟨?_, 0, rfl, _, hhp, hlast⟩
          exact RowL.of_set hgr h3 hhp (Apk.spl_size _ _ _ (by rw [HX.out, h4, encE_len]; omega)) (fun _ => by rw [hlast]; simp) (fun _ => hlast)
        intro y1
        simp only [Act.put, List.setIfInBounds_toArray, List.set_cons_succ, List.set_cons_zero]
        apply Fre2.chain_nil
        intro wz hBz hg hh
        obtain ⟨cc, h7, h8⟩ : ∃ cc : Array Value, wz.heap[g]? = some (.cells cc 42 (0, 0)) ∧ cc.toList = l.flatMap encE ++ encE nw := hh _ List.mem_cons_self
        have hSL : SL wz 7 encE (some ⟨g, 0, none⟩) (l ++ [nw]) := sl_of_cells encE_len h7 (fun j u hu => by
          have e1 : (l ++ [nw]).flatMap encE = cc.toList := by rw [h8]; simp
          rw [e1] at hu; simpa using hu)
        have FIN := Lib.hid (POST.out (.returned (.tuple #[.slice (some ⟨g, 0, none⟩) (n + 1) (n + 1), .int .i64 0])) wz hBz.1 (.inr ⟨HE2.out, g, hgw, rfl, hSL⟩))
        simp only [List.drop_succ_cons, List.drop_zero]
        clear hBz hg hh h7 h8 hSL POST HI HZ0 HZ1 HX HSL EN EA HZ
        go_wp2
        go_ret2
        exact FIN.out
      · have hcb : (ms != 0) = true := by simp [hms]
        go_wp2_with fail
        go_ret2
        exact POST.out _ _ HB2.out (.inl ⟨by rw [HE2.out]; exact hms, by rw [HE2.out]; rfl⟩)
    · have he : E = ce := by rw [HE.out, if_neg hce]
      have HE2 := Lib.hid he
      have hcb : (ce != 0) = true := by simp [hce]
      clear HE he
      go_wp2_with fail
      go_ret2
      exact POST.out _ _ HB1.out (.inl ⟨by rw [HE2.out]; exact hce, by rw [HE2.out]; rfl⟩)
  · have he : appE l house secret day body = 1 := by unfold appE; rw [if_neg hs]
    simp only [if_neg hs] at c0
    have C0 := Lib.hid c0
    have HE := Lib.hid he
    obtain ⟨y, ey⟩ : ∃ y, y = pubV secret := ⟨_, rfl⟩
    rw [← ey] at C0
    clear c0 he h hf hT ey
    go_enter Tryd.func15, Tryd.ntmps15
    go_wp2_with fail
    refine (C0.out _).mono ?_
    rintro e w' ⟨rfl, rfl⟩
    go_wp2_with fail
    go_ret2
    exact ⟨Below.refl _ _, .inl ⟨by rw [HE.out]; decide, by rw [HE.out]; rfl⟩⟩
end Go.Proofs.YtamiaalfjmppaaaDoor

namespace Go.Proofs.YtamiaalfjmppaaaDoor
open Go.RowKit Go.W32 Go.Blk Go.Sg

theorem cast_mulmod (a b : Nat) : ((a * b % gp : Nat) : Int) = (a : Int) * (b : Int) % 2147483647 := by rw [Int.natCast_emod, Int.natCast_mul]; rfl
theorem power_nat {b n : Int} (h1 : 1 ≤ b) (h2 : b ≤ 2147483646) (h3 : 0 ≤ n) : ∃ q : Nat, 1 ≤ q ∧ q < gp ∧ power b n = (q : Int) ∧ q = pw b.toNat n.toNat :=
  ⟨pw b.toNat n.toNat, pw_pos _ _ (by omega) (by unfold gp; omega), pw_lt _ _, power_in h1 h2 h3, rfl⟩
theorem power_pos {b n : Int} (h1 : 1 ≤ b) (h2 : b ≤ 2147483646) (h3 : 0 ≤ n) : 1 ≤ power b n := by
  obtain ⟨q, h, _, e, _⟩ := power_nat h1 h2 h3; omega
theorem pubV_in {x : Int} (h : isSec x) : pubV x = power 7 x := by unfold pubV; rw [if_pos h]
theorem pubV_pos {x : Int} (h : isSec x) : 1 ≤ pubV x := by rw [pubV_in h]; exact power_pos (by decide) (by decide) (by have := h.1; omega)
theorem sgR_pos (x : Int) (t : ByteArray) : 1 ≤ sgR x t := power_pos (by decide) (by decide) (by have := sgK_range x t; omega)
theorem sgR_le (x : Int) (t : ByteArray) : sgR x t ≤ 2147483646 := (power_range _ _).2
theorem sgS_range (x : Int) (t : ByteArray) : 0 ≤ sgS x t ∧ sgS x t ≤ 2147483645 := by unfold sgS; omega
theorem verOk_sign {x : Int} (h : isSec x) (t : ByteArray) : verOk (pubV x) (sgR x t) (sgS x t) :=
  ⟨sgR_pos x t, sgR_le x t, (sgS_range x t).1, (sgS_range x t).2, pubV_pos h, (pubV_range x).2⟩
/-- The power of the base with the number S. -/
theorem sign_eq {x : Int} (h : isSec x) (t : ByteArray) : power 7 (sgS x t) = sgR x t * power (pubV x) (chal (sgR x t) (pubV x) t) % 2147483647 := by
  obtain ⟨c, hc⟩ : ∃ c : Nat, chal (sgR x t) (pubV x) t = c := ⟨_, (Int.toNat_of_nonneg (chal_range _ _ _).1).symm⟩
  obtain ⟨k, hk⟩ : ∃ k : Nat, sgK x t = k := ⟨(sgK x t).toNat, by have := sgK_range x t; omega⟩
  obtain ⟨z, hz⟩ : ∃ z : Nat, x = z := ⟨x.toNat, by have := h.1; omega⟩
  have hS : sgS x t = ((k + c * z) % 2147483646 : Nat) := by unfold sgS; rw [hc, hk, hz, Int.natCast_emod, Int.natCast_add, Int.natCast_mul]; rfl
  have hR : sgR x t = (pw 7 k : Nat) := by unfold sgR; rw [hk, power_in (by decide) (by decide) (by omega)]; rfl
  have hV : pubV x = (pw 7 z : Nat) := by rw [pubV_in h, hz, power_in (by decide) (by decide) (by omega)]; rfl
  have hV1 := pubV_pos h
  have hV2 := (pubV_range x).2
  rw [hc, hS, power_in (by decide) (by decide) (by omega), power_in hV1 hV2 (by omega), hR, hV]
  simp only [Int.toNat_natCast]
  rw [show (7 : Int).toNat = 7 from rfl, pw_mod 7 _ (by decide) (by decide), pw_pw, pw_add, Nat.mul_comm z c, cast_mulmod]
theorem ver_sign {x : Int} (h : isSec x) (t : ByteArray) : verB (pubV x) t (sgR x t) (sgS x t) = true := by
  unfold verB; rw [decide_eq_true (verOk_sign h t), sign_eq h t]; simp
theorem power7_inj {a b : Int} (ha : 0 ≤ a) (ha2 : a ≤ 2147483645) (hb : 0 ≤ b) (hb2 : b ≤ 2147483645) (h : power 7 a = power 7 b) : a = b := by
  rw [power_in (by decide) (by decide) ha, power_in (by decide) (by decide) hb] at h
  have := seven_inj (i := a.toNat) (j := b.toNat) (by omega) (by omega) (by exact_mod_cast h)
  omega
theorem verB_iff (y : Int) (t : ByteArray) (r s : Int) : verB y t r s = true ↔ verOk y r s ∧ power 7 s = r * power y (chal r y t) % 2147483647 := by
  unfold verB; simp
theorem ver_once {y : Int} {t : ByteArray} {r a b : Int} (h1 : verB y t r a = true) (h2 : verB y t r b = true) : a = b := by
  obtain ⟨⟨_, _, a1, a2, _⟩, e1⟩ := (verB_iff _ _ _ _).1 h1
  obtain ⟨⟨_, _, b1, b2, _⟩, e2⟩ := (verB_iff _ _ _ _).1 h2
  exact power7_inj a1 a2 b1 b2 (e1.trans e2.symm)
/-- For a signature's R, just its own S belongs. -/
theorem ver_other {x : Int} (h : isSec x) (t : ByteArray) (o : Int) : verB (pubV x) t (sgR x t) o = (o == sgS x t) := by
  by_cases e : o = sgS x t
  · subst e; rw [ver_sign h t]; simp
  · have : verB (pubV x) t (sgR x t) o = false := by
      cases hv : verB (pubV x) t (sgR x t) o
      · rfl
      · exact absurd (ver_once hv (ver_sign h t)) e
    rw [this]; simp [e]
theorem cancelI {r a b : Int} (h1 : 1 ≤ r) (h2 : r ≤ 2147483646) (ha : 0 ≤ a) (ha2 : a ≤ 2147483646) (hb : 0 ≤ b) (hb2 : b ≤ 2147483646) (h : r * a % 2147483647 = r * b % 2147483647) : a = b := by
  obtain ⟨r, rfl⟩ : ∃ n : Nat, r = n := ⟨r.toNat, by omega⟩
  obtain ⟨a, rfl⟩ : ∃ n : Nat, a = n := ⟨a.toNat, by omega⟩
  obtain ⟨b, rfl⟩ : ∃ n : Nat, b = n := ⟨b.toNat, by omega⟩
  have := cancel (r := r) (a := a) (b := b) (by omega) (by unfold gp; omega) (by unfold gp; omega) (by unfold gp; omega) (by rw [← cast_mulmod, ← cast_mulmod] at h; exact Int.ofNat.inj h)
  rw [this]
theorem ver_texts {x : Int} (h : isSec x) (t u : ByteArray) :
    verB (pubV x) u (sgR x t) (sgS x t) = (power (pubV x) (chal (sgR x t) (pubV x) t) == power (pubV x) (chal (sgR x t) (pubV x) u)) := by
  rw [Bool.eq_iff_iff, verB_iff, sign_eq h t]
  simp only [verOk_sign h t, true_and, beq_iff_eq]
  have r1 := power_range (pubV x) (chal (sgR x t) (pubV x) t)
  have r2 := power_range (pubV x) (chal (sgR x t) (pubV x) u)
  exact ⟨fun e => cancelI (sgR_pos x t) (sgR_le x t) r1.1 r1.2 r2.1 r2.2 e, fun e => by rw [e]⟩
theorem pub_keys {a b : Int} (ha : isSec a) (hb : isSec b) : (pubV a == pubV b) = (a == b) := by
  rw [Bool.eq_iff_iff]; simp only [beq_iff_eq]
  rw [pubV_in ha, pubV_in hb]
  exact ⟨fun e => power7_inj (by have := ha.1; omega) (by have := ha.2; omega) (by have := hb.1; omega) (by have := hb.2; omega) e, fun e => by rw [e]⟩
theorem power_sum {b m n : Int} (h1 : 1 ≤ b) (h2 : b ≤ 2147483646) (hm : 0 ≤ m) (hn : 0 ≤ n) : power b (m + n) = power b m * power b n % 2147483647 := by
  rw [power_in h1 h2 hm, power_in h1 h2 hn, power_in h1 h2 (by omega), show (m + n).toNat = m.toNat + n.toNat by omega, pw_add, cast_mulmod]
theorem power_full {b : Int} (h1 : 1 ≤ b) (h2 : b ≤ 2147483646) : power b 2147483646 = 1 := by
  rw [power_in h1 h2 (by decide)]
  have := pw_full b.toNat (by omega) (by unfold gp; omega)
  rw [show (2147483646 : Int).toNat = 2147483646 from rfl, this]; rfl
theorem power_one {b : Int} (h1 : 1 ≤ b) (h2 : b ≤ 2147483646) : power b 1 = b := by
  rw [power_in h1 h2 (by decide)]
  have := pw_one b.toNat (by unfold gp; omega)
  rw [show (1 : Int).toNat = 1 from rfl, this]; omega
theorem power_zero {b : Int} (h1 : 1 ≤ b) (h2 : b ≤ 2147483646) : power b 0 = 1 := by
  rw [power_in h1 h2 (by decide)]
  have := pw_zero b.toNat
  rw [show (0 : Int).toNat = 0 from rfl, this]; rfl

/-- The numeral of a number that is not negative, with a text behind it: as the loop of the law's 'decimal' makes it. -/
theorem dec_nonneg (n : Nat) : dec (n : Int) = ⟨(Lib.decDigits n).toArray⟩ := by unfold dec; rw [Lib.itoa_nonneg]
def digB (d : Nat) : ByteArray := ⟨#[UInt8.ofNat (48 + d)]⟩
theorem ba_ext {a b : ByteArray} (h : a.data.toList = b.data.toList) : a = b := by
  cases a; cases b; congr 1; exact Array.ext' h
theorem ba_append (a b : ByteArray) : (a ++ b).data.toList = a.data.toList ++ b.data.toList := by simp
theorem dec_big (n : Nat) (h : 9 < n) : dec (n : Int) = dec ((n / 10 : Nat) : Int) ++ digB (n % 10) := by
  rw [dec_nonneg, dec_nonneg]
  apply ba_ext
  rw [ba_append, Lib.decDigits, dif_neg (by omega)]
  simp [digB]
theorem dec_small (n : Nat) (h : n ≤ 9) : dec (n : Int) = digB n := by
  rw [dec_nonneg, Lib.decDigits_one (by omega)]; rfl
theorem ba_assoc (a b c : ByteArray) : a ++ b ++ c = a ++ (b ++ c) := by apply ba_ext; simp only [ba_append, List.append_assoc]
theorem dig_slice (d : Nat) (h : d < 10) : (⟨#[48, 49, 50, 51, 52, 53, 54, 55, 56, 57]⟩ : ByteArray).extract d (d + 1) = digB d := by
  have : ∀ d, d < 10 → (⟨#[48, 49, 50, 51, 52, 53, 54, 55, 56, 57]⟩ : ByteArray).extract d (d + 1) = digB d := by decide +kernel
  exact this d h
end Go.Proofs.YtamiaalfjmppaaaDoor

namespace Go.Proofs.YtamiaalfjmppaaaDoor
open Go.Sg Go.W32

theorem txE_sig (e : E31) (r s : Int) : txE { e with r := r, s := s } = txE e := rfl
theorem appN_tx (l : List E31) (house secret day : Int) (body : ByteArray) : txE (appN l house secret day body) = txE (nxE l house day body) := rfl
theorem misp_app (l : List E31) (house secret day : Int) (body : ByteArray) : misp l (appN l house secret day body) house = misp l (nx0 l house day body) house := rfl
theorem appE_ok {l : List E31} {house secret day : Int} {body : ByteArray} (h : appE l house secret day body = 0) : isSec secret ∧ (chk l house (pubV secret)).1 = 0 ∧ misp l (nx0 l house day body) house = 0 := by
  unfold appE at h
  split at h
  · rename_i hs
    split at h
    · rename_i hc; exact ⟨hs, hc, h⟩
    · rename_i hc; exact absurd h hc
  · cases h
theorem sgnB_app {l : List E31} {house secret day : Int} {body : ByteArray} (hs : isSec secret) : sgnB (appN l house secret day body) (pubV secret) = true := by
  unfold sgnB
  rw [appN_tx]
  exact ver_sign hs _
/-- What Append returns is a chain. -/
theorem app_chk {l : List E31} {house secret day : Int} {body : ByteArray} (h : appE l house secret day body = 0) : (chk (l ++ [appN l house secret day body]) house (pubV secret)).1 = 0 := by
  obtain ⟨hs, hc, hm⟩ := appE_ok h
  obtain ⟨hk, ha⟩ := (chk_ok_iff l house _).1 hc
  refine (chk_ok_iff _ _ _).2 ⟨hk, fun i e he => ?_⟩
  by_cases hi : i < l.length
  · rw [List.getElem?_append_left hi] at he
    rw [← ha i e he]
    unfold chk1
    rw [List.take_append_of_le_length (Nat.le_of_lt hi)]
  · have hil : i = l.length := by
      have := (List.getElem?_eq_some_iff.1 he).1
      simp at this; omega
    subst hil
    simp at he
    subst he
    unfold chk1
    rw [List.take_left, misp_app, hm, if_pos rfl]
    have e1 : (appN l house secret day body).prev = prevE l := rfl
    rw [e1]
    have e2 : verB (pubV secret) (txE (appN l house secret day body)) (appN l house secret day body).r (appN l house secret day body).s = true := sgnB_app hs
    rw [e2]; simp

theorem pw7_small (n : Nat) (h : n < 2 ^ 32) : power 7 (n : Int) = (fast 32 7 n 1 : Nat) := by
  rw [power_in (by decide) (by decide) (by omega), Int.toNat_natCast, show (7 : Int).toNat = 7 from rfl, pw_fast 7 n h]
theorem p7_5 : power 7 5 = 16807 := (pw7_small 5 (by decide)).trans (by decide +kernel)
theorem sec5 : isSec 5 := by decide
theorem pubV5 : pubV 5 = 16807 := (pubV_in sec5).trans p7_5
def ta : ByteArray := ⟨#[101, 110, 116, 114, 121, 32, 48, 32, 48, 32, 51, 32, 48, 32, 97]⟩
def tc : ByteArray := ⟨#[101, 110, 116, 114, 121, 32, 48, 32, 48, 32, 51, 32, 48, 32, 99]⟩
theorem dec0 : dec 0 = ⟨#[48]⟩ := (dec_small 0 (by decide)).trans rfl
theorem dec3 : dec 3 = ⟨#[51]⟩ := (dec_small 3 (by decide)).trans rfl
theorem dec5 : dec 5 = ⟨#[53]⟩ := (dec_small 5 (by decide)).trans rfl
theorem decY : dec 16807 = ⟨#[49, 54, 56, 48, 55]⟩ := by
  have h1 := dec_big 16807 (by decide)
  have h2 := dec_big 1680 (by decide)
  have h3 := dec_big 168 (by decide)
  have h4 := dec_big 16 (by decide)
  have h5 := dec_small 1 (by decide)
  simp only [Nat.reduceDiv, Nat.reduceMod] at h1 h2 h3 h4
  refine h1.trans ?_
  rw [h2, h3, h4, h5]; decide +kernel
theorem decR : dec 1489275650 = ⟨#[49, 52, 56, 57, 50, 55, 53, 54, 53, 48]⟩ := by
  have h1 := dec_big 1489275650 (by decide)
  have h2 := dec_big 148927565 (by decide)
  have h3 := dec_big 14892756 (by decide)
  have h4 := dec_big 1489275 (by decide)
  have h5 := dec_big 148927 (by decide)
  have h6 := dec_big 14892 (by decide)
  have h7 := dec_big 1489 (by decide)
  have h8 := dec_big 148 (by decide)
  have h9 := dec_big 14 (by decide)
  have h10 := dec_small 1 (by decide)
  simp only [Nat.reduceDiv, Nat.reduceMod] at h1 h2 h3 h4 h5 h6 h7 h8 h9
  refine h1.trans ?_
  rw [h2, h3, h4, h5, h6, h7, h8, h9, h10]; decide +kernel
theorem ta_is : txE ⟨0, 0, 3, ⟨#[]⟩, ⟨#[97]⟩, 0, 0⟩ = ta := by
  have : txL ⟨0, 0, 3, ⟨#[]⟩, ⟨#[97]⟩, 0, 0⟩ = [101, 110, 116, 114, 121] ++ [32] ++ (dec 0).data.toList ++ [32] ++ (dec 0).data.toList ++ [32] ++ (dec 3).data.toList ++ [32] ++ (dec 0).data.toList ++ [32] ++ [] ++ [97] := by
    rfl
  unfold txE
  rw [this, dec0, dec3]; rfl
theorem tc_is : txE ⟨0, 0, 3, ⟨#[]⟩, ⟨#[99]⟩, 0, 0⟩ = tc := by
  have : txL ⟨0, 0, 3, ⟨#[]⟩, ⟨#[99]⟩, 0, 0⟩ = [101, 110, 116, 114, 121] ++ [32] ++ (dec 0).data.toList ++ [32] ++ (dec 0).data.toList ++ [32] ++ (dec 3).data.toList ++ [32] ++ (dec 0).data.toList ++ [32] ++ [] ++ [99] := by
    rfl
  unfold txE
  rw [this, dec0, dec3]; rfl
theorem k5a : sgK 5 ta = 406066904 := by
  unfold sgK sgT
  rw [dec5]; kernel_rfl
theorem r5a : sgR 5 ta = 1489275650 := by
  unfold sgR
  rw [k5a]; exact (pw7_small 406066904 (by decide)).trans (by decide +kernel)
theorem c5a : chal 1489275650 16807 ta = 84319894 := by
  unfold chal chT
  rw [decR, decY]; kernel_rfl
theorem c5c : chal 1489275650 16807 tc = 706663265 := by
  unfold chal chT
  rw [decR, decY]; kernel_rfl
theorem s5a : sgS 5 ta = 827666374 := by
  unfold sgS
  rw [pubV5, r5a, k5a, c5a]; rfl
theorem pwY (n : Nat) (h : n < 2 ^ 32) : power 16807 (n : Int) = (fast 32 16807 n 1 : Nat) := by
  rw [power_in (by decide) (by decide) (by omega), Int.toNat_natCast, show (16807 : Int).toNat = 16807 from rfl, pw_fast 16807 n h]
theorem ver_ac : verB 16807 tc (sgR 5 ta) (sgS 5 ta) = false := by
  rw [r5a, s5a]
  unfold verB
  rw [c5c]
  have e1 : power 7 827666374 = 1168526879 := (pw7_small 827666374 (by decide)).trans (by decide +kernel)
  have e2 : power 16807 706663265 = 1655303818 := (pwY 706663265 (by decide)).trans (by decide +kernel)
  rw [e1, e2]; decide
end Go.Proofs.YtamiaalfjmppaaaDoor

namespace Go.Proofs.YtamiaalfjmppaaaDoor
open Go.RowKit Go.Blk Go.Opn Go.Apl Go.Sg

theorem appN_ok (l : List E31) (house secret day : Int) (body : ByteArray) (hl : l.length ≤ 1000000)
    (hh0 : -9223372036854775808 ≤ house) (hh1 : house ≤ 9223372036854775807) (hd0 : -9223372036854775808 ≤ day) (hd1 : day ≤ 9223372036854775807) (hb : body.size ≤ 1000000000) : (appN l house secret day body).Ok ∧ (appN l house secret day body).prev.size ≤ 1000000000 ∧ (appN l house secret day body).body.size ≤ 1000000000 := by
  have hps := prevE_size l
  obtain ⟨t, et⟩ : ∃ t, t = txE (nxE l house day body) := ⟨_, rfl⟩
  have hr1 := sgR_pos secret t
  have hr2 := sgR_le secret t
  have hs := sgS_range secret t
  rw [et] at hr1 hr2 hs
  refine ⟨⟨hh0, hh1, ?_, ?_, hd0, hd1, ?_, ?_, ?_, ?_, ?_, ?_⟩, ?_, hb⟩
  · show (-9223372036854775808 : Int) ≤ (l.length : Int); omega
  · show (l.length : Int) ≤ 9223372036854775807; omega
  · show (-9223372036854775808 : Int) ≤ sgR secret _; omega
  · show sgR secret _ ≤ (9223372036854775807 : Int); omega
  · show (-9223372036854775808 : Int) ≤ sgS secret _; omega
  · show sgS secret _ ≤ (9223372036854775807 : Int); omega
  · show (prevE l).size ≤ _; omega
  · show body.size ≤ _; omega
  · show (prevE l).size ≤ _; omega
theorem few_app {l : List E31} {house secret day : Int} {body : ByteArray} (hf : Few l) (hl : l.length ≤ 1000000)
    (hh0 : -9223372036854775808 ≤ house) (hh1 : house ≤ 9223372036854775807) (hd0 : -9223372036854775808 ≤ day) (hd1 : day ≤ 9223372036854775807) (hb : body.size ≤ 1000000000) : Few (l ++ [appN l house secret day body]) := by
  intro e he
  rcases List.mem_append.1 he with he | he
  · exact hf e he
  · simp at he; subst he; exact appN_ok l house secret day body hl hh0 hh1 hd0 hd1 hb
theorem few_nil : Few [] := fun _ h => by cases h
theorem app_yes (A : Option Addr) (c : Nat) (l : List E31) (house secret day : Int) (body : ByteArray) (w : World) (h : SL w 7 encE A l) (hl : l.length ≤ 1000000) (hlc : l.length ≤ c) (hf : Few l)
    (hh0 : -9223372036854775808 ≤ house) (hh1 : house ≤ 9223372036854775807) (hd0 : -9223372036854775808 ≤ day) (hd1 : day ≤ 9223372036854775807) (hb : body.size ≤ 1000000000) (hT : HasT w) (hE : appE l house secret day body = 0) :
    Calls Tryd.prog 15 #[.slice A l.length c, .int .i64 house, .int .i64 secret, .int .i64 day, .string body] w fun e w' => ∃ b, w.heap.size ≤ b ∧ e = .returned (.tuple #[.slice (some ⟨b, 0, none⟩) (l.length + 1) (l.length + 1), .int .i64 0]) ∧ SL w' 7 encE (some ⟨b, 0, none⟩) (l ++ [appN l house secret day body]) ∧ Below w.heap.size w w' := by
  refine (app_any A c l house secret day body w h hl hlc hf hh0 hh1 hd0 hd1 hb hT).mono ?_
  rintro e w' ⟨h1, ⟨h2, _⟩ | ⟨_, b, h3, h4, h5⟩⟩
  · exact absurd hE h2
  · exact ⟨b, h3, h4, h5, h1⟩
theorem app_no (A : Option Addr) (c : Nat) (l : List E31) (house secret day : Int) (body : ByteArray) (E : Int) (w : World) (h : SL w 7 encE A l) (hl : l.length ≤ 1000000) (hlc : l.length ≤ c) (hf : Few l)
    (hh0 : -9223372036854775808 ≤ house) (hh1 : house ≤ 9223372036854775807) (hd0 : -9223372036854775808 ≤ day) (hd1 : day ≤ 9223372036854775807) (hb : body.size ≤ 1000000000) (hT : HasT w) (hE : appE l house secret day body = E) (h0 : E ≠ 0) :
    Calls Tryd.prog 15 #[.slice A l.length c, .int .i64 house, .int .i64 secret, .int .i64 day, .string body] w fun e w' => e = .returned (.tuple #[.slice none 0 0, .int .i64 E]) ∧ Below w.heap.size w w' := by
  refine (app_any A c l house secret day body w h hl hlc hf hh0 hh1 hd0 hd1 hb hT).mono ?_
  rintro e w' ⟨h1, ⟨_, h2⟩ | ⟨h2, _⟩⟩
  · rw [hE] at h2; exact ⟨h2, h1⟩
  · rw [hE] at h2; exact absurd h2 h0

def xa : E31 := appN [] 0 5 3 ⟨#[97]⟩
def xb : E31 := appN [xa] 0 5 4 ⟨#[98]⟩
def xc : E31 := appN [xa] 0 5 4 ⟨#[99]⟩
def xd : E31 := ⟨0, 0, 3, ⟨#[]⟩, ⟨#[99]⟩, xa.r, xa.s⟩
theorem hE1 : appE [] 0 5 3 ⟨#[97]⟩ = 0 := by
  unfold appE
  rw [if_pos sec5, pubV5]; rfl
theorem hE2 : appE [xa] 0 5 4 ⟨#[98]⟩ = 0 := by
  unfold appE
  rw [if_pos sec5, if_pos (show (chk [xa] 0 (pubV 5)).1 = 0 from app_chk hE1)]; rfl
theorem hE4 : appE [xa] 0 5 4 ⟨#[99]⟩ = 0 := by
  unfold appE
  rw [if_pos sec5, if_pos (show (chk [xa] 0 (pubV 5)).1 = 0 from app_chk hE1)]; rfl
theorem hE3 : appE [xa, xb] 0 5 2 ⟨#[100]⟩ = 15 := by
  unfold appE
  rw [if_pos sec5, if_pos (show (chk [xa, xb] 0 (pubV 5)).1 = 0 from app_chk hE2)]; rfl
theorem hCm : chk [xa, xb] 0 16807 = (0, -1) := by
  have := chk_ok (app_chk hE2)
  rw [pubV5] at this; exact this
theorem xa_r : xa.r = sgR 5 ta := by
  show sgR 5 (txE (nxE [] 0 3 ⟨#[97]⟩)) = _
  rw [show txE (nxE [] 0 3 ⟨#[97]⟩) = txE ⟨0, 0, 3, ⟨#[]⟩, ⟨#[97]⟩, 0, 0⟩ from rfl, ta_is]
theorem xa_s : xa.s = sgS 5 ta := by
  show sgS 5 (txE (nxE [] 0 3 ⟨#[97]⟩)) = _
  rw [show txE (nxE [] 0 3 ⟨#[97]⟩) = txE ⟨0, 0, 3, ⟨#[]⟩, ⟨#[97]⟩, 0, 0⟩ from rfl, ta_is]
set_option maxRecDepth 100000 in
theorem hCx_gen (r s : Int) (yb : E31) (hv : verB 16807 tc r s = false) : chk [⟨0, 0, 3, ⟨#[]⟩, ⟨#[99]⟩, r, s⟩, yb] 0 16807 = (17, 0) := by
  obtain ⟨x, ex⟩ : ∃ x : E31, x = ⟨0, 0, 3, ⟨#[]⟩, ⟨#[99]⟩, r, s⟩ := ⟨_, rfl⟩
  rw [← ex]
  have h1 : chk1 [x, yb] 0 x 0 16807 = 17 := by
    unfold chk1
    have e1 : verB 16807 (txE x) x.r x.s = false := by
      rw [ex]
      rw [show txE ⟨0, 0, 3, ⟨#[]⟩, ⟨#[99]⟩, r, s⟩ = txE ⟨0, 0, 3, ⟨#[]⟩, ⟨#[99]⟩, 0, 0⟩ from rfl, tc_is]; exact hv
    have e2 : misp (List.take 0 [x, yb]) x 0 = 0 := by rw [ex]; rfl
    rw [e1, e2, if_pos rfl]
    split <;> rfl
  have := chkGo_bad (l := [x, yb]) (house := 0) (pub := 16807) (n := 1) (k := 0) (e := x) rfl (by rw [h1]; decide)
  rw [h1] at this
  unfold chk
  rw [if_pos (by decide), show [x, yb].length = 1 + 1 from rfl, this]; rfl
theorem hCx : chk [xd, xb] 0 16807 = (17, 0) := hCx_gen xa.r xa.s xb (by rw [xa_r, xa_s]; exact ver_ac)
theorem hF1 : forkB xb xc 16807 = true := by
  have h0 : eqB xb xc = false := by
    cases h : eqB xb xc
    · rfl
    · have := congrArg E31.body ((eqB_iff _ _).1 h)
      exact absurd this (by decide)
  rw [fork_yes h0 rfl rfl, ← pubV5]
  have e1 : sgnB xb (pubV 5) = true := sgnB_app sec5
  have e2 : sgnB xc (pubV 5) = true := sgnB_app sec5
  rw [e1, e2]; rfl
theorem xb_prev : xb.prev.size = 64 := sumB_size _
theorem few_a : Few [xa] := few_app (l := []) few_nil (by decide) (by decide) (by decide) (by decide) (by decide) (by decide)
theorem few_ab : Few [xa, xb] := few_app (l := [xa]) few_a (by decide) (by decide) (by decide) (by decide) (by decide) (by decide)
theorem ok_c : xc.Ok ∧ xc.prev.size ≤ 1000000000 ∧ xc.body.size ≤ 1000000000 := appN_ok [xa] 0 5 4 ⟨#[99]⟩ (by decide) (by decide) (by decide) (by decide) (by decide) (by decide)
theorem ok_d : xd.Ok ∧ xd.prev.size ≤ 1000000000 ∧ xd.body.size ≤ 1000000000 := by
  obtain ⟨h, _, _⟩ := few_a xa (by simp)
  exact ⟨⟨by decide, by decide, by decide, by decide, by decide, by decide, h.r0, h.r1, h.s0, h.s1, by decide, by decide⟩, by decide, by decide⟩
theorem sl_pair {w : World} {b off : Nat} {x y : E31} (h : SL w 7 encE (some ⟨b, off, none⟩) [x, y]) : (∀ p u, (encE x)[p]? = some u → w.cell? ⟨b, off + p, none⟩ = some u) ∧ (∀ p u, (encE y)[p]? = some u → w.cell? ⟨b, off + (7 + p), none⟩ = some u) := by
  obtain ⟨b', o', e1, h1⟩ := h.cells (by simp)
  cases e1
  refine ⟨fun p u hu => ?_, fun p u hu => ?_⟩
  · have := h1 0 x rfl p u hu; simpa using this
  · have := h1 1 y rfl p u hu; simpa using this
end Go.Proofs.YtamiaalfjmppaaaDoor

namespace Go.Proofs.YtamiaalfjmppaaaDoor
open Go.RowKit Go.Blk Go.Opn Go.ChangeShapes Go.WideShapes Go.Deep Go.OpenShut

instance : Inhabited E31 := ⟨⟨0, 0, 0, ⟨#[]⟩, ⟨#[]⟩, 0, 0⟩⟩
theorem cellsEntry : Tryd.prog.cellsOf 42 = 7 := by kernel_rfl
theorem entry_of {H : Type} {enc : TypeId × Value → H} {w : World} {base : Nat} {spare : Nat → Bool} {held : Bool} {fuel : Nat} {cs : List Value} {x : DataW H × List MemPlace} (h : DataW.trod enc Tryd.prog w base spare held fuel 42 cs = some x) :
    ∃ a : E31, a.Ok ∧ ∀ (p : Nat) u, (encE a)[p]? = some u → cs[p]? = some u := by
  obtain ⟨k, hk, wk⟩ := leaf_int (f := 3) (p := 0) Tryd.underlying3 (by kernel_rfl) h
  obtain ⟨s, hs, ws⟩ := leaf_int (f := 3) (p := 1) Tryd.underlying3 (by kernel_rfl) h
  obtain ⟨b, hb, wb⟩ := leaf_int (f := 3) (p := 2) Tryd.underlying3 (by kernel_rfl) h
  obtain ⟨t, ht, wt⟩ := leaf_string (f := 3) (p := 3) Tryd.underlying9 (by kernel_rfl) h
  obtain ⟨t', ht', wt'⟩ := leaf_string (f := 3) (p := 4) Tryd.underlying9 (by kernel_rfl) h
  obtain ⟨f, hf, wf⟩ := leaf_int (f := 3) (p := 5) Tryd.underlying3 (by kernel_rfl) h
  obtain ⟨g, hg, wg⟩ := leaf_int (f := 3) (p := 6) Tryd.underlying3 (by kernel_rfl) h
  obtain ⟨k0, k1⟩ := bounds_i64 wk
  obtain ⟨s0, s1⟩ := bounds_i64 ws
  obtain ⟨b0, b1⟩ := bounds_i64 wb
  obtain ⟨f0, f1⟩ := bounds_i64 wf
  obtain ⟨g0, g1⟩ := bounds_i64 wg
  unfold maxLen at wt wt'
  refine ⟨⟨k, s, b, t, t', f, g⟩, ⟨k0, k1, s0, s1, b0, b1, f0, f1, g0, g1, wt, wt'⟩, fun p u hu => ?_⟩
  match p, hu with
  | 0, hu => cases hu; exact hk
  | 1, hu => cases hu; exact hs
  | 2, hu => cases hu; exact hb
  | 3, hu => cases hu; exact ht
  | 4, hu => cases hu; exact ht'
  | 5, hu => cases hu; exact hf
  | 6, hu => cases hu; exact hg
  | p + 7, hu => simp [encE] at hu
set_option maxRecDepth 100000 in
theorem open_entries {H : Type} {enc : TypeId × Value → H} {w : World} {base : Nat} {spare : Nat → Bool} {held : Bool} {v : Value} {d : DataW H} {ps : List MemPlace} {r : Reach} {b0 : Nat} (hv : Value.okWide Tryd.prog w r b0 28 v) (h : DataW.Trod enc Tryd.prog w base spare held 28 v d ps) :
    ∃ (A : Option Addr) (c : Nat) (l : List E31), v = .slice A l.length c ∧ l.length ≤ 9223372036854775807 ∧ l.length ≤ c ∧ SL w 7 encE A l ∧ ∀ a ∈ l, a.Ok := by
  obtain ⟨A, len, cap, m, rfl, hl, hc, hi⟩ := open_rows Tryd.underlying28 (by rw [cellsEntry]; decide) hv h
  rw [cellsEntry] at hi
  have hi2 : ∀ i, i < len → ∃ a : E31, a.Ok ∧ ∃ b off, A = some ⟨b, off, none⟩ ∧ ∀ p u, (encE a)[p]? = some u → w.cell? ⟨b, off + (i * 7 + p), none⟩ = some u := by
    intro i hlt
    obtain ⟨b, off, cs, x, hA, _, ht, hcell⟩ := hi i hlt
    obtain ⟨a, ha, hcs⟩ := entry_of ht
    exact ⟨a, ha, b, off, hA, fun p u hu => hcell p u (hcs p u hu)⟩
  obtain ⟨f, hf⟩ := choose_lt hi2
  unfold maxLen at hc
  refine ⟨A, cap, (List.range len).map f, by simp, by simp; omega, by simpa using hl, ⟨fun hn => ?_⟩, fun a ha => ?_⟩
  · have h0 : 0 < len := by
      rcases Nat.eq_zero_or_pos len with h | h
      · subst h; simp at hn
      · exact h
    obtain ⟨_, b, off, hA, _⟩ := hf 0 h0
    refine ⟨b, off, hA, fun i e hie p u hu => ?_⟩
    have hil : i < len := by
      have := (List.getElem?_eq_some_iff.1 hie).1
      simpa using this
    have he : f i = e := by
      rw [List.getElem?_map, List.getElem?_range hil] at hie
      simpa using hie
    obtain ⟨_, b', off', hA', hcell⟩ := hf i hil
    rw [hA] at hA'
    injection hA' with hA'
    injection hA' with e1 e2
    subst e1 e2
    rw [← he] at hu
    exact hcell p u hu
  · obtain ⟨i, hi, rfl⟩ := List.mem_map.1 ha
    exact (hf i (List.mem_range.1 hi)).1
theorem few_of {l : List E31} {n : Nat} (ho : ∀ a ∈ l, a.Ok) (h : fewB l n = true) : Few l ∧ l.length ≤ n := by
  unfold fewB at h
  rw [Bool.and_eq_true, decide_eq_true_iff, List.all_eq_true] at h
  refine ⟨fun e he => ?_, h.1⟩
  have := h.2 e he
  unfold smallE at this
  rw [Bool.and_eq_true, decide_eq_true_iff, decide_eq_true_iff] at this
  exact ⟨ho e he, by omega, by omega⟩
end Go.Proofs.YtamiaalfjmppaaaDoor

namespace Go.Proofs.YtamiaalfjmppaaaDoor
open Go.RowKit Go.Blk Go.Opn Go.Apl

/-- The chain of the texts of facts. -/
def sealGo (secret : Int) : List Fac → List E31 → Option (List E31)
  | [], out => some out
  | x :: r, out => if appE out 0 secret x.filed (bdF x) = 0 then sealGo secret r (out ++ [appN out 0 secret x.filed (bdF x)]) else none
theorem sealGo_cons (secret : Int) (x : Fac) (r : List Fac) (out : List E31) : sealGo secret (x :: r) out = if appE out 0 secret x.filed (bdF x) = 0 then sealGo secret r (out ++ [appN out 0 secret x.filed (bdF x)]) else none := rfl
theorem bdF_size {x : Fac} (h : x.Ok) : (bdF x).size ≤ 136 := bdP_size h 6
set_option maxRecDepth 100000 in
theorem exec_fact {o : Oper} {ρ : Operand → Value} {w : World} {a : Operand} {b off : Nat} {x : Fac} (ho : o.op = .load 25 a) (ha : ρ a = .pointer (some ⟨b, off, none⟩)) (hc : ∀ p u, (encF x)[p]? = some u → w.cell? ⟨b, off + p, none⟩ = some u) :
    (execOp ρ o).run Tryd.prog w = .ok (.value (.agg (encF x).toArray)) w := by
  obtain ⟨xr, xa, xl, xh, xf, xs⟩ := x
  have p0 := hc 0 _ rfl
  have p1 := hc 1 _ rfl
  have p2 := hc 2 _ rfl
  have p3 := hc 3 _ rfl
  have p4 := hc 4 _ rfl
  have p5 := hc 5 _ rfl
  simp only [Nat.add_zero] at p0 p1 p2 p3 p4 p5
  clear hc
  unfold execOp
  simp only [ho, ha]
  go_simp <;> rfl
def SealPost (w : World) (r : Option (List E31)) (e : Ending) (w' : World) : Prop := Below w.heap.size w w' ∧
  ((r = none ∧ e = .returned (.tuple #[.slice none 0 0, .bool false])) ∨ ∃ out A c, r = some out ∧ out.length ≤ c ∧ e = .returned (.tuple #[.slice A out.length c, .bool true]) ∧ SL w' 7 encE A out)
def RSE (w : World) (l : List Fac) (secret : Int) (R : Option (List E31)) (o i : Value) (wr : World) : Prop :=
  ∃ (k : Nat) (out : List E31) (A : Option Addr) (c : Nat), k ≤ l.length ∧ out.length = k ∧ k ≤ c ∧ i = .int .i64 k ∧ o = .slice A k c ∧ SL wr 7 encE A out ∧ Few out ∧ R = sealGo secret (l.drop k) out ∧ Below w.heap.size w wr
set_option maxRecDepth 100000 in
set_option maxHeartbeats 4000000 in
theorem seal_any (A : Option Addr) (c : Nat) (l : List Fac) (secret : Int) (w : World) (h : SL w 6 encF A l) (hl : l.length ≤ 1000) (ho : ∀ x ∈ l, x.Ok) (hT : HasT w) :
    Calls Tryd.prog 13 #[.slice A l.length c, .int .i64 secret] w (SealPost w (sealGo secret l [])) := by
  obtain ⟨R, eR⟩ : ∃ R, R = sealGo secret l [] := ⟨_, rfl⟩
  rw [← eR]
  have HST : Hid (RSE w l secret R (.slice none 0 0) (.int .i64 0) w) := ⟨0, [], none, 0, Nat.zero_le _, rfl, Nat.le_refl _, rfl, rfl, SL.nil, few_nil, by rw [eR]; rfl, Below.refl _ _⟩
  have HS := Lib.hid h
  have HO := Lib.hid ho
  have HT := Lib.hid hT
  clear h ho hT eR
  go_enter Tryd.func13, Tryd.ntmps13
  go_wp2_with fail
  go_loopw [6, 7] (fun o i wr => RSE w l secret R o i wr) (fun _ i _ => l.length - (intOf i).toNat)
  case atStart => exact HST.out
  case round =>
    clear HST
    obtain ⟨k, out, A', c', hk, hlen, hkc, rfl, rfl, hsl, hfew, hR, hbr⟩ := hrel
    by_cases hlt : k < l.length
    · obtain ⟨x, hx⟩ : ∃ x, l[k]? = some x := ⟨_, List.getElem?_eq_getElem hlt⟩
      have hxo := HO.out x (List.mem_of_getElem? hx)
      have hdrop : l.drop k = x :: l.drop (k + 1) := by
        obtain ⟨h1, rfl⟩ := List.getElem?_eq_some_iff.1 hx
        exact List.drop_eq_getElem_cons h1
      rw [hdrop] at hR
      obtain ⟨bb, off, rfl, hcl0⟩ := (HS.out.below hbr (Nat.le_refl _)).at_ hx
      have p4 := hcl0 4 _ rfl
      simp only [← Nat.add_assoc] at p4
      have CX : Hid (∀ w', Below w.heap.size w w' → ∀ p u, (encF x)[p]? = some u → w'.cell? ⟨bb, off + k * 6 + p, none⟩ = some u) := fun w' hb p u hu => by
        obtain ⟨_, _, e1, h1⟩ := (HS.out.below hb (Nat.le_refl _)).at_ hx
        cases e1
        rw [Nat.add_assoc]; exact h1 p u hu
      obtain ⟨bd, ebd⟩ : ∃ bd, bd = bdF x := ⟨_, rfl⟩
      have hbs : bd.size ≤ 136 := by rw [ebd]; exact bdF_size hxo
      have CB : Hid (∀ w', Below w.heap.size w w' → Calls Tryd.prog 37 #[.agg (encF x).toArray] w' fun e w2 => e = .returned (.string bd) ∧ Below w'.heap.size w' w2) := fun w' hb => by
        have := body_any x w' hxo (HT.out.below hb (Nat.le_refl _))
        rw [← ebd] at this; exact this
      have HSL := Lib.hid hsl
      have hki : (k : Int) < (l.length : Int) := by omega
      have k00 : (0 : Int) ≤ (k : Int) := by omega
      by_cases hE : appE out 0 secret x.filed bd = 0
      · have hR2 : R = sealGo secret (l.drop (k + 1)) (out ++ [appN out 0 secret x.filed bd]) := by rw [hR, sealGo_cons, ← ebd, if_pos hE]
        have CA : Hid (∀ w', SL w' 7 encE A' out → Below w.heap.size w w' → _) := fun w' hs hb => app_yes A' c' out 0 secret x.filed bd w' hs (by omega) (by omega) hfew (by decide) (by decide) hxo.f0 hxo.f1 (by omega) (HT.out.below hb (Nat.le_refl _)) hE
        have hfew2 := few_app (secret := secret) hfew (by omega) (show (-9223372036854775808 : Int) ≤ 0 by decide) (show (0 : Int) ≤ 9223372036854775807 by decide) hxo.f0 hxo.f1 (show bd.size ≤ 1000000000 by omega)
        obtain ⟨nw, enw⟩ : ∃ nw, nw = appN out 0 secret x.filed bd := ⟨_, rfl⟩
        rw [← enw] at hR2 CA hfew2
        rw [hlen] at CA
        have HR := Lib.hid hR2
        have HF := Lib.hid hfew2
        have HL := Lib.hid hlen
        obtain ⟨xf, exf⟩ : ∃ xf, xf = x.filed := ⟨_, rfl⟩
        rw [← exf] at CA
        have q4 : wr.cell? ⟨bb, off + k * 6 + 4, none⟩ = some (.int .i64 xf) := by rw [exf]; exact p4
        have HBR := Lib.hid hbr
        clear p4
        have p4 := q4
        clear q4 hsl hfew hR hbr hxo hdrop hcl0 hE hfew2 enw hR2 hlen hx ebd exf
        go_wp2_with fail
        refine Free.wp_region_free 18 [(11, .det (.string bd)), (12, .ind (fun b => .tuple #[.slice (some ⟨b, 0, none⟩) (k + 1) (k + 1), .int .i64 0]) (fun b w2 => SL w2 7 encE (some ⟨b, 0, none⟩) (out ++ [nw])))] (fun w2 => Below w.heap.size w w2 ∧ w2.cell? ⟨bb, off + k * 6 + 4, none⟩ = some (.int .i64 xf) ∧ SL w2 7 encE A' out) (by kernel_rfl) (by kernel_rfl) ?_ ⟨HBR.out.drew, p4, HSL.out.drew⟩ (fun _ _ h g => ⟨h.1.trans (Below.mono g h.1.size), grow_cell h.2.1 g, h.2.2.below g (Nat.le_refl _)⟩) ?_
        · intro j mk r hf y w1 w2 hr g
          simp only [Free.find] at hf
          repeat' split at hf
          all_goals (first | (cases hf; exact hr.below g (Nat.le_refl _)) | cases hf)
        simp only [List.take_succ_cons, List.take_zero]
        clear p4
        iterate 10 (apply Free.chain_still (by first | exact Free.wanted_of rfl rfl rfl | rfl) rfl; (intro w' hB hA; obtain ⟨qT, q4, qS⟩ := hB; clear hA  qT qS; go_light; go_simp <;> rfl); (try simp only [Act.put, List.setIfInBounds_toArray, List.set_cons_succ, List.set_cons_zero]))
        apply Free.chain_still (by first | exact Free.wanted_of rfl rfl rfl | rfl) rfl
        · intro w' hB hA
          exact exec_fact (x := x) rfl rfl (CX.out w' hB.1)
        simp only [Act.put, List.setIfInBounds_toArray, List.set_cons_succ, List.set_cons_zero]
        apply Free.chain_det rfl rfl
        · intro w' hB hA
          refine Free.opRun_call (f := 37) (args := #[.agg (encF x).toArray]) (by clear hB hA; go_simp <;> rfl) ?_
          refine (CB.out w' hB.1).mono ?_
          rintro e w3 ⟨rfl, hb3⟩
          exact ⟨_, rfl, hb3, rfl⟩
        simp only [Act.put, List.setIfInBounds_toArray, List.set_cons_succ, List.set_cons_zero]
        apply Free.chain_ind rfl rfl
        · intro w' hB hA
          refine Free.opRun_call (f := 15) (args := #[.slice A' k c', .int .i64 0, .int .i64 secret, .int .i64 xf, .string bd]) (by clear hB hA; go_simp <;> rfl) ?_
          refine (CA.out w' hB.2.2 hB.1).mono ?_
          rintro e w3 ⟨b, _, rfl, sl3, hb3⟩
          exact ⟨_, rfl, hb3, b, rfl, sl3⟩
        intro b
        simp only [Act.put, List.setIfInBounds_toArray, List.set_cons_succ, List.set_cons_zero]
        iterate 5 (apply Free.chain_still (by first | exact Free.wanted_of rfl rfl rfl | rfl) rfl; (intro w' hB hA; obtain ⟨qT, q4, qS⟩ := hB; clear hA  qT qS; go_light; go_simp <;> rfl); (try simp only [Act.put, List.setIfInBounds_toArray, List.set_cons_succ, List.set_cons_zero]))
        apply Free.chain_nil
        intro wy hBz _ hh
        have sl9 : SL wy 7 encE (some ⟨b, 0, none⟩) (out ++ [nw]) := hh _ List.mem_cons_self
        have KEY : Hid (RSE w l secret R (.slice (some ⟨b, 0, none⟩) (k + 1) (k + 1)) (.int .i64 ((k : Int) + 1)) wy) := ⟨k + 1, out ++ [nw], some ⟨b, 0, none⟩, k + 1, hlt, by rw [List.length_append, HL.out]; rfl, Nat.le_refl _, by go_num, rfl, sl9, HF.out, HR.out, hBz.1⟩
        simp only [List.drop_succ_cons, List.drop_zero]
        clear hBz hh sl9 CA CB CX HSL HBR HR HF HL
        go_wp2_with fail
        go_roundw
        case rel =>
          go_light
          have key := KEY.out
          first | exact key | ((repeat apply Exists.intro); exact ⟨key, rfl⟩)
        case measure => simp [intOf]; omega
      · have hR2 : R = none := by rw [hR, sealGo_cons, ← ebd, if_neg hE]
        obtain ⟨E, eE⟩ : ∃ E, E = appE out 0 secret x.filed bd := ⟨_, rfl⟩
        have CA : Hid (∀ w', SL w' 7 encE A' out → Below w.heap.size w w' → Calls Tryd.prog 15 #[.slice A' k c', .int .i64 0, .int .i64 secret, .int .i64 x.filed, .string bd] w' fun e w2 => e = .returned (.tuple #[.slice none 0 0, .int .i64 E]) ∧ Below w'.heap.size w' w2) := fun w' hs hb => by
          have := app_no A' c' out 0 secret x.filed bd E w' hs (by omega) (by omega) hfew (by decide) (by decide) hxo.f0 hxo.f1 (by omega) (HT.out.below hb (Nat.le_refl _)) eE.symm (by rw [eE]; exact hE)
          rw [hlen] at this; exact this
        have hcb : (E != 0) = true := by rw [eE]; simpa using hE
        have HR := Lib.hid hR2
        obtain ⟨xf, exf⟩ : ∃ xf, xf = x.filed := ⟨_, rfl⟩
        rw [← exf] at CA
        have q4 : wr.cell? ⟨bb, off + k * 6 + 4, none⟩ = some (.int .i64 xf) := by rw [exf]; exact p4
        have HBR := Lib.hid hbr
        clear p4
        have p4 := q4
        clear q4 hsl hfew hR hbr hxo hdrop hcl0 hE hR2 hlen hx ebd exf eE
        go_wp2_with fail
        refine Free.wp_region_free 18 [(11, .det (.string bd)), (12, .det (.tuple #[.slice none 0 0, .int .i64 E]))] (fun w2 => Below w.heap.size w w2 ∧ w2.cell? ⟨bb, off + k * 6 + 4, none⟩ = some (.int .i64 xf) ∧ SL w2 7 encE A' out) (by kernel_rfl) (by kernel_rfl) ?_ ⟨HBR.out.drew, p4, HSL.out.drew⟩ (fun _ _ h g => ⟨h.1.trans (Below.mono g h.1.size), grow_cell h.2.1 g, h.2.2.below g (Nat.le_refl _)⟩) ?_
        · intro j mk r hf
          simp only [Free.find] at hf
          repeat' split at hf
          all_goals (first | cases hf | skip)
        simp only [List.take_succ_cons, List.take_zero]
        clear p4
        iterate 10 (apply Free.chain_still (by first | exact Free.wanted_of rfl rfl rfl | rfl) rfl; (intro w' hB hA; obtain ⟨qT, q4, qS⟩ := hB; clear hA  qT qS; go_light; go_simp <;> rfl); (try simp only [Act.put, List.setIfInBounds_toArray, List.set_cons_succ, List.set_cons_zero]))
        apply Free.chain_still (by first | exact Free.wanted_of rfl rfl rfl | rfl) rfl
        · intro w' hB hA
          exact exec_fact (x := x) rfl rfl (CX.out w' hB.1)
        simp only [Act.put, List.setIfInBounds_toArray, List.set_cons_succ, List.set_cons_zero]
        apply Free.chain_det rfl rfl
        · intro w' hB hA
          refine Free.opRun_call (f := 37) (args := #[.agg (encF x).toArray]) (by clear hB hA; go_simp <;> rfl) ?_
          refine (CB.out w' hB.1).mono ?_
          rintro e w3 ⟨rfl, hb3⟩
          exact ⟨_, rfl, hb3, rfl⟩
        simp only [Act.put, List.setIfInBounds_toArray, List.set_cons_succ, List.set_cons_zero]
        apply Free.chain_det rfl rfl
        · intro w' hB hA
          refine Free.opRun_call (f := 15) (args := #[.slice A' k c', .int .i64 0, .int .i64 secret, .int .i64 xf, .string bd]) (by clear hB hA; go_simp <;> rfl) ?_
          refine (CA.out w' hB.2.2 hB.1).mono ?_
          rintro e w3 ⟨rfl, hb3⟩
          exact ⟨_, rfl, hb3, rfl⟩
        simp only [Act.put, List.setIfInBounds_toArray, List.set_cons_succ, List.set_cons_zero]
        iterate 5 (apply Free.chain_still (by first | exact Free.wanted_of rfl rfl rfl | rfl) rfl; (intro w' hB hA; obtain ⟨qT, q4, qS⟩ := hB; clear hA  qT qS; go_light; go_simp <;> rfl); (try simp only [Act.put, List.setIfInBounds_toArray, List.set_cons_succ, List.set_cons_zero]))
        apply Free.chain_nil
        intro wy hBz _ _
        have HBY := Lib.hid hBz.1
        simp only [List.drop_succ_cons, List.drop_zero]
        clear hBz CA CB CX HSL HBR
        go_wp2_with fail
        go_ret2
        exact ⟨HBY.out, .inl ⟨HR.out, rfl⟩⟩
    · obtain rfl : k = l.length := by omega
      have hki : ¬ ((l.length : Int) < (l.length : Int)) := by omega
      rw [List.drop_length] at hR
      have FIN : Hid (SealPost w R (.returned (.tuple #[.slice A' l.length c', .bool true])) wr) := ⟨hbr, .inr ⟨out, A', c', hR, by omega, by rw [hlen], hsl⟩⟩
      clear hbr hsl hR hfew hlen
      go_wp2_with fail
      go_ret2
      exact FIN.out
end Go.Proofs.YtamiaalfjmppaaaDoor

namespace Go.Proofs.YtamiaalfjmppaaaDoor
open Go.RowKit Go.Blk Go.Opn Go.Apl Go.Sg

def k1 : Fac := ⟨1, 0, 0, 2, 3, false⟩
def k2 : Fac := ⟨2, 0, 0, 2, 3, false⟩
def k3 : Fac := ⟨1, 0, 0, 2, 4, false⟩
theorem kok (r f : Int) (h : -9223372036854775808 ≤ r ∧ r ≤ 9223372036854775807 ∧ -9223372036854775808 ≤ f ∧ f ≤ 9223372036854775807) : (Fac.mk r 0 0 2 f false).Ok :=
  ⟨h.1, h.2.1, (show (-9223372036854775808 : Int) ≤ 0 by decide), (show (0 : Int) ≤ 9223372036854775807 by decide), (show (-9223372036854775808 : Int) ≤ 0 by decide), (show (0 : Int) ≤ 9223372036854775807 by decide), (show (-9223372036854775808 : Int) ≤ 2 by decide), (show (2 : Int) ≤ 9223372036854775807 by decide), h.2.2.1, h.2.2.2⟩
theorem fact_any (r f : Int) (w : World) : Calls Tryd.prog 36 #[.int .i64 r, .int .i64 f] w fun e w' => e = .returned (.agg #[.int .i64 r, .int .i64 0, .int .i64 0, .int .i64 2, .int .i64 f, .bool false]) ∧ Below w.heap.size w w' := by
  go_enter Tryd.func36, Tryd.ntmps36
  go_wp2_with fail
  refine bodyPost_ret (v := .agg #[.int .i64 r, .int .i64 0, .int .i64 0, .int .i64 2, .int .i64 f, .bool false]) (by simp [results, Tryd.results36, go_sem]) rfl ⟨rfl, ?_⟩
  exact (Below.refl _ _).alloc (Nat.le_refl _) _
def kt1 : ByteArray := ⟨#[101, 110, 116, 114, 121, 32, 48, 32, 48, 32, 51, 32, 48, 32, 102, 97, 99, 116, 32, 49, 32, 48, 32, 48, 32, 50, 32, 51, 32, 48]⟩
def kt3 : ByteArray := ⟨#[101, 110, 116, 114, 121, 32, 48, 32, 48, 32, 51, 32, 48, 32, 102, 97, 99, 116, 32, 49, 32, 48, 32, 48, 32, 50, 32, 52, 32, 48]⟩
theorem dec1 : dec 1 = ⟨#[49]⟩ := (dec_small 1 (by decide)).trans rfl
theorem dec2 : dec 2 = ⟨#[50]⟩ := (dec_small 2 (by decide)).trans rfl
theorem dec4 : dec 4 = ⟨#[52]⟩ := (dec_small 4 (by decide)).trans rfl
theorem bd_form (r f : Int) : bdF ⟨r, 0, 0, 2, f, false⟩ = ⟨#[102, 97, 99, 116]⟩ ++ (⟨#[32]⟩ ++ dec r) ++ (⟨#[32]⟩ ++ dec 0) ++ (⟨#[32]⟩ ++ dec 0) ++ (⟨#[32]⟩ ++ dec 2) ++ (⟨#[32]⟩ ++ dec f) ++ (⟨#[32]⟩ ++ dec 0) := rfl
theorem bd1 : bdF k1 = ⟨#[102, 97, 99, 116, 32, 49, 32, 48, 32, 48, 32, 50, 32, 51, 32, 48]⟩ := by
  unfold k1; rw [bd_form, dec0, dec1, dec2, dec3]; decide +kernel
theorem bd3 : bdF k3 = ⟨#[102, 97, 99, 116, 32, 49, 32, 48, 32, 48, 32, 50, 32, 52, 32, 48]⟩ := by
  unfold k3; rw [bd_form, dec0, dec1, dec2, dec4]; decide +kernel
theorem kt_is (b : ByteArray) (r s : Int) : txE ⟨0, 0, 3, ⟨#[]⟩, b, r, s⟩ = ⟨([101, 110, 116, 114, 121] ++ [32] ++ (dec 0).data.toList ++ [32] ++ (dec 0).data.toList ++ [32] ++ (dec 3).data.toList ++ [32] ++ (dec 0).data.toList ++ [32] ++ [] ++ b.data.toList : List UInt8).toArray⟩ := rfl
theorem kt1_is (r s : Int) : txE ⟨0, 0, 3, ⟨#[]⟩, bdF k1, r, s⟩ = kt1 := by
  rw [kt_is, dec0, dec3, bd1]; rfl
theorem kt3_is (r s : Int) : txE ⟨0, 0, 3, ⟨#[]⟩, bdF k3, r, s⟩ = kt3 := by
  rw [kt_is, dec0, dec3, bd3]; rfl
theorem decK : dec 913364817 = ⟨#[57, 49, 51, 51, 54, 52, 56, 49, 55]⟩ := by
  have h1 := dec_big 913364817 (by decide)
  have h2 := dec_big 91336481 (by decide)
  have h3 := dec_big 9133648 (by decide)
  have h4 := dec_big 913364 (by decide)
  have h5 := dec_big 91336 (by decide)
  have h6 := dec_big 9133 (by decide)
  have h7 := dec_big 913 (by decide)
  have h8 := dec_big 91 (by decide)
  have h9 := dec_small 9 (by decide)
  simp only [Nat.reduceDiv, Nat.reduceMod] at h1 h2 h3 h4 h5 h6 h7 h8
  refine h1.trans ?_
  rw [h2, h3, h4, h5, h6, h7, h8, h9]; decide +kernel
theorem k5k : sgK 5 kt1 = 640032778 := by
  unfold sgK sgT
  rw [dec5]; kernel_rfl
theorem r5k : sgR 5 kt1 = 913364817 := by
  unfold sgR
  rw [k5k]; exact (pw7_small 640032778 (by decide)).trans (by decide +kernel)
theorem c5k : chal 913364817 16807 kt1 = 817559878 := by
  unfold chal chT
  rw [decK, decY]; kernel_rfl
theorem c5l : chal 913364817 16807 kt3 = 914406395 := by
  unfold chal chT
  rw [decK, decY]; kernel_rfl
theorem s5k : sgS 5 kt1 = 432864876 := by
  unfold sgS
  rw [pubV5, r5k, k5k, c5k]; rfl
theorem ver_k : verB 16807 kt3 (sgR 5 kt1) (sgS 5 kt1) = false := by
  rw [r5k, s5k]
  unfold verB
  rw [c5l]
  have e1 : power 7 432864876 = 912548365 := (pw7_small 432864876 (by decide)).trans (by decide +kernel)
  have e2 : power 16807 914406395 = 395913768 := (pwY 914406395 (by decide)).trans (by decide +kernel)
  rw [e1, e2]; decide
def ka : E31 := appN [] 0 5 3 (bdF k1)
def kb : E31 := appN [ka] 0 5 3 (bdF k2)
def kd : E31 := ⟨0, 0, 3, ⟨#[]⟩, bdF k3, ka.r, ka.s⟩
theorem misp_k (l : List E31) (d : Int) (b : ByteArray) (hl : l.length < 4000) (hb : b.size ≤ 2000) (hd : 0 ≤ d ∧ d ≤ 2000) (hp : ordB l ⟨0, l.length, d, ⟨#[]⟩, b, 0, 0⟩ = true) : misp l (nx0 l 0 d b) 0 = 0 := by
  unfold misp nx0
  rw [if_pos, if_pos, if_pos hp]
  · unfold argB
    simp [hd.1, hd.2]
  · unfold limB
    simp; omega
theorem kE1 : appE [] 0 5 3 (bdF k1) = 0 := by
  unfold appE
  rw [if_pos sec5, if_pos (show (chk [] 0 (pubV 5)).1 = 0 by rw [pubV5]; decide)]
  exact misp_k [] 3 _ (by decide) (by rw [bd1]; decide) (by decide) rfl
theorem kC1 : (chk [ka] 0 (pubV 5)).1 = 0 := by
  have h := app_chk kE1
  rw [List.nil_append] at h
  unfold ka; exact h
theorem kE2 : appE [ka] 0 5 3 (bdF k2) = 0 := by
  unfold appE
  rw [if_pos sec5, if_pos kC1]
  have := bdF_size (kok 2 3 (by decide))
  exact misp_k [ka] 3 _ (by simp) (by unfold k2; omega) (by decide) (show decide ((3 : Int) ≤ 3) = true from rfl)
theorem kseal : sealGo 5 [k1, k2] [] = some [ka, kb] := by
  rw [sealGo_cons, show k1.filed = 3 from rfl, if_pos kE1, sealGo_cons, show k2.filed = 3 from rfl, if_pos (show appE ([] ++ [appN [] 0 5 3 (bdF k1)]) 0 5 3 (bdF k2) = 0 from kE2)]; rfl
theorem kCm : chk [ka, kb] 0 16807 = (0, -1) := by
  have := chk_ok (app_chk kE2)
  rw [pubV5] at this; exact this
theorem ka_r : ka.r = sgR 5 kt1 := by
  show sgR 5 (txE (nxE [] 0 3 (bdF k1))) = _
  rw [show txE (nxE [] 0 3 (bdF k1)) = txE ⟨0, 0, 3, ⟨#[]⟩, bdF k1, 0, 0⟩ from rfl, kt1_is]
theorem ka_s : ka.s = sgS 5 kt1 := by
  show sgS 5 (txE (nxE [] 0 3 (bdF k1))) = _
  rw [show txE (nxE [] 0 3 (bdF k1)) = txE ⟨0, 0, 3, ⟨#[]⟩, bdF k1, 0, 0⟩ from rfl, kt1_is]
theorem kCx_gen (r s : Int) (yb : E31) (hv : verB 16807 kt3 r s = false) : chk [⟨0, 0, 3, ⟨#[]⟩, bdF k3, r, s⟩, yb] 0 16807 = (17, 0) := by
  obtain ⟨x, ex⟩ : ∃ x : E31, x = ⟨0, 0, 3, ⟨#[]⟩, bdF k3, r, s⟩ := ⟨_, rfl⟩
  rw [← ex]
  have h1 : chk1 [x, yb] 0 x 0 16807 = 17 := by
    unfold chk1
    have e1 : verB 16807 (txE x) x.r x.s = false := by
      rw [ex, kt3_is]; exact hv
    have e2 : misp (List.take 0 [x, yb]) x 0 = 0 := by
      rw [ex]
      exact misp_k [] 3 (bdF k3) (by decide) (by rw [bd3]; decide) (by decide) rfl
    rw [e1, e2, if_pos rfl]
    split <;> rfl
  have := chkGo_bad (l := [x, yb]) (house := 0) (pub := 16807) (n := 1) (k := 0) (e := x) rfl (by rw [h1]; decide)
  rw [h1] at this
  unfold chk
  rw [if_pos (by decide), show [x, yb].length = 1 + 1 from rfl, this]; rfl
theorem kCx : chk [kd, kb] 0 16807 = (17, 0) := kCx_gen ka.r ka.s kb (by rw [ka_r, ka_s]; exact ver_k)
theorem few_ka : Few [ka] := few_app (l := []) few_nil (by decide) (by decide) (by decide) (by decide) (by decide) (by rw [bd1]; decide)
theorem few_kb : Few [ka, kb] := few_app (l := [ka]) few_ka (by decide) (by decide) (by decide) (by decide) (by decide) (by have := bdF_size (kok 2 3 (by decide)); unfold k2; omega)
theorem few_kd : Few [kd, kb] := by
  intro e he
  simp only [List.mem_cons, List.not_mem_nil, or_false] at he
  rcases he with rfl | rfl
  · obtain ⟨o, h1, h2⟩ := few_kb ka (by simp)
    refine ⟨⟨by decide, by decide, by decide, by decide, by decide, by decide, o.r0, o.r1, o.s0, o.s1, by decide, by show (bdF k3).size ≤ _; rw [bd3]; decide⟩, by decide, by show (bdF k3).size ≤ _; rw [bd3]; decide⟩
  · exact few_kb _ (by simp)
end Go.Proofs.YtamiaalfjmppaaaDoor

namespace Go.Proofs.YtamiaalfjmppaaaDoor

theorem chkGo_first {l : List E31} {house pub : Int} {k : Nat} {e : E31} (hk : l[k]? = some e) (h0 : chk1 l k e house pub ≠ 0) (hb : ∀ i x, i < k → l[i]? = some x → chk1 l i x house pub = 0) : ∀ (n i : Nat), i ≤ k → k < i + n → chkGo l house pub n i = (chk1 l k e house pub, (k : Int))
  | 0, i, h1, h2 => by omega
  | n + 1, i, h1, h2 => by
    by_cases hik : i = k
    · subst hik; exact chkGo_bad hk h0
    · obtain ⟨x, hx⟩ : ∃ x, l[i]? = some x := ⟨_, List.getElem?_eq_getElem (by have := (List.getElem?_eq_some_iff.1 hk).1; omega)⟩
      rw [chkGo_ok hx (hb i x (by omega) hx)]
      exact chkGo_first hk h0 hb n (i + 1) (by omega) (by omega)
theorem chk_first {l : List E31} {house pub : Int} {k : Nat} {e : E31} (hks : keysOk house pub) (hk : l[k]? = some e) (h0 : chk1 l k e house pub ≠ 0) (hb : ∀ i x, i < k → l[i]? = some x → chk1 l i x house pub = 0) : chk l house pub = (chk1 l k e house pub, (k : Int)) := by
  unfold chk
  rw [if_pos hks]
  exact chkGo_first hk h0 hb _ 0 (Nat.zero_le _) (by have := (List.getElem?_eq_some_iff.1 hk).1; omega)
/-- The first number with a property. -/
theorem least (p : Nat → Prop) : ∀ n, p n → ∃ k, k ≤ n ∧ p k ∧ ∀ i, i < k → ¬ p i
  | 0, h => ⟨0, Nat.le_refl _, h, fun i hi => by omega⟩
  | n + 1, h => by
    by_cases hs : ∃ i, i ≤ n ∧ p i
    · obtain ⟨i, hi, hp⟩ := hs
      obtain ⟨k, h1, h2, h3⟩ := least p i hp
      exact ⟨k, by omega, h2, h3⟩
    · exact ⟨n + 1, Nat.le_refl _, h, fun i hi hp => hs ⟨i, by omega, hp⟩⟩
/-- What Check says of a list that is no chain. -/
theorem chk_bad {l : List E31} {house pub : Int} (h : (chk l house pub).1 ≠ 0) : chk l house pub = (1, -1) ∨
    ∃ k : Nat, k < l.length ∧ (chk l house pub).2 = (k : Int) ∧ (chk (l.take k) house pub).1 = 0 ∧ chk (l.take (k + 1)) house pub = chk l house pub := by
  by_cases hks : keysOk house pub
  · have hex : ∃ n, ∃ e, l[n]? = some e ∧ chk1 l n e house pub ≠ 0 := by
      apply Classical.byContradiction
      intro hn
      exact h ((chk_ok_iff _ _ _).2 ⟨hks, fun i e he => Classical.byContradiction fun h0 => hn ⟨i, e, he, h0⟩⟩)
    obtain ⟨n, hn⟩ := hex
    obtain ⟨k, _, ⟨e, hk, h0⟩, hl⟩ := least (fun n => ∃ e, l[n]? = some e ∧ chk1 l n e house pub ≠ 0) n hn
    have hb : ∀ i x, i < k → l[i]? = some x → chk1 l i x house pub = 0 := fun i x hi hx => Classical.byContradiction fun h1 => hl i hi ⟨x, hx, h1⟩
    have hlt := (List.getElem?_eq_some_iff.1 hk).1
    have e1 := chk_first hks hk h0 hb
    refine .inr ⟨k, hlt, by rw [e1], ?_, ?_⟩
    · refine (chk_ok_iff _ _ _).2 ⟨hks, fun i x hx => ?_⟩
      rw [List.getElem?_take] at hx
      split at hx
      · rename_i hi; rw [chk1_take (by omega)]; exact hb i x hi hx
      · cases hx
    · rw [e1]
      have hk2 : (l.take (k + 1))[k]? = some e := by rw [List.getElem?_take, if_pos (by omega)]; exact hk
      have e2 := chk_first (l := l.take (k + 1)) (pub := pub) hks hk2 (by rw [chk1_take (by omega)]; exact h0) (fun i x hi hx => by
        rw [List.getElem?_take, if_pos (by omega)] at hx
        rw [chk1_take (by omega)]; exact hb i x hi hx)
      rw [e2, chk1_take (by omega)]
  · left
    unfold chk; rw [if_neg hks]
theorem misp_zero {l : List E31} {e : E31} {house : Int} (h : misp l e house = 0) : limB l.length e = true ∧ argB l.length e house = true ∧ ordB l e = true := by
  unfold misp at h
  cases h1 : limB l.length e with
  | false => rw [h1] at h; simp at h
  | true =>
    cases h2 : argB l.length e house with
    | false => rw [h1, h2] at h; simp at h
    | true =>
      cases h3 : ordB l e with
      | false => rw [h1, h2, h3] at h; simp at h
      | true => exact ⟨rfl, rfl, rfl⟩
theorem chk1_zero {l : List E31} {k : Nat} {e : E31} {house pub : Int} (h : chk1 l k e house pub = 0) : misp (l.take k) e house = 0 ∧ e.prev = prevE (l.take k) ∧ sgnB e pub = true := by
  unfold chk1 at h
  by_cases hm : misp (l.take k) e house = 0
  · rw [if_pos hm] at h
    by_cases hp : (e.prev.toList == (prevE (l.take k)).toList) = true
    · rw [if_pos hp] at h
      by_cases hv : verB pub (txE e) e.r e.s = true
      · exact ⟨hm, tl_inj (by simpa using hp), hv⟩
      · rw [if_neg hv] at h; cases h
    · rw [if_neg hp] at h; cases h
  · rw [if_neg hm] at h; exact absurd h hm
/-- Days do not decrease; houses and numbers are right. -/
theorem chk_days {l : List E31} {house pub : Int} (h : (chk l house pub).1 = 0) (j : Nat) (x y : E31) (hx : l[j]? = some x) (hy : l[j + 1]? = some y) : x.day ≤ y.day := by
  obtain ⟨_, ha⟩ := (chk_ok_iff l house pub).1 h
  obtain ⟨hm, _⟩ := chk1_zero (ha (j + 1) y hy)
  obtain ⟨_, _, ho⟩ := misp_zero hm
  unfold ordB at ho
  have hlt := (List.getElem?_eq_some_iff.1 hy).1
  have e1 : (l.take (j + 1)).getLast? = some x := by
    rw [List.getLast?_eq_getElem?, List.length_take, Nat.min_eq_left (by omega), List.getElem?_take, if_pos (by omega)]; exact hx
  rw [e1] at ho
  simpa using ho
theorem chk_head {l : List E31} {house pub : Int} (h : (chk l house pub).1 = 0) (j : Nat) (x : E31) (hx : l[j]? = some x) : x.house = house ∧ x.seq = (j : Int) ∧ sgnB x pub = true ∧ x.prev = prevE (l.take j) := by
  obtain ⟨_, ha⟩ := (chk_ok_iff l house pub).1 h
  obtain ⟨hm, hp, hs⟩ := chk1_zero (ha j x hx)
  obtain ⟨_, hr, _⟩ := misp_zero hm
  unfold argB at hr
  have hlt := (List.getElem?_eq_some_iff.1 hx).1
  rw [List.length_take, Nat.min_eq_left (by omega)] at hr
  simp only [Bool.and_eq_true, beq_iff_eq] at hr
  exact ⟨hr.1, hr.2.1, hs, hp⟩
end Go.Proofs.YtamiaalfjmppaaaDoor

namespace Go.Proofs.YtamiaalfjmppaaaDoor

theorem seal_spec (secret : Int) : ∀ (l : List Fac) (acc out : List E31), sealGo secret l acc = some out →
    ∃ tl, out = acc ++ tl ∧ tl.length = l.length ∧ (l ≠ [] → isSec secret ∧ (chk out 0 (pubV secret)).1 = 0) ∧ ∀ i x, l[i]? = some x → out[acc.length + i]? = some (appN (out.take (acc.length + i)) 0 secret x.filed (bdF x))
  | [], acc, out, h => by
    cases h
    exact ⟨[], by simp, rfl, fun h => absurd rfl h, fun i x hx => by simp at hx⟩
  | x :: r, acc, out, h => by
    rw [sealGo_cons] at h
    split at h
    · rename_i hE
      obtain ⟨tl, e1, e2, e3, e4⟩ := seal_spec secret r _ out h
      have hs := appE_ok hE
      refine ⟨appN acc 0 secret x.filed (bdF x) :: tl, by rw [e1]; simp, by simp [e2], fun _ => ⟨hs.1, ?_⟩, ?_⟩
      · cases r with
        | nil =>
          have : tl = [] := List.length_eq_zero_iff.1 (by simpa using e2)
          rw [e1, this, List.append_nil]
          exact app_chk hE
        | cons y r => exact (e3 (by simp)).2
      · intro i y hy
        cases i with
        | zero =>
          simp at hy
          subst hy
          rw [Nat.add_zero, e1]
          simp
        | succ i =>
          have := e4 i y (by simpa using hy)
          simp only [List.length_append, List.length_cons, List.length_nil] at this
          rw [show acc.length + (i + 1) = acc.length + (0 + 1) + i by omega]; exact this
    · cases h
theorem seal_few (secret : Int) : ∀ (l : List Fac) (acc out : List E31), sealGo secret l acc = some out → Few acc → (∀ x ∈ l, x.Ok) → acc.length + l.length ≤ 1000000 → Few out
  | [], acc, out, h, hf, _, _ => by cases h; exact hf
  | x :: r, acc, out, h, hf, ho, hl => by
    rw [sealGo_cons] at h
    split at h
    · have hx := ho x (by simp)
      have hs := bdF_size hx
      simp only [List.length_cons] at hl
      exact seal_few secret r _ out h (few_app hf (by omega) (by decide) (by decide) hx.f0 hx.f1 (by omega)) (fun y hy => ho y (by simp [hy])) (by simp; omega)
    · cases h
end Go.Proofs.YtamiaalfjmppaaaDoor

namespace Go.Proofs.YtamiaalfjmppaaaDoor

/-- The greatest day. -/
def maxF (l : List Fac) : Int := l.foldl (fun m x => max m x.filed) 0
theorem maxF_snoc (l : List Fac) (x : Fac) : maxF (l ++ [x]) = max (maxF l) x.filed := by unfold maxF; rw [List.foldl_append]; rfl
theorem foldl_max : ∀ (l : List Fac) (m : Int), m ≤ l.foldl (fun m x => max m x.filed) m ∧ (∀ x ∈ l, x.filed ≤ l.foldl (fun m x => max m x.filed) m) ∧ (m ≤ 2000 → (∀ x ∈ l, x.filed ≤ 2000) → l.foldl (fun m x => max m x.filed) m ≤ 2000)
  | [], m => ⟨Int.le_refl _, (fun x h => by cases h), fun h _ => h⟩
  | a :: l, m => by
    obtain ⟨h1, h2, h3⟩ := foldl_max l (max m a.filed)
    rw [List.foldl_cons]
    refine ⟨by omega, fun x hx => ?_, fun hm h => h3 ?_ (fun x hx => h x (by simp [hx]))⟩
    · rcases List.mem_cons.1 hx with rfl | hx
      · omega
      · exact h2 x hx
    · have := h a (by simp); omega
theorem maxF_spec (l : List Fac) : 0 ≤ maxF l ∧ (∀ x ∈ l, x.filed ≤ maxF l) ∧ ((∀ x ∈ l, x.filed ≤ 2000) → maxF l ≤ 2000) := by
  obtain ⟨h1, h2, h3⟩ := foldl_max l 0
  exact ⟨h1, h2, h3 (by decide)⟩
theorem shown_app {l : List Fac} {out : List E31} {secret : Int} {body : ByteArray} (hs : sealGo secret l [] = some out) (hne : l ≠ []) (hl : l.length ≤ 1000) (hb : body.size ≤ 2000) :
    out.length = l.length ∧ isSec secret ∧ appE out 0 secret (maxF l) body = 0 := by
  obtain ⟨tl, e1, e2, e3, e4⟩ := seal_spec secret l [] out hs
  obtain ⟨hsec, hchk⟩ := e3 hne
  have hlen : out.length = l.length := by rw [e1]; simpa using e2
  obtain ⟨hk, hall⟩ := (chk_ok_iff out 0 (pubV secret)).1 hchk
  obtain ⟨m0, m1, m2⟩ := maxF_spec l
  have hday : ∀ x ∈ l, 0 ≤ x.filed ∧ x.filed ≤ 2000 := fun x hx => by
    obtain ⟨i, hi⟩ := List.mem_iff_getElem?.1 hx
    have h4 := e4 i x hi
    simp only [List.length_nil, Nat.zero_add] at h4
    have h5 := (misp_zero (chk1_zero (hall i _ h4)).1).2.1
    unfold argB appN at h5
    simp at h5
    omega
  refine ⟨hlen, hsec, ?_⟩
  unfold appE
  rw [if_pos hsec, if_pos hchk]
  refine misp_k out (maxF l) body (by omega) hb ⟨m0, m2 (fun x hx => (hday x hx).2)⟩ ?_
  unfold ordB
  cases hg : out.getLast? with
  | none => rfl
  | some x =>
    simp only
    apply decide_eq_true
    have hlt : 0 < l.length := List.length_pos_iff.2 hne
    obtain ⟨y, hy⟩ : ∃ y, l[l.length - 1]? = some y := ⟨_, List.getElem?_eq_getElem (by omega)⟩
    have h4 := e4 (l.length - 1) y hy
    simp only [List.length_nil, Nat.zero_add] at h4
    rw [List.getLast?_eq_getElem?, hlen, h4] at hg
    cases hg
    exact m1 y (List.mem_of_getElem? hy)
end Go.Proofs.YtamiaalfjmppaaaDoor

namespace Go.Proofs.YtamiaalfjmppaaaDoor
open Go.RowKit Go.Blk Go.Opn Go.Apl Go.Sg

theorem encF_len (x : Fac) : (encF x).length = 6 := rfl
set_option maxRecDepth 100000 in
set_option maxHeartbeats 4000000 in
theorem kept_any (w : World) (hT : HasT w) : Calls Tryd.prog 11 #[] w fun e w' => e = .returned (.bool true) ∧ Below w.heap.size w w' := by
  have C1 : Hid (∀ w b, HasT w → SL w 6 encF (some ⟨b, 0, none⟩) [k1, k2] → Calls Tryd.prog 13 #[.slice (some ⟨b, 0, none⟩) 2 2, .int .i64 5] w fun e w' => Below w.heap.size w w' ∧ ∃ A c, 2 ≤ c ∧ e = .returned (.tuple #[.slice A 2 c, .bool true]) ∧ SL w' 7 encE A [ka, kb]) := fun w b hT h => by
    refine (seal_any (some ⟨b, 0, none⟩) 2 [k1, k2] 5 w h (by decide) (fun x hx => by
      simp only [List.mem_cons, List.not_mem_nil, or_false] at hx
      rcases hx with rfl | rfl
      · exact kok 1 3 (by decide)
      · exact kok 2 3 (by decide)) hT).mono ?_
    rw [kseal]
    rintro e w' ⟨hb, ⟨h1, _⟩ | ⟨out, A, c, h1, h2, rfl, h4⟩⟩
    · cases h1
    · cases h1
      exact ⟨hb, A, c, h2, rfl, h4⟩
  have C5 : Hid (∀ w A c, 2 ≤ c → HasT w → SL w 7 encE A [ka, kb] → Calls Tryd.prog 17 #[.slice A 2 c, .int .i64 0, .int .i64 16807] w (ChkPost w (0, -1))) := fun w A c hc hT h => by
    have := check_any A c [ka, kb] 0 16807 w h (by simp) (by simpa using hc) few_kb hT
    rw [kCm] at this; exact this
  have C6 : Hid (∀ w A c, 2 ≤ c → HasT w → SL w 7 encE A [kd, kb] → Calls Tryd.prog 17 #[.slice A 2 c, .int .i64 0, .int .i64 16807] w (ChkPost w (17, 0))) := fun w A c hc hT h => by
    have := check_any A c [kd, kb] 0 16807 w h (by simp) (by simpa using hc) few_kd hT
    rw [kCx] at this; exact this
  obtain ⟨B3, eB3⟩ : ∃ B3, B3 = bdF k3 := ⟨_, rfl⟩
  have C7 : Hid (∀ w, HasT w → Calls Tryd.prog 37 #[.agg #[.int .i64 1, .int .i64 0, .int .i64 0, .int .i64 2, .int .i64 4, .bool false]] w fun e w' => e = .returned (.string B3) ∧ Below w.heap.size w w') := fun w hT => by
    have := body_any k3 w (kok 1 4 (by decide)) hT
    rw [← eB3] at this; exact this
  have HT := Lib.hid hT
  have EB3 := Lib.hid eB3
  clear hT eB3
  go_enter Tryd.func11, Tryd.ntmps11
  go_wp2_with fail
  refine (fact_any _ _ _).mono ?_
  rintro e w1 ⟨rfl, bl1⟩
  have L1 := Lib.hid bl1
  clear bl1
  go_wp2_with fail
  refine (fact_any _ _ _).mono ?_
  rintro e w2 ⟨rfl, bl2⟩
  have L2 := Lib.hid (L1.out.trans (bl2.mono L1.out.size))
  have T2 := Lib.hid (HT.out.below L2.out (Nat.le_refl _))
  clear bl2 L1 HT
  go_wp2_with fail
  have S0 : SL (w2.alloc (.cells #[.int .i64 1, .int .i64 0, .int .i64 0, .int .i64 2, .int .i64 3, .bool false, .int .i64 2, .int .i64 0, .int .i64 0, .int .i64 2, .int .i64 3, .bool false] 25)) 6 encF (some ⟨w2.heap.size, 0, none⟩) [k1, k2] :=
    sl_of_cells encF_len (Rf.new_at rfl) (fun j u hu => by simpa [encF, k1, k2] using hu)
  refine (C1.out _ _ (T2.out.alloc _) S0).mono ?_
  rintro e w3 ⟨bl3, A3, c3, hc3, rfl, sl3⟩
  have S3 := Lib.hid sl3
  have L3 : Hid (Below w.heap.size w w3) := by
    have h1 : Below w.heap.size w (w2.alloc (.cells #[.int .i64 1, .int .i64 0, .int .i64 0, .int .i64 2, .int .i64 3, .bool false, .int .i64 2, .int .i64 0, .int .i64 0, .int .i64 2, .int .i64 3, .bool false] 25)) := L2.out.alloc L2.out.size _
    exact h1.trans (bl3.mono h1.size)
  have T3 := Lib.hid ((T2.out.alloc _).below bl3 (Nat.le_refl _))
  clear bl3 sl3 S0 T2 L2 C1
  obtain ⟨i0, hi, hz0, hz1, hz2⟩ := info_parts infoE
  go_wp2_with (at_builtin; refine wpList_append_list rfl (.tmp 22) (.tmp 23) 28 rfl w3.heap.size 42 i0 _ 72 Tryd.underlying28 hi hz0 hz1 hz2 rfl (by decide) encE_len encE_one _ 0 [] rfl (World.ownsRow_made w3 #[] 0 (Nat.le_refl _) (by decide) rfl) A3 c3 [ka, kb] rfl (S3.out.alloc _) (by decide) (by decide) (by simp) ?_)
  intro v' w6 hown hgr _
  obtain ⟨g, cap, cur, rfl, hg1, hg2, hg3, hg4, hg5, hsl⟩ := own_at (l := [ka, kb]) encE_len (by simpa using hown) (by simp)
  have bl6 : Below w3.heap.size w3 w6 := ⟨hgr.os, hgr.tape, hgr.output, by have := hgr.size; simp at this; omega, fun k hk => (hgr.block k (by simp; omega) (by simp [Value.ownBlock]; omega)).trans (Below.heap_alloc w3 _ k hk)⟩
  have T6 := Lib.hid (T3.out.below bl6 (Nat.le_refl _))
  have HG1 := Lib.hid hg1
  have HG2 := Lib.hid hg2
  have HSL := Lib.hid hsl
  have B6 := Lib.hid bl6
  have hcap : 2 ≤ cap := hg3
  clear hown hgr hsl hg1 hg2 hg3 hg4 hg5 bl6 hi hz0 hz1 hz2
  go_wp2_with fail
  refine (fact_any _ _ _).mono ?_
  rintro e w7 ⟨rfl, bl7⟩
  have T7 := Lib.hid (T6.out.below bl7 (Nat.le_refl _))
  have B7 := Lib.hid bl7
  clear bl7 T6
  go_wp2_with fail
  refine (C7.out _ T7.out).mono ?_
  rintro e w8 ⟨rfl, bl8⟩
  have T8 := Lib.hid (T7.out.below bl8 (Nat.le_refl _))
  have B8 := Lib.hid (B7.out.trans (bl8.mono B7.out.size))
  clear bl8 T7 B7
  have hg2 : w8.heap[g]? = some (.cells cur 42 (0, 0)) := (B8.out.block g (Array.getElem?_eq_some_iff.1 HG2.out).1).trans HG2.out
  have hsl := HSL.out.below B8.out (Nat.le_refl _)
  have HD : Hid (encE kd = (encE ka).set 4 (.string B3)) := by rw [EB3.out]; rfl
  have hsd := sl_set (i := 0) (p := 4) (e := ka) (e' := kd) (v := .string B3) encE_len hg2 hsl rfl (by decide) HD.out
  have bl9 := (B6.out.trans (B8.out.mono B6.out.size)).setCell (p := ⟨g, 4, none⟩) HG1.out (.string B3)
  have S9 : Hid (SL (w8.setCell ⟨g, 4, none⟩ (.string B3)) 7 encE (some ⟨g, 0, none⟩) [kd, kb]) := by
    show SL _ _ _ _ _
    simpa using hsd
  have S3' := Lib.hid (S3.out.below bl9 (Nat.le_refl _))
  have T9 := Lib.hid (T3.out.below bl9 (Nat.le_refl _))
  have L9 := Lib.hid (L3.out.trans (bl9.mono L3.out.size))
  have f4 := row_frozen (k := 4) hg2
  have g4 : w8.cell? ⟨g, 4, none⟩ = some (.string ka.body) := by
    have := (sl_pair hsl).1 4 _ rfl
    simpa using this
  clear hsd bl9 hsl hg2 T3 L3 S3 HSL HG1 HG2 B6 B8 T8
  go_wp2_with fail
  refine (C6.out _ _ cap hcap T9.out S9.out).mono ?_
  rintro e w10 ⟨rfl, bl10⟩
  have S10 := Lib.hid (S3'.out.below bl10 (Nat.le_refl _))
  have T10 := Lib.hid (T9.out.below bl10 (Nat.le_refl _))
  have L10 := Lib.hid (L9.out.trans (bl10.mono L9.out.size))
  clear bl10 T9 L9 S9 S3' f4 g4
  simp only
  go_wp2_with fail
  refine (C5.out _ A3 c3 hc3 T10.out S10.out).mono ?_
  rintro e w11 ⟨rfl, bl11⟩
  have L11 := Lib.hid (L10.out.trans (bl11.mono L10.out.size))
  clear bl11 T10 L10 S10
  simp only
  go_wp2_with fail
  go_ret
  exact ⟨rfl, L11.out⟩
end Go.Proofs.YtamiaalfjmppaaaDoor
