/- Package chain: Append. Condition: the variables of digest and of strconv hold their numbers. -/
import Derived.Test.YtaaenobckipfkaaDoorCh9
import Derived.Test.YtaaenobckipfkaaDoorApl
import Derived.OwnWalk
import Derived.Laws.MakeOwn
namespace Go.Proofs.YtaaenobckipfkaaDoor
open Go.RowKit Go.Blk Go.Opn Go.Apl

theorem infoE : (Tryd.prog.info? 37).map (fun i => (i.zero, i.size, i.bytes)) = some (some (.agg #[.int .i64 0, .int .i64 0, .int .i64 0, .string ⟨#[]⟩, .string ⟨#[]⟩, .int .i64 0, .int .i64 0]), 7, 72) := by kernel_rfl
theorem encE_len (e : E31) : (encE e).length = 7 := rfl
theorem encE_one (e : E31) : ∀ u ∈ encE e, u.oneCell' = true := by
  intro u hu
  simp only [encE, List.mem_cons, List.not_mem_nil, or_false] at hu
  rcases hu with rfl | rfl | rfl | rfl | rfl | rfl | rfl <;> rfl
theorem sumB_size (t : ByteArray) : (sumB KC t).size = 64 := by rw [sumB_eq]; show (sumL KC t).toArray.size = 64; simp [sumL_len]
theorem prevE_size (l : List E31) : (prevE l).size ≤ 64 := by
  unfold prevE
  cases l.getLast? with
  | none => exact Nat.zero_le _
  | some e => exact Nat.le_of_eq (sumB_size _)
/-- The entry before it is signed. -/
def nxE (l : List E31) (house day : Int) (body : ByteArray) : E31 := ⟨house, l.length, day, prevE l, body, 0, 0⟩
def nx0 (l : List E31) (house day : Int) (body : ByteArray) : E31 := ⟨house, l.length, day, ⟨#[]⟩, body, 0, 0⟩
/-- The further entry. -/
def appN (l : List E31) (house secret day : Int) (body : ByteArray) : E31 := ⟨house, l.length, day, prevE l, body, sgR secret (txE (nxE l house day body)), sgS secret (txE (nxE l house day body))⟩
/-- The error of Append. -/
def appE (l : List E31) (house secret day : Int) (body : ByteArray) : Int :=
  if isSec secret then (if (chk l house (pubV secret)).1 = 0 then misp l (nx0 l house day body) house else (chk l house (pubV secret)).1) else 1
def AppPost (w : World) (l : List E31) (house secret day : Int) (body : ByteArray) (e : Ending) (w' : World) : Prop :=
  Below w.heap.size w w' ∧ ((appE l house secret day body ≠ 0 ∧ e = .returned (.tuple #[.slice none 0 0, .int .i64 (appE l house secret day body)])) ∨
    (appE l house secret day body = 0 ∧ ∃ b, w.heap.size ≤ b ∧ e = .returned (.tuple #[.slice (some ⟨b, 0, none⟩) (l.length + 1) (l.length + 1), .int .i64 0]) ∧ SL w' 7 encE (some ⟨b, 0, none⟩) (l ++ [appN l house secret day body])))
def zeroE : List Value := [.int .i64 0, .int .i64 0, .int .i64 0, .string ⟨#[]⟩, .string ⟨#[]⟩, .int .i64 0, .int .i64 0]
def madeE (n : Nat) : Array Value := madeCells zeroE.toArray ((n + 1) * 7)
theorem madeE_size (n : Nat) : (madeE n).size = (n + 1) * 7 := size_madeCells _ _
theorem made_entries (n : Nat) (hn : n ≤ 1000000) (W : World) : (Instr.makeSlice 26 (.int .i64 0) (.int .i64 ((n : Int) + 1))).run Tryd.prog W = .ok (.slice (some ⟨W.heap.size, 0, none⟩) 0 (n + 1)) (W.alloc (.cells (madeE n) 37)) := by
  obtain ⟨i, hi, hz0, hz1, hz2⟩ := info_parts infoE
  have h := run_make (P := Tryd.prog) W 26 37 i _ Tryd.underlying26 hi hz0 .i64 .i64 0 ((n : Int) + 1) (by omega) (by omega) (by rw [hz2]; omega) (by omega)
  rw [h, hz1]
  have e : ((n : Int) + 1).toNat = n + 1 := by omega
  rw [e]; rfl
theorem misp_err (l : List E31) (e : E31) (house : Int) : misp l e house = 0 ∨ misp l e house ≠ 0 := Decidable.em _
set_option maxRecDepth 100000 in
set_option maxHeartbeats 4000000 in
theorem app_any (A : Option Addr) (c : Nat) (l : List E31) (house secret day : Int) (body : ByteArray) (w : World) (h : SL w 7 encE A l) (hl : l.length ≤ 1000000) (hlc : l.length ≤ c) (hf : Few l)
    (hh0 : -9223372036854775808 ≤ house) (hh1 : house ≤ 9223372036854775807) (hd0 : -9223372036854775808 ≤ day) (hd1 : day ≤ 9223372036854775807) (hb : body.size ≤ 1000000000) (hT : HasT w) :
    Calls Tryd.prog 26 #[.slice A l.length c, .int .i64 house, .int .i64 secret, .int .i64 day, .string body] w (AppPost w l house secret day body) := by
  have c0 := fun w => pub_any secret w
  unfold pubE at c0
  by_cases hs : isSec secret
  · simp only [if_pos hs] at c0
    obtain ⟨E, eE⟩ : ∃ E, E = appE l house secret day body := ⟨_, rfl⟩
    obtain ⟨y, ey⟩ : ∃ y, y = pubV secret := ⟨_, rfl⟩
    have hE : E = if (chk l house y).1 = 0 then misp l (nx0 l house day body) house else (chk l house y).1 := by rw [eE, ey]; unfold appE; rw [if_pos hs]
    have POST : Hid (∀ e w', Below w.heap.size w w' → ((E ≠ 0 ∧ e = .returned (.tuple #[.slice none 0 0, .int .i64 E])) ∨
        (E = 0 ∧ ∃ b, w.heap.size ≤ b ∧ e = .returned (.tuple #[.slice (some ⟨b, 0, none⟩) (l.length + 1) (l.length + 1), .int .i64 0]) ∧ SL w' 7 encE (some ⟨b, 0, none⟩) (l ++ [appN l house secret day body]))) → AppPost w l house secret day body e w') := by
      intro e w' h1 h2
      rw [eE] at h2
      exact ⟨h1, h2⟩
    have C0 := Lib.hid c0
    have C1 : Hid (∀ w', Below w.heap.size w w' → Calls Tryd.prog 17 #[.slice A l.length c, .int .i64 house, .int .i64 y] w' (ChkPost w' (chk l house y))) := fun w' hb => check_any A c l house y w' (h.below hb (Nat.le_refl _)) (by omega) hlc hf (hT.below hb (Nat.le_refl _))
    have C2 : Hid (∀ w', Below w.heap.size w w' → Calls Tryd.prog 37 #[.slice A l.length c, .agg (encE (nx0 l house day body)).toArray, .int .i64 house] w' fun en w2 => en = .returned (.int .i64 (misp l (nx0 l house day body) house)) ∧ Below w'.heap.size w' w2) := fun w' hb => misp_any A c l _ house w' (by omega) (h.below hb (Nat.le_refl _))
    have C3 : Hid (∀ w', Below w.heap.size w w' → Calls Tryd.prog 38 #[.slice A l.length c] w' fun en w2 => en = .returned (.string (prevE l)) ∧ Below w'.heap.size w' w2) := fun w' hb => prev_any A c l w' (h.below hb (Nat.le_refl _)) (by omega) hf (hT.below hb (Nat.le_refl _))
    have hps := prevE_size l
    have hok : (nxE l house day body).Ok := by
      refine ⟨hh0, hh1, ?_, ?_, hd0, hd1, (by decide : (-9223372036854775808 : Int) ≤ 0), (by decide : (0 : Int) ≤ 9223372036854775807), (by decide : (-9223372036854775808 : Int) ≤ 0), (by decide : (0 : Int) ≤ 9223372036854775807), ?_, ?_⟩
      · show (-9223372036854775808 : Int) ≤ (l.length : Int); omega
      · show (l.length : Int) ≤ 9223372036854775807; omega
      · show (prevE l).size ≤ _; omega
      · show body.size ≤ _; omega
    have C4 : Hid (∀ w', Below w.heap.size w w' → Calls Tryd.prog 19 #[.agg (encE (nxE l house day body)).toArray] w' fun en w2 => en = .returned (.string (txE (nxE l house day body))) ∧ Below w'.heap.size w' w2) := fun w' hb2 => text31_any _ w' hok (by show (prevE l).size ≤ _; omega) hb (hT.below hb2 (Nat.le_refl _))
    have htx : (txE (nxE l house day body)).size ≤ 1000000000000 := by
      have := txE_size hok
      have e1 : (nxE l house day body).prev.size ≤ 64 := hps
      have e2 : (nxE l house day body).body.size ≤ 1000000000 := hb
      omega
    have C5 : Hid (∀ w', Below w.heap.size w w' → Calls Tryd.prog 20 #[.int .i64 secret, .string (txE (nxE l house day body))] w' fun e w2 => e = .returned (.tuple #[.agg #[.int .i64 (sgR secret (txE (nxE l house day body))), .int .i64 (sgS secret (txE (nxE l house day body)))], .int .i64 0]) ∧ Below w'.heap.size w' w2) := fun w' hb2 => sign_yes secret _ w' hs htx (hT.below hb2 (Nat.le_refl _))
    have EA : Hid (encE (appN l house secret day body) = [.int .i64 house, .int .i64 l.length, .int .i64 day, .string (prevE l), .string body, .int .i64 (sgR secret (txE (nxE l house day body))), .int .i64 (sgS secret (txE (nxE l house day body)))]) := rfl
    obtain ⟨nw, enw⟩ : ∃ nw, nw = appN l house secret day body := ⟨_, rfl⟩
    obtain ⟨ms, ems⟩ : ∃ ms, ms = misp l (nx0 l house day body) house := ⟨_, rfl⟩
    rw [← enw] at POST EA
    rw [← ems] at hE C2
    obtain ⟨pv, epv⟩ : ∃ pv, pv = prevE l := ⟨_, rfl⟩
    obtain ⟨tx, etx⟩ : ∃ tx, tx = txE (nxE l house day body) := ⟨_, rfl⟩
    have C4' : Hid (∀ w', Below w.heap.size w w' → Calls Tryd.prog 19 #[.agg #[.int .i64 house, .int .i64 l.length, .int .i64 day, .string pv, .string body, .int .i64 0, .int .i64 0]] w' fun en w2 => en = .returned (.string tx) ∧ Below w'.heap.size w' w2) := by
      rw [epv, etx]; exact C4
    have C2' : Hid (∀ w', Below w.heap.size w w' → Calls Tryd.prog 37 #[.slice A l.length c, .agg #[.int .i64 house, .int .i64 l.length, .int .i64 day, .string ⟨#[]⟩, .string body, .int .i64 0, .int .i64 0], .int .i64 house] w' fun en w2 => en = .returned (.int .i64 ms) ∧ Below w'.heap.size w' w2) := C2
    rw [← etx] at C5 EA
    rw [← epv] at C3 EA
    obtain ⟨sr, esr⟩ : ∃ sr, sr = sgR secret tx := ⟨_, rfl⟩
    obtain ⟨ss, ess⟩ : ∃ ss, ss = sgS secret tx := ⟨_, rfl⟩
    rw [← esr, ← ess] at C5 EA
    rw [← ey] at C0
    obtain ⟨cr, ecr⟩ : ∃ cr, cr = chk l house y := ⟨_, rfl⟩
    rw [← ecr] at C1 hE
    obtain ⟨ce, ca⟩ := cr
    simp only at hE
    have HSL := Lib.hid h
    have HE := Lib.hid hE
    obtain ⟨n, en⟩ : ∃ n, n = l.length := ⟨_, rfl⟩
    rw [← en] at POST C1 C2' C3 C4' EA hl hlc ⊢
    have EN := Lib.hid en
    clear C2 C4 hs eE ey hE c0 hps hok htx hb enw ems epv etx esr ess ecr h hf hT en hh0 hh1 hd0 hd1
    go_enter Tryd.func26, Tryd.ntmps26
    go_wp2_with fail
    refine (C0.out _).mono ?_
    rintro e w' ⟨rfl, rfl⟩
    clear C0
    go_wp2_with fail
    refine (C1.out _ (Below.refl _ _)).mono ?_
    rintro e w1 ⟨rfl, hb1⟩
    have HB1 := Lib.hid hb1
    clear hb1 C1
    simp only
    by_cases hce : ce = 0
    · subst hce
      have he : E = ms := by rw [HE.out, if_pos rfl]
      have HE2 := Lib.hid he
      clear HE he
      go_wp2_with fail
      refine (C2'.out _ (HB1.out.alloc HB1.out.size _)).mono ?_
      rintro e w2 ⟨rfl, hb2⟩
      have B2 := Lib.hid ((Blk.new w1 [.int .i64 house, .int .i64 n, .int .i64 day, .string ⟨#[]⟩, .string body, .int .i64 0, .int .i64 0] 37).below hb2 (by simp))
      have HB2 := Lib.hid ((HB1.out.alloc HB1.out.size (.cells #[.int .i64 house, .int .i64 n, .int .i64 day, .string ⟨#[]⟩, .string body, .int .i64 0, .int .i64 0] 37)).trans (hb2.mono (by have := HB1.out.size; simp; omega)))
      clear hb2 C2'
      obtain ⟨q, eq⟩ : ∃ q, q = w1.heap.size := ⟨_, rfl⟩
      have hq : w.heap.size ≤ q := by rw [eq]; exact HB1.out.size
      rw [← eq] at B2 ⊢
      clear eq
      by_cases hms : ms = 0
      · subst hms
        go_wp2_with fail
        refine (C3.out _ HB2.out).mono ?_
        rintro e w3 ⟨rfl, hb3⟩
        have b3 := B2.out.below hb3 B2.out.lt
        have f3 := b3.frozen 3
        have g3 := b3.cellD 3 _ rfl
        have b4 := b3.set 3 (.string pv)
        simp only [List.set_cons_succ, List.set_cons_zero] at b4
        have B4 := Lib.hid b4
        have c0 := b4.cellD 0 _ rfl
        have c1 := b4.cellD 1 _ rfl
        have c2 := b4.cellD 2 _ rfl
        have c3 := b4.cellD 3 _ rfl
        have c4 := b4.cellD 4 _ rfl
        have c5 := b4.cellD 5 _ rfl
        have c6 := b4.cellD 6 _ rfl
        have HB4 := Lib.hid ((HB2.out.trans (hb3.mono HB2.out.size)).setCell (p := ⟨q, 3, none⟩) hq (.string pv))
        clear hb3 b3 b4 C3 B2 HB2
        go_wp2_with fail
        refine (C4'.out _ HB4.out).mono ?_
        rintro e w5 ⟨rfl, hb5⟩
        have B5 := Lib.hid (B4.out.below hb5 B4.out.lt)
        have HB5 := Lib.hid (HB4.out.trans (hb5.mono HB4.out.size))
        clear hb5 C4' B4 HB4 c0 c1 c2 c3 c4 c5 c6 f3 g3
        go_wp2_with fail
        refine (C5.out _ HB5.out).mono ?_
        rintro e w6 ⟨rfl, hb6⟩
        have b6 := B5.out.below hb6 B5.out.lt
        have f5 := b6.frozen 5
        have f6 := b6.frozen 6
        have g5 := b6.cellD 5 _ rfl
        have g6 := b6.cellD 6 _ rfl
        have b7 := (b6.set 5 (.int .i64 sr)).set 6 (.int .i64 ss)
        simp only [List.set_cons_succ, List.set_cons_zero] at b7
        have B7 := Lib.hid b7
        have HB7 := Lib.hid (((HB5.out.trans (hb6.mono HB5.out.size)).setCell (p := ⟨q, 5, none⟩) hq (.int .i64 sr)).setCell (p := ⟨q, 6, none⟩) hq (.int .i64 ss))
        have hmk := fun W => made_entries n hl W
        obtain ⟨Z, eZ⟩ : ∃ Z, Z = madeE n := ⟨_, rfl⟩
        have hZ : Z.size = (n + 1) * 7 := by rw [eZ]; exact madeE_size n
        rw [← eZ] at hmk
        have HZ := Lib.hid hZ
        clear hb6 b6 b7 C5 B5 HB5 eZ hZ
        go_wp2_with fail
        obtain ⟨V, eV⟩ : ∃ V, V = ((w6.setCell ⟨q, 5, none⟩ (.int .i64 sr)).setCell ⟨q, 6, none⟩ (.int .i64 ss)).alloc (.cells Z 37) := ⟨_, rfl⟩
        obtain ⟨g, eg⟩ : ∃ g, g = w6.heap.size := ⟨_, rfl⟩
        have hz6 : ((w6.setCell ⟨q, 5, none⟩ (.int .i64 sr)).setCell ⟨q, 6, none⟩ (.int .i64 ss)).heap.size = w6.heap.size := by simp [World.setCell]
        have hbV : Below w.heap.size w V := by rw [eV]; exact HB7.out.alloc HB7.out.size _
        have bq : Blk V q (encE nw) 37 := by rw [eV, EA.out]; exact B7.out.alloc _
        have hgV : V.heap[g]? = some (.cells Z 37 (0, 0)) := by rw [eV, eg, ← hz6]; exact heap_alloc_last _ _
        have hgq : q ≠ g := by have := B7.out.lt; rw [hz6] at this; omega
        have hgw : w.heap.size ≤ g := by have := HB7.out.size; rw [hz6] at this; omega
        rw [← eV, ← eg]
        obtain ⟨i0, hi, hz0, hz1, hz2⟩ := info_parts infoE
        have HI := Lib.hid hi
        have HZ0 := Lib.hid hz0
        have HZ1 := Lib.hid hz1
        have hXl : (l.flatMap encE).length = n * 7 := by rw [flat_len encE_len, EN.out]
        have HX := Lib.hid hXl
        letI : Fre2.Rel := ⟨RowL g 37 (l.flatMap encE) (encE nw), RowL.refl, RowL.trans⟩
        clear eV eg hz6 hmk B7 HB7 hi hz0 hz1 hz2 f5 f6 g5 g6 hXl
        refine Fre2.wp_region_free 6 [(2, .ind (fun _ => .slice (some ⟨g, 0, none⟩) n (n + 1)) (fun _ w2 => ∃ cc : Array Value, w2.heap[g]? = some (.cells cc 37 (0, 0)) ∧ cc.size = (n + 1) * 7 ∧ cc.toList.take (l.flatMap encE).length = l.flatMap encE)),
            (4, .ind (fun g6 => .slice (some ⟨g6, 0, none⟩) 1 1) (fun g6 w2 => Blk w2 g6 (encE nw) 37 ∧ g6 ≠ g)),
            (5, .ind (fun _ => .slice (some ⟨g, 0, none⟩) (n + 1) (n + 1)) (fun _ w2 => ∃ cc : Array Value, w2.heap[g]? = some (.cells cc 37 (0, 0)) ∧ cc.toList = l.flatMap encE ++ encE nw))]
          (fun w2 => Below w.heap.size w w2 ∧ Blk w2 q (encE nw) 37 ∧ ∃ cc : Array Value, w2.heap[g]? = some (.cells cc 37 (0, 0)) ∧ cc.size = (n + 1) * 7) (by kernel_rfl) (by kernel_rfl) ?_ ⟨hbV.drew, bq.drew, Z, hgV, HZ.out⟩
          (fun w1 w2 h r => ?_) ?_
        · intro j mk r hf y w1 w2 hr rr
          have rr : RowL g 37 (l.flatMap encE) (encE nw) w1 w2 := rr
          simp only [Free.find] at hf
          repeat' split at hf
          · cases hf
            obtain ⟨cc, h1, h2, h3⟩ := hr
            obtain ⟨c2, k1, k2, k3, _⟩ := rr.row cc h1
            exact ⟨c2, k1, k2.trans h2, k3 h3⟩
          · cases hf; exact ⟨hr.1.keepB (rr.block _ hr.1.lt hr.2), hr.2⟩
          · cases hf
            obtain ⟨cc, h1, h2⟩ := hr
            obtain ⟨c2, k1, _, _, k4⟩ := rr.row cc h1
            exact ⟨c2, k1, k4 h2⟩
          · cases hf
        · have r : RowL g 37 (l.flatMap encE) (encE nw) w1 w2 := r
          obtain ⟨h1, h2, cc, h3, h4⟩ := h
          obtain ⟨c2, k1, k2, _, _⟩ := r.row cc h3
          refine ⟨⟨r.os.trans h1.os, r.tape.trans h1.tape, r.output.trans h1.output, Nat.le_trans h1.size r.size, fun k hk => (r.block k (Nat.lt_of_lt_of_le hk h1.size) (by omega)).trans (h1.block k hk)⟩, h2.keepB (r.block _ h2.lt hgq), c2, k1, k2.trans h4⟩
        simp only [List.take_succ_cons, List.take_zero]
        clear hbV bq hgV
        iterate 2 (apply Fre2.chain_still (by first | exact Free.wanted_of rfl rfl rfl | rfl) rfl; (intro w' hB hA; obtain ⟨q0, q1, q2⟩ := hB; clear hA  q0 q1 q2; go_light; go_simp <;> rfl); (try simp only [Act.put, List.setIfInBounds_toArray, List.set_cons_succ, List.set_cons_zero]))
        apply Fre2.chain_ind rfl rfl
        · intro w' hB hA
          obtain ⟨hb, _, cc, h3, h4⟩ := hB
          obtain ⟨w2, hrun, hgr, hhp⟩ := append_list (P := Tryd.prog) w' 26 26 37 i0 Tryd.underlying26 HI.out HZ1.out encE_len encE_one g 0 (n + 1) cc h3 A c l (HSL.out.below hb (Nat.le_refl _)) (by have := EN.out; omega) h4
          rw [Nat.zero_add, ← EN.out] at hrun
          rw [Nat.zero_mul] at hhp
          refine Free.opRun_of (v := .slice (some ⟨g, 0, none⟩) n (n + 1)) (w' := w2) (exec_append (s := .tmp 68) (x := .tmp 69) rfl rfl rfl hrun) ⟨?_, 0, rfl, _, hhp, ?_, spl_first_take cc _⟩
          · exact RowL.of_set hgr h3 hhp (Apk.spl_size _ _ _ (by rw [HX.out, h4]; omega)) (fun _ => spl_first_take cc _) (spl_first_full cc _ _)
          · rw [Apk.spl_size _ _ _ (by rw [HX.out, h4]; omega)]; exact h4
        intro y0
        simp only [Act.put, List.setIfInBounds_toArray, List.set_cons_succ, List.set_cons_zero]
        apply Fre2.chain_still rfl rfl
        · intro w' hB hA
          exact exec_row rfl (by rfl) hB.2.1 Tryd.underlying37 rfl (by rw [List.size_toArray, encE_len]; kernel_rfl)
        simp only [Act.put, List.setIfInBounds_toArray, List.set_cons_succ, List.set_cons_zero]
        apply Fre2.chain_ind rfl rfl
        · intro w' hB hA
          refine Free.opRun_of (v := .slice (some ⟨w'.heap.size, 0, none⟩) 1 1) (w' := w'.alloc (.cells (encE nw).toArray 37)) ?_ ⟨RowL.grow ((Below.refl _ _).alloc (Nat.le_refl _) _), w'.heap.size, rfl, Blk.new w' (encE nw) 37, ?_⟩
          · have hb := Apk.run_slice_one (P := Tryd.prog) w' 26 37 i0 _ Tryd.underlying26 HI.out HZ0.out (encE nw).toArray (by rw [List.size_toArray, encE_len, HZ1.out]) (by rw [HZ1.out]; decide) (by rw [HZ1.out]; decide)
            exact exec_slice rfl hb
          · obtain ⟨_, _, cc, h3, _⟩ := hB
            have := (Array.getElem?_eq_some_iff.1 h3).1; omega
        intro g6
        simp only [Act.put, List.setIfInBounds_toArray, List.set_cons_succ, List.set_cons_zero]
        apply Fre2.chain_ind rfl rfl
        · intro w' hB hA
          have h6 : Blk w' g6 (encE nw) 37 ∧ g6 ≠ g := hA _ List.mem_cons_self (by kernel_rfl)
          obtain ⟨cc, h3, h4, h5⟩ : ∃ cc : Array Value, w'.heap[g]? = some (.cells cc 37 (0, 0)) ∧ cc.size = (n + 1) * 7 ∧ cc.toList.take (l.flatMap encE).length = l.flatMap encE := hA _ (List.mem_cons_of_mem _ List.mem_cons_self) (by kernel_rfl)
          have hs1 : SL w' 7 encE (some ⟨g6, 0, none⟩) [nw] := sl_of_cells encE_len h6.1 (fun j u hu => by simpa using hu)
          obtain ⟨w2, hrun, hgr, hhp⟩ := append_list (P := Tryd.prog) w' 26 26 37 i0 Tryd.underlying26 HI.out HZ1.out encE_len encE_one g n (n + 1) cc h3 (some ⟨g6, 0, none⟩) 1 [nw] hs1 (Nat.le_refl _) h4
          have e1 : [nw].flatMap encE = encE nw := by simp
          rw [e1, ← HX.out] at hhp
          have hlast := spl_last_full cc (l.flatMap encE) (encE nw) h5 (by rw [h4, HX.out, encE_len]; omega)
          refine Free.opRun_of (v := .slice (some ⟨g, 0, none⟩) (n + 1) (n + 1)) (w' := w2) (exec_append (s := .tmp 70) (x := .tmp 72) rfl rfl rfl hrun) ⟨?_, 0, rfl, _, hhp, hlast⟩
          exact RowL.of_set hgr h3 hhp (Apk.spl_size _ _ _ (by rw [HX.out, h4, encE_len]; omega)) (fun _ => by rw [hlast]; simp) (fun _ => hlast)
        intro y1
        simp only [Act.put, List.setIfInBounds_toArray, List.set_cons_succ, List.set_cons_zero]
        apply Fre2.chain_nil
        intro wz hBz hg hh
        obtain ⟨cc, h7, h8⟩ : ∃ cc : Array Value, wz.heap[g]? = some (.cells cc 37 (0, 0)) ∧ cc.toList = l.flatMap encE ++ encE nw := hh _ List.mem_cons_self
        have hSL : SL wz 7 encE (some ⟨g, 0, none⟩) (l ++ [nw]) := sl_of_cells encE_len h7 (fun j u hu => by
          have e1 : (l ++ [nw]).flatMap encE = cc.toList := by rw [h8]; simp
          rw [e1] at hu; simpa using hu)
        have FIN := Lib.hid (POST.out (.returned (.tuple #[.slice (some ⟨g, 0, none⟩) (n + 1) (n + 1), .int .i64 0])) wz hBz.1 (.inr ⟨HE2.out, g, hgw, rfl, hSL⟩))
        simp only [List.drop_succ_cons, List.drop_zero]
        clear hBz hg hh h7 h8 hSL POST HI HZ0 HZ1 HX HSL EN EA HZ
        go_wp2
        go_ret2
        exact FIN.out
      · have hcb : (ms != 0) = true := by simp [hms]
        go_wp2_with fail
        go_ret2
        exact POST.out _ _ HB2.out (.inl ⟨by rw [HE2.out]; exact hms, by rw [HE2.out]; rfl⟩)
    · have he : E = ce := by rw [HE.out, if_neg hce]
      have HE2 := Lib.hid he
      have hcb : (ce != 0) = true := by simp [hce]
      clear HE he
      go_wp2_with fail
      go_ret2
      exact POST.out _ _ HB1.out (.inl ⟨by rw [HE2.out]; exact hce, by rw [HE2.out]; rfl⟩)
  · have he : appE l house secret day body = 1 := by unfold appE; rw [if_neg hs]
    simp only [if_neg hs] at c0
    have C0 := Lib.hid c0
    have HE := Lib.hid he
    obtain ⟨y, ey⟩ : ∃ y, y = pubV secret := ⟨_, rfl⟩
    rw [← ey] at C0
    clear c0 he h hf hT ey
    go_enter Tryd.func26, Tryd.ntmps26
    go_wp2_with fail
    refine (C0.out _).mono ?_
    rintro e w' ⟨rfl, rfl⟩
    go_wp2_with fail
    go_ret2
    exact ⟨Below.refl _ _, .inl ⟨by rw [HE.out]; decide, by rw [HE.out]; rfl⟩⟩
end Go.Proofs.YtaaenobckipfkaaDoor
