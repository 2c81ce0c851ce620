/- Package chain: Check. Condition: the variables of digest and of strconv hold their numbers. -/
import Derived.Test.YtaaenobckipfkaaDoorCh4
namespace Go.Proofs.YtaaenobckipfkaaDoor
open Go.RowKit Go.Blk Go.Opn

/-- The error of the entry with an index. -/
def chk1 (l : List E31) (k : Nat) (e : E31) (house pub : Int) : Int :=
  if misp (l.take k) e house = 0 then (if (e.prev.toList == (prevE (l.take k)).toList) then (if verB pub (txE e) e.r e.s then 0 else 17) else 17) else misp (l.take k) e house
def chkGo (l : List E31) (house pub : Int) : Nat → Nat → Int × Int
  | 0, _ => (0, -1)
  | n + 1, k => match l[k]? with
    | none => (0, -1)
    | some e => if chk1 l k e house pub = 0 then chkGo l house pub n (k + 1) else (chk1 l k e house pub, k)
def keysOk (house pub : Int) : Prop := 0 ≤ house ∧ house < 12 ∧ 1 ≤ pub ∧ pub < 2147483647
instance (house pub : Int) : Decidable (keysOk house pub) := by unfold keysOk; infer_instance
def chk (l : List E31) (house pub : Int) : Int × Int := if keysOk house pub then chkGo l house pub l.length 0 else (1, -1)
theorem chkGo_ok {l : List E31} {house pub : Int} {n k : Nat} {e : E31} (h : l[k]? = some e) (h0 : chk1 l k e house pub = 0) : chkGo l house pub (n + 1) k = chkGo l house pub n (k + 1) := by
  rw [chkGo, h]; simp only; rw [if_pos h0]
theorem chkGo_bad {l : List E31} {house pub : Int} {n k : Nat} {e : E31} (h : l[k]? = some e) (h0 : chk1 l k e house pub ≠ 0) : chkGo l house pub (n + 1) k = (chk1 l k e house pub, (k : Int)) := by
  rw [chkGo, h]; simp only; rw [if_neg h0]
def RK (w : World) (l : List E31) (house pub : Int) (i : Value) (wr : World) : Prop :=
  ∃ k : Nat, k ≤ l.length ∧ i = .int .i64 k ∧ Below w.heap.size w wr ∧ chk l house pub = chkGo l house pub (l.length - k) k
def ChkPost (w : World) (r : Int × Int) (e : Ending) (w' : World) : Prop := e = .returned (.tuple #[.int .i64 r.1, .int .i64 r.2]) ∧ Below w.heap.size w w'
set_option maxRecDepth 100000 in
set_option maxHeartbeats 8000000 in
theorem check_any (A : Option Addr) (c : Nat) (l : List E31) (house pub : Int) (w : World) (h : SL w 7 encE A l) (hl : l.length ≤ 9223372036854775807) (hlc : l.length ≤ c) (hf : Few l) (hT : HasT w) :
    Calls Tryd.prog 17 #[.slice A l.length c, .int .i64 house, .int .i64 pub] w (ChkPost w (chk l house pub)) := by
  by_cases hh0 : house < 0
  · have hm : chk l house pub = (1, -1) := by unfold chk; rw [if_neg (by unfold keysOk; omega)]
    have HM := Lib.hid hm
    clear hm
    go_enter Tryd.func17, Tryd.ntmps17
    go_wp2
    go_ret2
    exact ⟨by rw [HM.out]; rfl, Below.refl _ _⟩
  by_cases hh1 : 12 ≤ house
  · have hm : chk l house pub = (1, -1) := by unfold chk; rw [if_neg (by unfold keysOk; omega)]
    have HM := Lib.hid hm
    clear hm
    go_enter Tryd.func17, Tryd.ntmps17
    go_wp2
    go_ret2
    exact ⟨by rw [HM.out]; rfl, Below.refl _ _⟩
  by_cases hp0 : pub < 1
  · have hm : chk l house pub = (1, -1) := by unfold chk; rw [if_neg (by unfold keysOk; omega)]
    have HM := Lib.hid hm
    clear hm
    go_enter Tryd.func17, Tryd.ntmps17
    go_wp2
    go_ret2
    exact ⟨by rw [HM.out]; rfl, Below.refl _ _⟩
  by_cases hp1 : 2147483647 ≤ pub
  · have hm : chk l house pub = (1, -1) := by unfold chk; rw [if_neg (by unfold keysOk; omega)]
    have HM := Lib.hid hm
    clear hm
    go_enter Tryd.func17, Tryd.ntmps17
    go_wp2
    go_ret2
    exact ⟨by rw [HM.out]; rfl, Below.refl _ _⟩
  have HST : Hid (RK w l house pub (.int .i64 0) w) := ⟨0, Nat.zero_le _, rfl, Below.refl _ _, by unfold chk; rw [if_pos (by unfold keysOk; omega)]; rfl⟩
  have HS := Lib.hid h
  have HF := Lib.hid hf
  have HT := Lib.hid hT
  obtain ⟨R, eR⟩ : ∃ R, R = chk l house pub := ⟨_, rfl⟩
  rw [← eR]
  have ER := Lib.hid eR
  clear h hf hT eR
  go_enter Tryd.func17, Tryd.ntmps17
  go_wp2_with fail
  go_loopw [27] (fun i wr => RK w l house pub i wr) (fun i _ => l.length - (intOf i).toNat)
  case atStart => exact HST.out
  case round =>
    clear HST
    obtain ⟨k, hk, rfl, hb, hR⟩ := hrel
    rw [← ER.out] at hR
    by_cases hlt : k < l.length
    · obtain ⟨x, hx⟩ : ∃ x, l[k]? = some x := ⟨_, List.getElem?_eq_getElem hlt⟩
      obtain ⟨bb, off, rfl, hc⟩ := (HS.out.below hb (Nat.le_refl _)).at_ hx
      obtain ⟨n, hn⟩ : ∃ n, l.length - k = n + 1 := ⟨l.length - k - 1, by omega⟩
      rw [hn] at hR
      have hno : chk1 l k x house pub = 0 → R = chkGo l house pub (l.length - (k + 1)) (k + 1) := fun h0 => by
        rw [hR, chkGo_ok hx h0]; congr 1; omega
      have hyes : chk1 l k x house pub ≠ 0 → R = (chk1 l k x house pub, (k : Int)) := fun h0 => by rw [hR, chkGo_bad hx h0]
      obtain ⟨f1, f2, f3⟩ := HF.out x (List.mem_of_getElem? hx)
      have hft : Few (l.take k) := fun e he => HF.out e (List.mem_of_mem_take he)
      have hlk : (l.take k).length = k := by rw [List.length_take]; omega
      have HNO := Lib.hid hno
      have HYES := Lib.hid hyes
      obtain ⟨ms, ems⟩ : ∃ ms, ms = misp (l.take k) x house := ⟨_, rfl⟩
      obtain ⟨pv, epv⟩ : ∃ pv, pv = prevE (l.take k) := ⟨_, rfl⟩
      obtain ⟨tx, etx⟩ : ∃ tx, tx = txE x := ⟨_, rfl⟩
      obtain ⟨vb, evb⟩ : ∃ vb, vb = verB pub tx x.r x.s := ⟨_, rfl⟩
      have htx : tx.size ≤ 1000000000000 := by have := txE_size f1; rw [etx]; omega
      have C1 : Hid (∀ w' : World, Below w.heap.size w w' → Calls Tryd.prog 37 #[.slice (some ⟨bb, off, none⟩) k c, .agg (encE x).toArray, .int .i64 house] w' fun en w2 => en = .returned (.int .i64 ms) ∧ Below w'.heap.size w' w2) := fun w' h => by
        have := misp_any (some ⟨bb, off, none⟩) c (l.take k) x house w' (by omega) ((HS.out.below h (Nat.le_refl _)).take k)
        rw [hlk, ← ems] at this; exact this
      have C2 : Hid (∀ w' : World, Below w.heap.size w w' → Calls Tryd.prog 38 #[.slice (some ⟨bb, off, none⟩) k c] w' fun en w2 => en = .returned (.string pv) ∧ Below w'.heap.size w' w2) := fun w' h => by
        have := prev_any (some ⟨bb, off, none⟩) c (l.take k) w' ((HS.out.below h (Nat.le_refl _)).take k) (by omega) hft (HT.out.below h (Nat.le_refl _))
        rw [hlk, ← epv] at this; exact this
      have C3 : Hid (∀ w' : World, Below w.heap.size w w' → Calls Tryd.prog 19 #[.agg (encE x).toArray] w' fun en w2 => en = .returned (.string tx) ∧ Below w'.heap.size w' w2) := fun w' h => by
        have := text31_any x w' f1 f2 f3 (HT.out.below h (Nat.le_refl _))
        rw [← etx] at this; exact this
      have C4 : Hid (∀ w' : World, Below w.heap.size w w' → Calls Tryd.prog 18 #[.int .i64 pub, .string tx, .agg #[.int .i64 x.r, .int .i64 x.s]] w' fun en w2 => en = .returned (.bool vb) ∧ Below w'.heap.size w' w2) := fun w' h => by
        have := ver_any pub tx x.r x.s w' htx (HT.out.below h (Nat.le_refl _))
        rw [← evb] at this; exact this
      have c1 : chk1 l k x house pub = if ms = 0 then (if (x.prev.toList == pv.toList) then (if vb then 0 else 17) else 17) else ms := by
        unfold chk1; rw [← ems, ← epv, ← etx, ← evb]
      have CH := Lib.hid c1
      obtain ⟨xh, xq, xd, xp, xb, xr, xs⟩ := x
      have i0 := hc 0 _ rfl
      have i1 := hc 1 _ rfl
      have i2 := hc 2 _ rfl
      have i3 := hc 3 _ rfl
      have i4 := hc 4 _ rfl
      have i5 := hc 5 _ rfl
      have i6 := hc 6 _ rfl
      simp only [← Nat.add_assoc, Nat.add_zero] at i0 i1 i2 i3 i4 i5 i6
      have hki : (k : Int) < (l.length : Int) := by omega
      have k00 : (0 : Int) ≤ (k : Int) := by omega
      have hkc : (k : Int) ≤ (c : Int) := by omega
      have HB := Lib.hid hb
      clear hc hn hR hno hyes f1 f2 f3 hft hlk ems epv etx evb htx c1 hb hx
      go_wp2_with fail
      obtain ⟨V, eV⟩ : ∃ V, V = wr.alloc (.cells #[.int .i64 xh, .int .i64 xq, .int .i64 xd, .string xp, .string xb, .int .i64 xr, .int .i64 xs] 37) := ⟨_, rfl⟩
      have bk : Blk V wr.heap.size [.int .i64 xh, .int .i64 xq, .int .i64 xd, .string xp, .string xb, .int .i64 xr, .int .i64 xs] 37 := by rw [eV]; exact Blk.new wr [.int .i64 xh, .int .i64 xq, .int .i64 xd, .string xp, .string xb, .int .i64 xr, .int .i64 xs] 37
      have hbV : Below w.heap.size w V := by rw [eV]; exact HB.out.alloc HB.out.size _
      rw [← eV]
      have c0 := bk.cellD 0 _ rfl
      have c1 := bk.cellD 1 _ rfl
      have c2 := bk.cellD 2 _ rfl
      have c3 := bk.cellD 3 _ rfl
      have c4 := bk.cellD 4 _ rfl
      have c5 := bk.cellD 5 _ rfl
      have c6 := bk.cellD 6 _ rfl
      refine Free.wp_region_free 6 [(5, .det (.int .i64 ms))] (fun w2 => Below w.heap.size w w2 ∧ w2.cell? ⟨wr.heap.size, 0, none⟩ = some (.int .i64 xh) ∧ w2.cell? ⟨wr.heap.size, 1, none⟩ = some (.int .i64 xq) ∧ w2.cell? ⟨wr.heap.size, 2, none⟩ = some (.int .i64 xd) ∧ w2.cell? ⟨wr.heap.size, 3, none⟩ = some (.string xp) ∧ w2.cell? ⟨wr.heap.size, 4, none⟩ = some (.string xb) ∧ w2.cell? ⟨wr.heap.size, 5, none⟩ = some (.int .i64 xr) ∧ w2.cell? ⟨wr.heap.size, 6, none⟩ = some (.int .i64 xs)) (by kernel_rfl) (by kernel_rfl) ?_ ⟨hbV.drew, c0, c1, c2, c3, c4, c5, c6⟩ (fun _ _ h g => ⟨h.1.trans (Below.mono g h.1.size), grow_cell h.2.1 g, grow_cell h.2.2.1 g, grow_cell h.2.2.2.1 g, grow_cell h.2.2.2.2.1 g, grow_cell h.2.2.2.2.2.1 g, grow_cell h.2.2.2.2.2.2.1 g, grow_cell h.2.2.2.2.2.2.2 g⟩) ?_
      · intro j mk r hf
        simp only [Free.find] at hf
        repeat' split at hf
        all_goals (first | cases hf | skip)
      simp only [List.take_succ_cons, List.take_zero]
      clear c0 c1 c2 c3 c4 c5 c6 i0 i1 i2 i3 i4 i5 i6 eV hbV bk HB
      iterate 5 (apply Free.chain_still (by first | exact Free.wanted_of rfl rfl rfl | rfl) rfl; (intro w' hB hA; obtain ⟨qT, q0, q1, q2, q3, q4, q5, q6⟩ := hB; clear hA  qT; go_light; go_simp <;> rfl); (try simp only [Act.put, List.setIfInBounds_toArray, List.set_cons_succ, List.set_cons_zero]))
      apply Free.chain_det rfl rfl
      · intro w' hB hA
        refine Free.opRun_call (f := 37) (args := #[.slice (some ⟨bb, off, none⟩) k c, .agg (encE ⟨xh, xq, xd, xp, xb, xr, xs⟩).toArray, .int .i64 house]) (by clear hB hA; go_simp <;> rfl) ?_
        refine (C1.out _ hB.1).mono ?_
        rintro e w3 ⟨rfl, hb3⟩
        exact ⟨_, rfl, hb3, rfl⟩
      simp only [Act.put, List.setIfInBounds_toArray, List.set_cons_succ, List.set_cons_zero]
      apply Free.chain_nil
      intro wz hBz hg _
      simp only [List.drop_succ_cons, List.drop_zero]
      have HBZ := Lib.hid hBz.1
      obtain ⟨_, z0, z1, z2, z3, z4, z5, z6⟩ := hBz
      clear hg C1
      by_cases hms : ms = 0
      · subst hms
        have p0 : wz.drew.cell? ⟨wr.heap.size, 0, none⟩ = some (.int .i64 xh) := z0
        have p1 : wz.drew.cell? ⟨wr.heap.size, 1, none⟩ = some (.int .i64 xq) := z1
        have p2 : wz.drew.cell? ⟨wr.heap.size, 2, none⟩ = some (.int .i64 xd) := z2
        have p3 : wz.drew.cell? ⟨wr.heap.size, 3, none⟩ = some (.string xp) := z3
        have p4 : wz.drew.cell? ⟨wr.heap.size, 4, none⟩ = some (.string xb) := z4
        have p5 : wz.drew.cell? ⟨wr.heap.size, 5, none⟩ = some (.int .i64 xr) := z5
        have p6 : wz.drew.cell? ⟨wr.heap.size, 6, none⟩ = some (.int .i64 xs) := z6
        clear z0 z1 z2 z3 z4 z5 z6
        cases hpp : (xp.toList == pv.toList) with
        | false =>
          have hr : R = (17, (k : Int)) := by
            have := CH.out; simp only [if_true, hpp, Bool.false_eq_true, if_false] at this
            have h2 := HYES.out (by rw [this]; decide)
            rw [this] at h2; exact h2
          have HR := Lib.hid hr
          clear hr
          go_wp2_with fail
          refine Free.wp_region_free 16 [(5, .det (.string pv))] (fun w2 => Below w.heap.size w w2 ∧ w2.cell? ⟨wr.heap.size, 0, none⟩ = some (.int .i64 xh) ∧ w2.cell? ⟨wr.heap.size, 1, none⟩ = some (.int .i64 xq) ∧ w2.cell? ⟨wr.heap.size, 2, none⟩ = some (.int .i64 xd) ∧ w2.cell? ⟨wr.heap.size, 3, none⟩ = some (.string xp) ∧ w2.cell? ⟨wr.heap.size, 4, none⟩ = some (.string xb) ∧ w2.cell? ⟨wr.heap.size, 5, none⟩ = some (.int .i64 xr) ∧ w2.cell? ⟨wr.heap.size, 6, none⟩ = some (.int .i64 xs)) (by kernel_rfl) (by kernel_rfl) ?_ ⟨HBZ.out.drew, p0, p1, p2, p3, p4, p5, p6⟩ (fun _ _ h g => ⟨h.1.trans (Below.mono g h.1.size), grow_cell h.2.1 g, grow_cell h.2.2.1 g, grow_cell h.2.2.2.1 g, grow_cell h.2.2.2.2.1 g, grow_cell h.2.2.2.2.2.1 g, grow_cell h.2.2.2.2.2.2.1 g, grow_cell h.2.2.2.2.2.2.2 g⟩) ?_
          · intro j mk r hf
            simp only [Free.find] at hf
            repeat' split at hf
            all_goals (first | cases hf | skip)
          simp only [List.take_succ_cons, List.take_zero]
          clear p0 p1 p2 p3 p4 p5 p6
          iterate 5 (apply Free.chain_still (by first | exact Free.wanted_of rfl rfl rfl | rfl) rfl; (intro w' hB hA; obtain ⟨qT, q0, q1, q2, q3, q4, q5, q6⟩ := hB; clear hA  qT; go_light; go_simp <;> rfl); (try simp only [Act.put, List.setIfInBounds_toArray, List.set_cons_succ, List.set_cons_zero]))
          apply Free.chain_det rfl rfl
          · intro w' hB hA
            refine Free.opRun_call (f := 38) (args := #[.slice (some ⟨bb, off, none⟩) k c]) (by clear hB hA; go_simp <;> rfl) ?_
            refine (C2.out _ hB.1).mono ?_
            rintro e w3 ⟨rfl, hb3⟩
            exact ⟨_, rfl, hb3, rfl⟩
          simp only [Act.put, List.setIfInBounds_toArray, List.set_cons_succ, List.set_cons_zero]
          iterate 2 (apply Free.chain_still (by first | exact Free.wanted_of rfl rfl rfl | rfl) rfl; (intro w' hB hA; obtain ⟨qT, q0, q1, q2, q3, q4, q5, q6⟩ := hB; clear hA  qT; go_light; go_simp <;> rfl); (try simp only [Act.put, List.setIfInBounds_toArray, List.set_cons_succ, List.set_cons_zero]))
          iterate 7 (apply Free.chain_skip (by exact unwanted2 rfl rfl rfl rfl); simp only [Act.put, List.setIfInBounds_toArray, List.set_cons_succ, List.set_cons_zero])
          iterate 1 (apply Free.chain_still (by first | exact Free.wanted_of rfl rfl rfl | rfl) rfl; (intro w' hB hA; obtain ⟨qT, q0, q1, q2, q3, q4, q5, q6⟩ := hB; clear hA  qT; go_light; go_simp <;> rfl); (try simp only [Act.put, List.setIfInBounds_toArray, List.set_cons_succ, List.set_cons_zero]))
          apply Free.chain_nil
          intro wy hBz hg _
          simp only [List.drop_succ_cons, List.drop_zero]
          have HBY := Lib.hid hBz.1
          clear hBz hg C2 C3 C4
          go_wp2_with fail
          go_ret2
          exact ⟨by rw [HR.out]; rfl, HBY.out⟩
        | true =>
          cases vb with
          | true =>
            have hr : R = chkGo l house pub (l.length - (k + 1)) (k + 1) := HNO.out (by have := CH.out; simpa [hpp] using this)
            have HR := Lib.hid hr
            clear hr
            go_wp2_with fail
            refine Free.wp_region_free 16 [(5, .det (.string pv)), (10, .det (.string tx)), (13, .det (.bool true))] (fun w2 => Below w.heap.size w w2 ∧ w2.cell? ⟨wr.heap.size, 0, none⟩ = some (.int .i64 xh) ∧ w2.cell? ⟨wr.heap.size, 1, none⟩ = some (.int .i64 xq) ∧ w2.cell? ⟨wr.heap.size, 2, none⟩ = some (.int .i64 xd) ∧ w2.cell? ⟨wr.heap.size, 3, none⟩ = some (.string xp) ∧ w2.cell? ⟨wr.heap.size, 4, none⟩ = some (.string xb) ∧ w2.cell? ⟨wr.heap.size, 5, none⟩ = some (.int .i64 xr) ∧ w2.cell? ⟨wr.heap.size, 6, none⟩ = some (.int .i64 xs)) (by kernel_rfl) (by kernel_rfl) ?_ ⟨HBZ.out.drew, p0, p1, p2, p3, p4, p5, p6⟩ (fun _ _ h g => ⟨h.1.trans (Below.mono g h.1.size), grow_cell h.2.1 g, grow_cell h.2.2.1 g, grow_cell h.2.2.2.1 g, grow_cell h.2.2.2.2.1 g, grow_cell h.2.2.2.2.2.1 g, grow_cell h.2.2.2.2.2.2.1 g, grow_cell h.2.2.2.2.2.2.2 g⟩) ?_
            · intro j mk r hf
              simp only [Free.find] at hf
              repeat' split at hf
              all_goals (first | cases hf | skip)
            simp only [List.take_succ_cons, List.take_zero]
            clear p0 p1 p2 p3 p4 p5 p6
            iterate 5 (apply Free.chain_still (by first | exact Free.wanted_of rfl rfl rfl | rfl) rfl; (intro w' hB hA; obtain ⟨qT, q0, q1, q2, q3, q4, q5, q6⟩ := hB; clear hA  qT; go_light; go_simp <;> rfl); (try simp only [Act.put, List.setIfInBounds_toArray, List.set_cons_succ, List.set_cons_zero]))
            apply Free.chain_det rfl rfl
            · intro w' hB hA
              refine Free.opRun_call (f := 38) (args := #[.slice (some ⟨bb, off, none⟩) k c]) (by clear hB hA; go_simp <;> rfl) ?_
              refine (C2.out _ hB.1).mono ?_
              rintro e w3 ⟨rfl, hb3⟩
              exact ⟨_, rfl, hb3, rfl⟩
            simp only [Act.put, List.setIfInBounds_toArray, List.set_cons_succ, List.set_cons_zero]
            iterate 4 (apply Free.chain_still (by first | exact Free.wanted_of rfl rfl rfl | rfl) rfl; (intro w' hB hA; obtain ⟨qT, q0, q1, q2, q3, q4, q5, q6⟩ := hB; clear hA  qT; go_light; go_simp <;> rfl); (try simp only [Act.put, List.setIfInBounds_toArray, List.set_cons_succ, List.set_cons_zero]))
            apply Free.chain_det rfl rfl
            · intro w' hB hA
              refine Free.opRun_call (f := 19) (args := #[.agg (encE ⟨xh, xq, xd, xp, xb, xr, xs⟩).toArray]) (by clear hB hA; go_simp <;> rfl) ?_
              refine (C3.out _ hB.1).mono ?_
              rintro e w3 ⟨rfl, hb3⟩
              exact ⟨_, rfl, hb3, rfl⟩
            simp only [Act.put, List.setIfInBounds_toArray, List.set_cons_succ, List.set_cons_zero]
            iterate 2 (apply Free.chain_still (by first | exact Free.wanted_of rfl rfl rfl | rfl) rfl; (intro w' hB hA; obtain ⟨qT, q0, q1, q2, q3, q4, q5, q6⟩ := hB; clear hA  qT; go_light; go_simp <;> rfl); (try simp only [Act.put, List.setIfInBounds_toArray, List.set_cons_succ, List.set_cons_zero]))
            apply Free.chain_det rfl rfl
            · intro w' hB hA
              refine Free.opRun_call (f := 18) (args := #[.int .i64 pub, .string tx, .agg #[.int .i64 xr, .int .i64 xs]]) (by clear hB hA; go_simp <;> rfl) ?_
              refine (C4.out _ hB.1).mono ?_
              rintro e w3 ⟨rfl, hb3⟩
              exact ⟨_, rfl, hb3, rfl⟩
            simp only [Act.put, List.setIfInBounds_toArray, List.set_cons_succ, List.set_cons_zero]
            iterate 2 (apply Free.chain_still (by first | exact Free.wanted_of rfl rfl rfl | rfl) rfl; (intro w' hB hA; obtain ⟨qT, q0, q1, q2, q3, q4, q5, q6⟩ := hB; clear hA  qT; go_light; go_simp <;> rfl); (try simp only [Act.put, List.setIfInBounds_toArray, List.set_cons_succ, List.set_cons_zero]))
            apply Free.chain_nil
            intro wy hBz hg _
            simp only [List.drop_succ_cons, List.drop_zero]
            have HBY := Lib.hid hBz.1
            have key : RK w l house pub (.int .i64 ((k : Int) + 1)) wy := ⟨k + 1, hlt, by go_num, HBY.out, by rw [← ER.out]; exact HR.out⟩
            have KEY := Lib.hid key
            clear hBz hg C2 C3 C4 key
            go_wp2_with fail
            go_roundw
            case rel =>
              go_light
              have key := KEY.out
              first | exact key | ((repeat apply Exists.intro); exact ⟨key, rfl⟩)
            case measure => simp [intOf]; omega
          | false =>
            have hr : R = (17, (k : Int)) := by
              have h1 : chk1 l k ⟨xh, xq, xd, xp, xb, xr, xs⟩ house pub = 17 := by have := CH.out; simpa [hpp] using this
              have h2 := HYES.out (by rw [h1]; decide)
              rw [h1] at h2; exact h2
            have HR := Lib.hid hr
            clear hr
            go_wp2_with fail
            refine Free.wp_region_free 16 [(5, .det (.string pv)), (10, .det (.string tx)), (13, .det (.bool false))] (fun w2 => Below w.heap.size w w2 ∧ w2.cell? ⟨wr.heap.size, 0, none⟩ = some (.int .i64 xh) ∧ w2.cell? ⟨wr.heap.size, 1, none⟩ = some (.int .i64 xq) ∧ w2.cell? ⟨wr.heap.size, 2, none⟩ = some (.int .i64 xd) ∧ w2.cell? ⟨wr.heap.size, 3, none⟩ = some (.string xp) ∧ w2.cell? ⟨wr.heap.size, 4, none⟩ = some (.string xb) ∧ w2.cell? ⟨wr.heap.size, 5, none⟩ = some (.int .i64 xr) ∧ w2.cell? ⟨wr.heap.size, 6, none⟩ = some (.int .i64 xs)) (by kernel_rfl) (by kernel_rfl) ?_ ⟨HBZ.out.drew, p0, p1, p2, p3, p4, p5, p6⟩ (fun _ _ h g => ⟨h.1.trans (Below.mono g h.1.size), grow_cell h.2.1 g, grow_cell h.2.2.1 g, grow_cell h.2.2.2.1 g, grow_cell h.2.2.2.2.1 g, grow_cell h.2.2.2.2.2.1 g, grow_cell h.2.2.2.2.2.2.1 g, grow_cell h.2.2.2.2.2.2.2 g⟩) ?_
            · intro j mk r hf
              simp only [Free.find] at hf
              repeat' split at hf
              all_goals (first | cases hf | skip)
            simp only [List.take_succ_cons, List.take_zero]
            clear p0 p1 p2 p3 p4 p5 p6
            iterate 5 (apply Free.chain_still (by first | exact Free.wanted_of rfl rfl rfl | rfl) rfl; (intro w' hB hA; obtain ⟨qT, q0, q1, q2, q3, q4, q5, q6⟩ := hB; clear hA  qT; go_light; go_simp <;> rfl); (try simp only [Act.put, List.setIfInBounds_toArray, List.set_cons_succ, List.set_cons_zero]))
            apply Free.chain_det rfl rfl
            · intro w' hB hA
              refine Free.opRun_call (f := 38) (args := #[.slice (some ⟨bb, off, none⟩) k c]) (by clear hB hA; go_simp <;> rfl) ?_
              refine (C2.out _ hB.1).mono ?_
              rintro e w3 ⟨rfl, hb3⟩
              exact ⟨_, rfl, hb3, rfl⟩
            simp only [Act.put, List.setIfInBounds_toArray, List.set_cons_succ, List.set_cons_zero]
            iterate 4 (apply Free.chain_still (by first | exact Free.wanted_of rfl rfl rfl | rfl) rfl; (intro w' hB hA; obtain ⟨qT, q0, q1, q2, q3, q4, q5, q6⟩ := hB; clear hA  qT; go_light; go_simp <;> rfl); (try simp only [Act.put, List.setIfInBounds_toArray, List.set_cons_succ, List.set_cons_zero]))
            apply Free.chain_det rfl rfl
            · intro w' hB hA
              refine Free.opRun_call (f := 19) (args := #[.agg (encE ⟨xh, xq, xd, xp, xb, xr, xs⟩).toArray]) (by clear hB hA; go_simp <;> rfl) ?_
              refine (C3.out _ hB.1).mono ?_
              rintro e w3 ⟨rfl, hb3⟩
              exact ⟨_, rfl, hb3, rfl⟩
            simp only [Act.put, List.setIfInBounds_toArray, List.set_cons_succ, List.set_cons_zero]
            iterate 2 (apply Free.chain_still (by first | exact Free.wanted_of rfl rfl rfl | rfl) rfl; (intro w' hB hA; obtain ⟨qT, q0, q1, q2, q3, q4, q5, q6⟩ := hB; clear hA  qT; go_light; go_simp <;> rfl); (try simp only [Act.put, List.setIfInBounds_toArray, List.set_cons_succ, List.set_cons_zero]))
            apply Free.chain_det rfl rfl
            · intro w' hB hA
              refine Free.opRun_call (f := 18) (args := #[.int .i64 pub, .string tx, .agg #[.int .i64 xr, .int .i64 xs]]) (by clear hB hA; go_simp <;> rfl) ?_
              refine (C4.out _ hB.1).mono ?_
              rintro e w3 ⟨rfl, hb3⟩
              exact ⟨_, rfl, hb3, rfl⟩
            simp only [Act.put, List.setIfInBounds_toArray, List.set_cons_succ, List.set_cons_zero]
            iterate 2 (apply Free.chain_still (by first | exact Free.wanted_of rfl rfl rfl | rfl) rfl; (intro w' hB hA; obtain ⟨qT, q0, q1, q2, q3, q4, q5, q6⟩ := hB; clear hA  qT; go_light; go_simp <;> rfl); (try simp only [Act.put, List.setIfInBounds_toArray, List.set_cons_succ, List.set_cons_zero]))
            apply Free.chain_nil
            intro wy hBz hg _
            simp only [List.drop_succ_cons, List.drop_zero]
            have HBY := Lib.hid hBz.1
            clear hBz hg C2 C3 C4
            go_wp2_with fail
            go_ret2
            exact ⟨by rw [HR.out]; rfl, HBY.out⟩
      · have hr : R = (ms, (k : Int)) := by
          have h1 := CH.out
          rw [if_neg hms] at h1
          have h2 := HYES.out (by rw [h1]; exact hms)
          rw [h1] at h2; exact h2
        have HR := Lib.hid hr
        have hmb : (ms != 0) = true := by simp [hms]
        clear hr
        go_wp2_with fail
        go_ret2
        exact ⟨by rw [HR.out]; rfl, HBZ.out⟩
    · obtain rfl : k = l.length := by omega
      have hm : R = (0, -1) := by rw [hR, Nat.sub_self]; rfl
      have HM := Lib.hid hm
      have HB := Lib.hid hb
      clear hm hb hR
      go_wp2_with fail
      go_ret2
      exact ⟨by rw [HM.out]; rfl, HB.out⟩
end Go.Proofs.YtaaenobckipfkaaDoor
