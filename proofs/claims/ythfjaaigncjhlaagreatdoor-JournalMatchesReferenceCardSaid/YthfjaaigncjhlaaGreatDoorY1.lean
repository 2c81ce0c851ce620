/- An append to a new empty list of texts; reading of lists as texts. No condition. A journal whose disk is turned off, on, or armed. No condition. A journal's operation on an armed disk, plain: what is found afterwards. No condition. The reference's Room; law 45's fill. Condition: the slice reads as a list. A journal that may be none, on a disk: what each operation makes of both, plain. No condition. The reference's disk (layer 44) in memory; its sectors, plain. No condition. The reference's disk: zero, Start, Arm, settle, Read. Condition: the disk lies in memory. The reference's disk: Fail, count, Sync. Condition: the disk lies in memory. The reference's disk: Write, New. Condition: the disk lies in memory. A journal that may be none, in memory, with all that it may write to. No condition. -/
import Derived.Test.YthfjaaigncjhlaaGreatDoorZ45C
namespace Go.Proofs.YthfjaaigncjhlaaGreatDoor
open Go.RowKit Go.Blk Go.Jn Go.Dk Go.Mp Go.Rf Go.Shelf Go.Apl Go.Opn

theorem flat_one (l : List ByteArray) : l.flatMap encS = l.map Value.string := by
  induction l with
  | nil => rfl
  | cons a r ih => rw [List.flatMap_cons, List.map_cons, ih]; rfl
theorem recsOf_map (l : List (List UInt8)) : recsOf (l.map tx) = l := by
  unfold recsOf
  rw [List.map_map]
  exact (List.map_congr_left (fun x _ => show (tx x).data.toList = x by simp [tx])).trans (List.map_id l)
theorem pair_ex (g c : Nat) (h : c ≤ 9223372036854775807) : ∃ y, fstN y = g ∧ sndN y = c := ⟨pairN g c, fst_pair (by omega), snd_pair (by omega)⟩
theorem rowB {w w' : World} {B e s n : Nat} {v : Value} {xs : List Value} (h : w.ownsRow B e s v n xs) (hb : Below w.heap.size w w') : w'.ownsRow B e s v n xs :=
  row_keep h fun k hk => hb.block k (World.ownsRow.lt h k hk).2
theorem append_newJ (w : World) (ty : TypeId) (base b0 : Nat) (hb0 : w.heap[b0]? = some (.cells #[] 9 (0, 0))) (hbase : base ≤ b0) (A : Option Addr) (c n : Nat) (l : List ByteArray) (hn : n = l.length) (hs : SL w 1 encS A l) (hl : l.length ≤ 1000000) :
    ∃ g cap w', (Builtin.append_ #[30, 30] ty #[.slice (some ⟨b0, 0, none⟩) 0 0, .slice A n c]).run Tryz.prog w = .ok (.slice (some ⟨g, 0, none⟩) n cap) w' ∧ w'.ownsRow base 9 1 (.slice (some ⟨g, 0, none⟩) n cap) n (l.flatMap encS) ∧ Free.Grow w w' ∧ cap ≤ 9223372036854775807 := by
  subst hn
  obtain ⟨i0, hi, hz0, hz1, hz2⟩ := info_parts infoStr
  have hlt : b0 < w.heap.size := (Array.getElem?_eq_some_iff.1 hb0).1
  by_cases h0 : l = []
  · subst h0
    obtain ⟨w', hr, hg, hh⟩ := append_list (P := Tryz.prog) (ec := encS) w 30 ty 9 i0 Tryz.underlying30 hi hz1 encSlen encSone b0 0 0 #[] hb0 A c [] hs (Nat.le_refl _) rfl
    have hh : w'.heap[b0]? = some (.cells #[] 9 (0, 0)) := hh
    refine ⟨b0, 0, w', hr, ⟨rfl, .inr ⟨b0, 0, #[], rfl, hbase, hh, Nat.le_refl _, Nat.zero_le _, rfl, rfl⟩⟩, ⟨hg.os, hg.tape, hg.output, hg.size, fun k hk => ?_⟩, Nat.zero_le _⟩
    by_cases e : k = b0
    · subst e; rw [hh, hb0]
    · exact hg.block k hk (by simpa using e)
  · obtain ⟨b, off, rfl, _⟩ := hs.cells h0
    have hpos : 0 < l.length := List.length_pos_iff.2 h0
    have hown : w.ownsRow base 9 1 (.slice (some ⟨b0, 0, none⟩) 0 0) 0 [] := ⟨rfl, .inr ⟨b0, 0, #[], rfl, hbase, hb0, Nat.le_refl _, Nat.zero_le _, rfl, rfl⟩⟩
    obtain ⟨cap, w', hr, hrow, hg⟩ := Apk.append_grows (P := Tryz.prog) w base 30 ty 9 i0 _ 1 16 Tryz.underlying30 hi hz0 hz1 hz2 rfl (by decide) _ 0 [] hown ⟨b, off, none⟩ l.length c (l.flatMap encS) (flat_len encSlen l) (sl_flat encSlen hs) (fun u hu => by
      obtain ⟨x, _, hx⟩ := List.mem_flatMap.1 hu
      exact encSone x u hx) (by have : maxLen = 9223372036854775807 := rfl; omega) (by omega) (by omega) hpos (fun g cap e => by cases e; omega)
    rw [Nat.zero_add] at hr hrow
    refine ⟨w.heap.size, cap, w', hr, hrow, ⟨hg.os, hg.tape, hg.output, hg.size, fun k hk => hg.block k hk (by simp)⟩, ?_⟩
    rcases hrow.2 with ⟨e, _⟩ | ⟨g, cp, cur, e, _, _, _, h5, _⟩
    · cases e
    · cases e; exact h5
end Go.Proofs.YthfjaaigncjhlaaGreatDoor

namespace Go.Jn
open Go Go.Dk
theorem fail_off {d : DD} (h : d.on = true) (x y : Int) : (d.fail x y).on = false ∧ (d.fail x y).pend = [] := by
  unfold DD.fail
  rw [if_pos h]
  exact ⟨rfl, rfl⟩
theorem compact_off {n : Nat} {s : JS} (hb : s.broken = false) (hoff : s.d.on = false) (hnum : s.v.1 ≠ 999999999) : s.compact n [] = ({ s with broken := true }, 21) := by
  have e1 : framesL [] = [] := rfl
  have hw : ∀ (k : Int) (t : List UInt8), DD.write n s.d k t = (s.d, 21) := fun k t => by
    unfold DD.write
    rw [if_neg (by rw [hoff]; decide)]
  have hp : ∀ (k : Nat) (t : List UInt8), putD n k t s.d = (s.d, 21) := fun k t => by
    unfold putD
    rw [hw, if_neg (show ¬ ((21 : Int) = 0) by decide)]
  have e : changeD n s.a s.v.1 (1 - s.v.2.1) 0 (framesL []) s.d = (s.d, 21) := by
    unfold changeD storeD
    rw [e1, if_pos rfl, if_pos rfl]
    unfold commitD
    rw [hp, if_neg (show ¬ ((21 : Int) = 0) by decide)]
  unfold JS.compact
  rw [if_neg (by rw [hb]; decide), if_neg (by rintro ⟨b, h, _⟩; cases h), if_neg (by show ¬ (32 * ((n - 2) / 2) < 0 ∨ _); omega), e, if_neg (show ¬ ((21 : Int) = 0) by decide)]
theorem broken_append {n : Nat} {s : JS} (hb : s.broken = true) (b : List UInt8) : s.append n b = (s, 13) := by
  unfold JS.append
  rw [if_pos hb]
theorem broken_compact {n : Nat} {s : JS} (hb : s.broken = true) (l : List (List UInt8)) : s.compact n l = (s, 13) := by
  unfold JS.compact
  rw [if_pos hb]
theorem open_off {n : Nat} {d : DD} (h : d.on = false) : openD n d = (21, none) := by
  unfold openD
  rw [if_pos h]
end Go.Jn
namespace Go.Proofs.YthfjaaigncjhlaaGreatDoor
open Go.RowKit Go.Blk Go.Jn Go.Dk Go.Mp Go.Rf Go.Shelf Go.Apl Go.Opn

section
variable {we w w' : World} {jb b bs bm n : Nat} {pv rv : Value} {s : JS} {d : DD}
/-- What an operation on the journal's disk leaves. -/
theorem PI.disk {v : Value} {e : Ending} (h : PI we w jb b bs bm n pv rv s) (p : DkPost w b bs bm n pv d v e w') :
    e = .returned v ∧ ∃ bm' pv', PI we w' jb b bs bm' n pv' rv { s with d := d } ∧ Keep (JFp jb b bs bm pv rv) w w' ∧ (∀ k, JFp jb b bs bm' pv' rv k → JFp jb b bs bm pv rv k ∨ w.heap.size ≤ k) := by
  obtain ⟨h1, bm', pv', hd, hk, hb, hv⟩ := p
  have hs := h.e.bl.size
  have hf : ∀ k, JFp jb b bs bm' pv' rv k → JFp jb b bs bm pv rv k ∨ w.heap.size ≤ k := by
    rintro k (rfl | e | rfl | rfl | rfl | e)
    · exact .inl (.inl rfl)
    · exact .inl (.inr (.inl e))
    · exact .inl (.inr (.inr (.inl rfl)))
    · exact .inl (.inr (.inr (.inr (.inl rfl))))
    · rcases hb with rfl | hb
      · exact .inl (.inr (.inr (.inr (.inr (.inl rfl)))))
      · exact .inr hb
    · exact (hv k e).imp (fun h => .inr (.inr (.inr (.inr (.inr h))))) id
  have hf2 : ∀ k, JFp jb b bs bm' pv' rv k → we.heap.size ≤ k := fun k hk => (hf k hk).elim (fun h' => h.fp h') (fun h' => by omega)
  refine ⟨h1, bm', pv', ⟨⟨h.j.n4, hd, ?_, ?_, h.j.num, h.j.hf, h.j.len, h.j.at_⟩, ⟨h.e.t, h.e.bl.trans (hk.below (fun k hk => h.e.f k hk) hs), fun k hk => hf2 k (.inr (.inr hk))⟩, h.jb, h.rv⟩, hk.mono (fun k _ f => .inr (.inr f)), hf⟩
  · exact h.j.blk.keepB (hk.block jb h.j.blk.lt (notFp h.j.disk h.j.blk (by decide) (by decide) (by decide)))
  · exact h.j.row.keep (fun k e => hk.block k (World.ownsRow.lt h.j.row k e).2 (row_notFp h.j.disk h.j.row (by decide) (by decide) (by decide) e))
theorem dk_start (h : DiskAt w b bs bm pv d n) : Calls Tryz.prog 19 #[.pointer (some ⟨b, 0, none⟩)] w (DkPost w b bs bm n pv d.start (.tuple #[])) :=
  (start_any h).mono fun _ _ p => ⟨p.1, bm, pv, p.2.1, p.2.2, .inl rfl, fun _ h => .inl h⟩
theorem dk_arm (h : DiskAt w b bs bm pv d n) (x y z : Int) (hx0 : -9223372036854775808 ≤ x) (hx1 : x ≤ 9223372036854775807) (hy0 : -9223372036854775808 ≤ y) (hy1 : y ≤ 9223372036854775807) (hz0 : -9223372036854775808 ≤ z) (hz1 : z ≤ 9223372036854775807) :
    Calls Tryz.prog 21 #[.pointer (some ⟨b, 0, none⟩), .int .i64 x, .int .i64 y, .int .i64 z] w (DkPost w b bs bm n pv (d.arm x y z) (.tuple #[])) :=
  (arm_any h x y z hx0 hx1 hy0 hy1 hz0 hz1).mono fun _ _ p => ⟨p.1, bm, pv, p.2.1, p.2.2, .inl rfl, fun _ h => .inl h⟩
end
end Go.Proofs.YthfjaaigncjhlaaGreatDoor

namespace Go.Jn
open Go Go.Dk
/-- A sound journal, m operations old, that a failure leaves sound. -/
structure JFirm (n : Nat) (s : JS) (m : Nat) : Prop where
  good : JGood n s m
  firm : Firm n s.d.st s.v s.a
theorem JFirm.new {n : Nat} (hn : 4 ≤ n) (h2 : n ≤ 4000) : JFirm n ⟨DD.new n, (0, 0, 0), 0, [], false⟩ 0 := ⟨JGood.new hn h2, (new_found hn).2⟩
theorem arm_ok {n : Nat} {d : DD} (h : d.Ok n) {x y z : Int} (hx0 : -9223372036854775808 ≤ x) (hx1 : x ≤ 9223372036854775807) (hy0 : -9223372036854775808 ≤ y) (hy1 : y ≤ 9223372036854775807) (hz0 : -9223372036854775808 ≤ z) (hz1 : z ≤ 9223372036854775807) : (d.arm x y z).Ok n := by
  unfold DD.arm
  split
  · exact ⟨h.len, h.sec, h.few, hx0, hx1, hy0, hy1, hz0, hz1, h.n1, h.n2⟩
  · exact h
/-- A disk that is on again, and not armed. -/
theorem firm_again {n : Nat} {d : DD} {v : Nat × Nat × Nat} {a m : Nat} {r : List (List UInt8)} (hn : 4 ≤ n) (hok : d.Ok n) (hon : d.on = true) (hp : d.pend = []) (hf : Found n d.st v a r) (hfi : Firm n d.st v a) (hm : v.1 ≤ m) :
    openD n (d.arm (-1) 0 0) = (0, some (v, a, r)) ∧ JFirm n ⟨d.arm (-1) 0 0, v, a, r, false⟩ m := by
  have hk := arm_ok (x := -1) (y := 0) (z := 0) hok (by decide) (by decide) (by decide) (by decide) (by decide) (by decide)
  obtain ⟨d2, e2⟩ : ∃ d2, d2 = d.arm (-1) 0 0 := ⟨_, rfl⟩
  have h1 : d2.on = true ∧ d2.pend = [] ∧ d2.armed = false ∧ d2.st = d.st := by
    rw [e2]; unfold DD.arm; rw [if_pos hon]; exact ⟨hon, hp, (show decide ((0 : Int) ≤ -1) = false by decide), rfl⟩
  rw [← e2] at hk ⊢
  obtain ⟨h1, h2, h3, h4⟩ := h1
  rw [← h4] at hf hfi
  exact ⟨open_found h1 hn (by rw [eff_nil h2]; exact hf), ⟨hk, h1, h2, h3, rfl, hf, hm⟩, hfi⟩
/-- What is found behind an operation on an armed disk. -/
def Atom (n : Nat) (s : JS) (m : Nat) (r : JS × Int) (aft : List (List UInt8)) : Prop :=
  ∀ d2, ((r.2 = 21 ∧ d2 = (r.1.d.start).arm (-1) 0 0) ∨ (r.2 ≠ 21 ∧ d2 = r.1.d.arm (-1) 0 0)) →
    ∃ v a rec, openD n d2 = (0, some (v, a, rec)) ∧ JFirm n ⟨d2, v, a, rec, false⟩ (m + 1) ∧ (rec = s.recs ∨ rec = aft) ∧ (r.2 = 0 → rec = aft) ∧ (r.2 ≠ 0 → r.2 ≠ 21 → rec = s.recs)
theorem atom_err {n : Nat} {s s1 : JS} {m : Nat} {c : Int} {aft : List (List UInt8)} (hn : 4 ≤ n) (h : JFirm n s m) (hs : s1.d.st = s.d.st) (hok : s1.d.Ok n) (hon : s1.d.on = true) (hp : s1.d.pend = []) (hc : c ≠ 0) (hc2 : c ≠ 21) : Atom n s m (s1, c) aft := by
  rintro d2 (⟨e, _⟩ | ⟨_, rfl⟩)
  · exact absurd e hc2
  · have := firm_again (m := m + 1) hn hok hon hp (by rw [hs]; exact h.good.found) (by rw [hs]; exact h.firm) (by have := h.good.num; omega)
    exact ⟨_, _, _, this.1, this.2, .inl rfl, fun e => absurd e hc, fun _ _ => rfl⟩
theorem atom_changed {n : Nat} {s s1 : JS} {m : Nat} {w : Nat × Nat × Nat} {q : DD × Int} {aft : List (List UInt8)} (hn : 4 ≤ n) (h : JFirm n s m) (hs : s1.d.st = s.d.st) (hw : w.1 = s.v.1 + 1)
    (hq : Changed n s1.d s.v s.a s.recs w aft q) : Atom n s m (if q.2 = 0 then (⟨q.1, w, 1 - s.a, aft, false⟩, 0) else ({ s1 with d := q.1, broken := true }, q.2)) aft := by
  have hnum := h.good.num
  obtain ⟨k1, ⟨k2, k3, k4, _, k6, k7⟩ | ⟨k2, _, k4, k5, k6⟩⟩ := hq
  · rw [if_pos k2]
    rintro d2 (⟨e, _⟩ | ⟨_, rfl⟩)
    · cases e
    · have := firm_again (m := m + 1) hn k1 k3 k4 k6 k7 (by omega)
      exact ⟨_, _, _, this.1, this.2, .inr rfl, fun _ => rfl, fun e => absurd rfl e⟩
  · rw [k2, if_neg (show ¬ ((21 : Int) = 0) by decide)]
    rintro d2 (⟨_, rfl⟩ | ⟨e, _⟩)
    · rcases k6 (by rw [hs]; exact h.firm) with ⟨f1, f2⟩ | ⟨f1, f2⟩
      · have := firm_again (d := q.1.start) (m := m + 1) hn k1.start rfl k5 f1 f2 (by omega)
        exact ⟨_, _, _, this.1, this.2, .inl rfl, fun e => absurd e (show ¬ ((21 : Int) = 0) by decide), fun _ e => absurd rfl e⟩
      · have := firm_again (d := q.1.start) (m := m + 1) hn k1.start rfl k5 f1 f2 (by omega)
        exact ⟨_, _, _, this.1, this.2, .inr rfl, fun e => absurd e (show ¬ ((21 : Int) = 0) by decide), fun _ e => absurd rfl e⟩
    · exact absurd rfl e
section
variable {n : Nat} {s s1 : JS} {m : Nat} {d1 : DD}
theorem atom_append (hn : 4 ≤ n) (h : JFirm n s m) (hm : m < 999999999) (hs : d1.st = s.d.st) (hok : d1.Ok n) (hon : d1.on = true) (hp : d1.pend = []) (b : List UInt8) : Atom n s m (JS.append n { s with d := d1 } b) (s.recs ++ [b]) := by
  have hbr := h.good.brk
  have hnum := h.good.num
  unfold JS.append
  dsimp only
  rw [if_neg (by rw [hbr]; decide)]
  split
  · exact atom_err hn h hs hok hon hp (by decide) (by decide)
  · split
    · exact atom_err hn h hs hok hon hp (by decide) (by decide)
    · have sp := append_spec (b := b) hok hon hp hn (by rw [hs]; exact h.good.found) (by omega) (by omega) (by omega)
      exact atom_changed (s1 := { s with d := d1 }) hn h hs rfl sp
theorem atom_compact (hn : 4 ≤ n) (h : JFirm n s m) (hm : m < 999999999) (hs : d1.st = s.d.st) (hok : d1.Ok n) (hon : d1.on = true) (hp : d1.pend = []) (l : List (List UInt8)) : Atom n s m (JS.compact n { s with d := d1 } l) l := by
  have hbr := h.good.brk
  have hnum := h.good.num
  unfold JS.compact
  dsimp only
  rw [if_neg (by rw [hbr]; decide)]
  split
  · exact atom_err hn h hs hok hon hp (by decide) (by decide)
  · rename_i hb
    split
    · exact atom_err hn h hs hok hon hp (by decide) (by decide)
    · have sp := compact_spec (l := l) hok hon hp hn (by rw [hs]; exact h.good.found) (by omega) (fun b hm => Nat.le_of_not_lt fun hc => hb ⟨b, hm, hc⟩) (by omega)
      rw [Nat.zero_add] at sp
      exact atom_changed (s1 := { s with d := d1 }) hn h hs rfl sp
end
end Go.Jn

namespace Go.Proofs.YthfjaaigncjhlaaGreatDoor
open Go.RowKit Go.Blk Go.Jn Go.Dk Go.Mp Go.Rf Go.Shelf Go.Apl Go.Opn

/-- A text of 32 bytes, begun by another. -/
def fillB (t : ByteArray) : ByteArray := tx (t.data.toList ++ List.replicate (32 - t.size) 0 |>.take 32)
theorem fillB_size (t : ByteArray) : (fillB t).size = 32 := by
  unfold fillB
  rw [tx_size, List.length_take, List.length_append, List.length_replicate]
  have : t.data.toList.length = t.size := by simp
  omega
def RFl (t : ByteArray) (v : Value) : Prop := ∃ k : Nat, k ≤ 32 - t.size ∧ v = .string (tx (t.data.toList ++ List.replicate k 0))
def strLen (v : Value) : Nat := match v with | .string s => s.size | _ => 0
set_option maxRecDepth 100000 in
set_option maxHeartbeats 400000 in
theorem fill_any (t : ByteArray) (w : World) (ht : t.size ≤ 9223372036854775807) :
    Calls Tryz.prog 24 #[.string t] w fun e w' => e = .returned (.string (fillB t)) ∧ w = w' := by
  have HST : Hid (RFl t (.string t)) := ⟨0, Nat.zero_le _, by rw [List.replicate_zero, List.append_nil, tx_of]⟩
  go_enter Tryz.func24, Tryz.ntmps24
  go_wp2_with fail
  go_loop [0] (fun v => RFl t v) (fun v => 32 - strLen v)
  case atStart => exact HST.out
  case round =>
    clear HST
    obtain ⟨k, hk, rfl⟩ := hrel
    obtain ⟨x, ex⟩ : ∃ x, x = tx (t.data.toList ++ List.replicate k 0) := ⟨_, rfl⟩
    have hxs : x.size = t.size + k := by rw [ex, tx_size, List.length_append, List.length_replicate]; simp
    have EX := Lib.hid ex
    rw [← ex]
    clear ex
    by_cases h32 : x.size < 32
    · have hd : decide ((x.size : Int) < 32) = true := decide_eq_true (by omega)
      go_wp2_with fail
      refine ⟨⟨k + 1, by omega, ?_⟩, ?_⟩
      · rw [EX.out]
        congr 1
        apply ByteArray.ext
        rw [List.replicate_succ']
        simp [tx, ByteArray.data_append]
      · have : (x ++ (⟨#[0]⟩ : ByteArray)).size = x.size + 1 := by rw [ByteArray.size_append]; rfl
        unfold strLen
        simp only
        omega
    · have hd : decide ((x.size : Int) < 32) = false := decide_eq_false (by omega)
      have hle : 32 ≤ x.size := by omega
      go_wp2_with fail
      go_ret
      refine ⟨?_, rfl⟩
      have hk2 : k = 32 - t.size := by omega
      have hx : x.extract 0 32 = fillB t := by
        rw [EX.out, hk2]
        apply ByteArray.ext
        unfold fillB
        simp [tx]
      show Ending.returned (.string (x.extract 0 32)) = _
      rw [hx]
end Go.Proofs.YthfjaaigncjhlaaGreatDoor

namespace Go.Jn
open Go Go.Dk
def apO (n : Nat) (d : DD) (o : Option JS) (t : List UInt8) : DD × Option JS × Int := match o with
  | none => (d, none, 1)
  | some s => ((s.append n t).1.d, some (s.append n t).1, (s.append n t).2)
def cmO (n : Nat) (d : DD) (o : Option JS) (l : List (List UInt8)) : DD × Option JS × Int := match o with
  | none => (d, none, 1)
  | some s => ((s.compact n l).1.d, some (s.compact n l).1, (s.compact n l).2)
def opO (n : Nat) (d : DD) : Option JS × Int × List (List UInt8) := match openD n d with
  | (c, none) => (none, c, [])
  | (_, some (v, a, r)) => (some ⟨d, v, a, r, false⟩, 0, r)
def recO (o : Option JS) : List (List UInt8) := match o with
  | none => []
  | some s => s.recs
def toO (o : Option JS) (d : DD) : Option JS := o.map (fun s => { s with d := d })
structure Inv (n : Nat) (d : DD) (o : Option JS) : Prop where
  ok : d.Ok n
  pend : d.pend = []
  js : ∀ s, o = some s → s.d = d ∧ 4 ≤ n ∧ (s.broken = false → d.on = true ∧ Found n d.st s.v s.a s.recs) ∧ roomL s.recs ≤ 64000
theorem Inv.few {n : Nat} {d : DD} {o : Option JS} (h : Inv n d o) : (recO o).length ≤ 16000 := by
  cases o with
  | none => exact Nat.zero_le _
  | some s =>
    have h1 := (h.js s rfl).2.2.2
    have h2 := roomL_ge' s.recs
    show s.recs.length ≤ _
    omega
where roomL_ge' : ∀ l : List (List UInt8), 4 * l.length ≤ roomL l
  | [] => Nat.zero_le _
  | b :: l => by
    have := roomL_ge' l
    show 4 * (l.length + 1) ≤ 4 + b.length + roomL l
    omega
theorem inv_open {n : Nat} {d : DD} (hok : d.Ok n) (hp : d.pend = []) : Inv n d (opO n d).1 := by
  refine ⟨hok, hp, fun s hs => ?_⟩
  unfold opO at hs
  split at hs
  · cases hs
  · rename_i v a r ho
    cases hs
    have hf := found_open ho
    obtain ⟨_, hon, hn, hfd⟩ := hf
    have hl := (found_len (eff_len hok) hfd).1
    have hr := (pres_range hfd.pres).2
    rw [eff_nil hp] at hfd
    have hn2 := hok.n2
    exact ⟨rfl, hn, fun _ => ⟨hon, hfd⟩, by show roomL r ≤ _; omega⟩
theorem inv_changed {n : Nat} {d : DD} {s : JS} {w : Nat × Nat × Nat} {recs' : List (List UInt8)} {r : DD × Int} (h : Inv n d (some s)) (hn : 4 ≤ n)
    (hq : Changed n d s.v s.a s.recs w recs' r) : Inv n (if r.2 = 0 then r.1 else r.1) (some (if r.2 = 0 then ⟨r.1, w, 1 - s.a, recs', false⟩ else { s with d := r.1, broken := true })) := by
  obtain ⟨k1, ⟨k2, k3, k4, _, k6, _⟩ | ⟨k2, _, _, k5, _⟩⟩ := hq
  · rw [if_pos k2, if_pos k2]
    refine ⟨k1, k4, fun s' hs => ?_⟩
    cases hs
    have hl := (found_len k1.len k6).1
    have hr := (pres_range k6.pres).2
    have hn2 := k1.n2
    exact ⟨rfl, hn, fun _ => ⟨k3, k6⟩, by show roomL recs' ≤ _; omega⟩
  · have hne : ¬ r.2 = 0 := by rw [k2]; decide
    rw [if_neg hne, if_neg hne]
    refine ⟨k1, k5, fun s' hs => ?_⟩
    cases hs
    exact ⟨rfl, hn, fun hb => (by cases hb), (h.js s rfl).2.2.2⟩
theorem inv_app {n : Nat} {d : DD} {o : Option JS} (h : Inv n d o) (b : List UInt8) : Inv n (apO n d o b).1 (apO n d o b).2.1 := by
  cases o with
  | none => exact h
  | some s =>
    obtain ⟨hd, hn, hf, hr⟩ := h.js s rfl
    show Inv n (s.append n b).1.d (some (s.append n b).1)
    have same : ∀ c : Int, Inv n ((s, c) : JS × Int).1.d (some ((s, c) : JS × Int).1) := fun c => by
      show Inv n s.d (some s)
      rw [hd]; exact h
    unfold JS.append
    split
    · exact same _
    · rename_i hb
      split
      · exact same _
      · rename_i h2
        split
        · exact same _
        · rename_i h3
          have hbf : s.broken = false := by simpa using hb
          obtain ⟨hon, hfd⟩ := hf hbf
          have hnum := pres_num' hfd.pres
          have sp := append_spec (b := b) h.ok hon h.pend hn hfd (by omega) (by omega) (by omega)
          rw [hd]
          have := inv_changed h hn sp
          split
          · rename_i hc
            rw [if_pos hc, if_pos hc] at this; exact this
          · rename_i hc
            rw [if_neg hc, if_neg hc] at this; exact this
where pres_num' {a b : List UInt8} {room : Nat} {v : Nat × Nat × Nat} {at_ : Nat} (h : presV a b room = some (v, at_)) : v.1 ≤ 999999999 := pres_num h
theorem inv_cmp {n : Nat} {d : DD} {o : Option JS} (h : Inv n d o) (l : List (List UInt8)) : Inv n (cmO n d o l).1 (cmO n d o l).2.1 := by
  cases o with
  | none => exact h
  | some s =>
    obtain ⟨hd, hn, hf, hr⟩ := h.js s rfl
    show Inv n (s.compact n l).1.d (some (s.compact n l).1)
    have same : ∀ c : Int, Inv n ((s, c) : JS × Int).1.d (some ((s, c) : JS × Int).1) := fun c => by
      show Inv n s.d (some s)
      rw [hd]; exact h
    unfold JS.compact
    split
    · exact same _
    · rename_i hb
      split
      · exact same _
      · rename_i h2
        split
        · exact same _
        · rename_i h3
          have hbf : s.broken = false := by simpa using hb
          obtain ⟨hon, hfd⟩ := hf hbf
          have hnum := pres_num hfd.pres
          have sp := compact_spec (l := l) h.ok hon h.pend hn hfd (by omega) (fun b hm => Nat.le_of_not_lt fun hc => h2 ⟨b, hm, hc⟩) (by omega)
          rw [Nat.zero_add] at sp
          rw [hd]
          have := inv_changed h hn sp
          split
          · rename_i hc
            rw [if_pos hc, if_pos hc] at this; exact this
          · rename_i hc
            rw [if_neg hc, if_neg hc] at this; exact this
theorem inv_arm {n : Nat} {d : DD} {o : Option JS} (h : Inv n d o) {x y z : Int} (hok : (d.arm x y z).Ok n) : Inv n (d.arm x y z) (toO o (d.arm x y z)) := by
  have h1 : (d.arm x y z).pend = d.pend ∧ (d.arm x y z).on = d.on ∧ (d.arm x y z).st = d.st := by unfold DD.arm; split <;> exact ⟨rfl, rfl, rfl⟩
  obtain ⟨a1, a2, a3⟩ := h1
  refine ⟨hok, by rw [a1]; exact h.pend, fun s hs => ?_⟩
  cases o with
  | none => cases hs
  | some s0 =>
    cases hs
    obtain ⟨_, hn, hf, hr⟩ := h.js s0 rfl
    exact ⟨rfl, hn, fun hb => ⟨by rw [a2]; exact (hf hb).1, by rw [a3]; exact (hf hb).2⟩, hr⟩
theorem fail_pend {d : DD} (h : d.pend = []) (x y : Int) : (d.fail x y).pend = [] := by unfold DD.fail; split; rfl; exact h
theorem sync_pend {n : Nat} {d : DD} {s : Int} {t : List UInt8} (h : d.pend = []) (ha : d.on = true → d.armed = false) : ((DD.write n d s t).1.sync).1.pend = [] := by
  cases hon : d.on with
  | false =>
    have e : DD.write n d s t = (d, 21) := by simp [DD.write, hon]
    rw [e]
    show d.sync.1.pend = []
    unfold DD.sync
    rw [hon]
    exact h
  | true =>
    have hw : (DD.write n d s t).1.on = true ∧ (DD.write n d s t).1.armed = false := by
      unfold DD.write
      rw [if_pos hon]
      split
      · rw [fails_un (ha hon), if_neg (by decide)]
        show (d.push s t).tick.on = true ∧ (d.push s t).tick.armed = false
        have : (d.push s t).tick = d.push s t := tick_un (by exact ha hon)
        rw [this]; exact ⟨hon, ha hon⟩
      · exact ⟨hon, ha hon⟩
    rw [sync_un hw.2 hw.1]; rfl
theorem arm_un (d : DD) : (d.arm (-1) 0 0).on = true → (d.arm (-1) 0 0).armed = false := by
  intro h
  unfold DD.arm at h ⊢
  split
  · exact (show decide ((0 : Int) ≤ -1) = false by decide)
  · rename_i h1
    rw [if_neg h1] at h
    exact absurd h h1
end Go.Jn

namespace Go.Jn
open Go Go.Dk
/-- The sectors, one by one. -/
def secs (st : List UInt8) (n : Nat) : List (List UInt8) := (List.range n).map (fun s : Nat => sec st s)
theorem secs_len (st : List UInt8) (n : Nat) : (secs st n).length = n := by unfold secs; simp
theorem secs_at {st : List UInt8} {n s : Nat} (h : s < n) : (secs st n)[s]? = some (sec st s) := by
  unfold secs
  rw [List.getElem?_map, List.getElem?_range h]; rfl
theorem sec_part {st t : List UInt8} {s : Nat} (ht : t.length ≤ 32) (h : 32 * s + 32 ≤ st.length) : sec (splice8 st (32 * s) t) s = t ++ (sec st s).drop t.length := by
  apply List.ext_getElem?
  intro i
  by_cases hi : i < 32
  · rw [sec_at hi, splice_at (by omega)]
    by_cases h1 : i < t.length
    · rw [if_pos (by omega), List.getElem?_append_left h1]
      congr 1; omega
    · rw [if_neg (by omega), List.getElem?_append_right (by omega), List.getElem?_drop, show t.length + (i - t.length) = i by omega, sec_at hi]
  · have hl := sec_len h
    rw [List.getElem?_eq_none (by rw [sec_len (by rw [splice8_len _ _ _ (by omega)]; omega)]; omega), List.getElem?_eq_none (by rw [List.length_append, List.length_drop]; omega)]
theorem secs_set {st t : List UInt8} {n s : Nat} (hl : st.length = 32 * n) (hs : s < n) (ht : t.length ≤ 32) : (secs st n).set s (t ++ (sec st s).drop t.length) = secs (splice8 st (32 * s) t) n := by
  apply List.ext_getElem?
  intro i
  by_cases hi : i < n
  · rw [secs_at hi, List.getElem?_set]
    by_cases e : s = i
    · subst e
      rw [if_pos rfl, if_pos (by rw [secs_len]; exact hs), sec_part ht (by omega)]
    · rw [if_neg e, secs_at hi, sec_splice_other (by omega) (by omega)]
  · rw [List.getElem?_eq_none (by rw [List.length_set, secs_len]; omega), List.getElem?_eq_none (by rw [secs_len]; omega)]
theorem sAt_after {st : List UInt8} {p : List (Nat × List UInt8)} {ws bs : Nat} : ∀ k, ws + 1 ≤ k → sAt st p ws bs k = sAt st p ws bs (ws + 1)
  | 0, h => by omega
  | k + 1, h => by
    by_cases e : k = ws
    · rw [e]
    · have ih := sAt_after (st := st) (p := p) (bs := bs) k (show ws + 1 ≤ k by omega)
      rw [← ih]
      conv => lhs; unfold sAt
      cases hx : p[k]? with
      | none => rfl
      | some x =>
        simp only
        rw [if_neg (by omega), if_neg e]
theorem settled_lt {st : List UInt8} {p : List (Nat × List UInt8)} {ws : Nat} {x : Nat × List UInt8} (bs : Nat) (hx : p[ws]? = some x) : settled st p ws bs = splice8 (allW st (p.take ws)) (32 * x.1) (x.2.take bs) := by
  have hl := (List.getElem?_eq_some_iff.1 hx).1
  unfold settled
  rw [sAt_after _ hl]
  unfold sAt
  rw [hx]
  simp only
  rw [if_neg (by omega), if_pos trivial, sAt_take st p ws bs ws (by omega) (Nat.le_refl _)]
theorem settled_ge {st : List UInt8} {p : List (Nat × List UInt8)} {ws : Nat} (bs : Nat) (h : p.length ≤ ws) : settled st p ws bs = allW st p := by
  unfold settled
  rw [sAt_take st p ws bs p.length (Nat.le_refl _) h, List.take_length]
theorem allW_take {st : List UInt8} {p : List (Nat × List UInt8)} {k : Nat} {x : Nat × List UInt8} (hx : p[k]? = some x) : allW st (p.take (k + 1)) = splice8 (allW st (p.take k)) (32 * x.1) x.2 := by
  rw [List.take_add_one, hx]
  exact allW_snoc st _ x
end Go.Jn
namespace Go.Proofs.YthfjaaigncjhlaaGreatDoor
open Go.RowKit Go.Blk Go.Jn Go.Dk Go.Mp Go.Rf Go.Shelf Go.Apl Go.Opn

def encP (x : Nat × List UInt8) : List Value := [.int .i64 (x.1 : Int), .string (tx x.2)]
theorem encP_len (x : Nat × List UInt8) : (encP x).length = 2 := rfl
theorem encP_one (x : Nat × List UInt8) : ∀ u ∈ encP x, u.oneCell' = true := by
  intro u hu
  unfold encP at hu
  rcases List.mem_cons.1 hu with rfl | hu
  · rfl
  · rw [List.mem_singleton.1 hu]; rfl
def cellsR (sv pv : Value) (d : DD) : List Value := [sv, pv, .bool d.on, .bool d.armed, .int .i64 d.after, .int .i64 d.writes, .int .i64 d.bytes]
structure RDAt (w : World) (b bs cp : Nat) (pv : Value) (d : DD) (n : Nat) : Prop where
  ok : d.Ok n
  arm : d.armed = true → 0 ≤ d.after
  blk : Blk w b (cellsR (.slice (some ⟨bs, 0, none⟩) n cp) pv d) 57
  st : RowT w 0 (.slice (some ⟨bs, 0, none⟩) n cp) (secs d.st n)
  pend : w.ownsRow 0 89 2 pv d.pend.length (d.pend.flatMap encP)
def RFp (b bs : Nat) (pv : Value) (k : Nat) : Prop := k = b ∨ k = bs ∨ pv.ownBlock = some k
section
variable {w w' : World} {b bs cp n : Nat} {pv : Value} {d : DD}
theorem RDAt.keep {F : Nat → Prop} (h : RDAt w b bs cp pv d n) (hk : Keep F w w') (hF : ∀ k, RFp b bs pv k → ¬ F k) : RDAt w' b bs cp pv d n :=
  ⟨h.ok, h.arm, h.blk.keepB (hk.block b h.blk.lt (hF b (.inl rfl))), h.st.keep (fun k e => hk.block k (World.ownsRow.lt h.st k e).2 (hF k (.inr (.inl (by simpa [Value.ownBlock] using e.symm))))),
    row_keep h.pend (fun k e => hk.block k (h.pend.lt k e).2 (hF k (.inr (.inr e))))⟩
theorem RDAt.lt (h : RDAt w b bs cp pv d n) {k : Nat} (hk : RFp b bs pv k) : k < w.heap.size := by
  rcases hk with rfl | rfl | e
  · exact h.blk.lt
  · exact (World.ownsRow.lt h.st k rfl).2
  · exact (h.pend.lt k e).2
theorem RDAt.below (h : RDAt w b bs cp pv d n) (hb : Below w.heap.size w w') : RDAt w' b bs cp pv d n :=
  h.keep (F := fun _ => False) (Keep.of_below hb) (fun _ _ f => f)
theorem RDAt.ne1 (h : RDAt w b bs cp pv d n) : bs ≠ b := fun e => row_ne h.st h.blk (by decide) (by rw [← e]; rfl)
theorem RDAt.ne2 (h : RDAt w b bs cp pv d n) : pv.ownBlock ≠ some b := row_ne h.pend h.blk (by decide)
theorem RDAt.ne3 (h : RDAt w b bs cp pv d n) : pv.ownBlock ≠ some bs := by
  rcases h.st.2 with ⟨h0, _⟩ | ⟨g, cap, cur, h1, _, h3, _⟩
  · cases h0
  · injection h1 with h1 _ _
    injection h1 with h1
    injection h1 with h1
    subst h1
    exact row_ne h.pend (cs := cur.toList) (T := 9) (by unfold Blk; simpa using h3) (by decide)
/-- A store into a field. -/
theorem RDAt.set {pv' : Value} {d' : DD} (h : RDAt w b bs cp pv d n) (i : Nat) (v : Value) (hc : (cellsR (.slice (some ⟨bs, 0, none⟩) n cp) pv d).set i v = cellsR (.slice (some ⟨bs, 0, none⟩) n cp) pv' d') (hs : d'.st = d.st) (hp : w.ownsRow 0 89 2 pv' d'.pend.length (d'.pend.flatMap encP)) (hne : pv'.ownBlock ≠ some b) (hok : d'.Ok n) (harm : d'.armed = true → 0 ≤ d'.after) : RDAt (w.setCell ⟨b, i, none⟩ v) b bs cp pv' d' n := by
  have hk : ∀ k, k ≠ b → (w.setCell ⟨b, i, none⟩ v).heap[k]? = w.heap[k]? := fun k hk => Below.heap_setCell w ⟨b, i, none⟩ v k hk
  refine ⟨hok, harm, by have := h.blk.set i v; rwa [hc] at this, ?_, row_keep hp (fun k e => hk k (fun e' => hne (by rw [← e']; exact e)))⟩
  rw [hs]
  exact h.st.keep fun k e => hk k (fun e' => h.ne1 (by have : bs = k := by simpa [Value.ownBlock] using e
                                                       rw [this, e']))
/-- A cell of a row, written. -/
theorem own_set {base sz g m cap i : Nat} {e : TypeId} {xs : List Value} {v : Value} (h : w.ownsRow base e sz (.slice (some ⟨g, 0, none⟩) m cap) m xs) : (w.setCell ⟨g, i, none⟩ v).ownsRow base e sz (.slice (some ⟨g, 0, none⟩) m cap) m (xs.set i v) := by
  obtain ⟨h1, ⟨h2, _⟩ | ⟨g', cap', cur, e1, h3, h4, h5, h6, h7, h8⟩⟩ := h
  · cases h2
  · injection e1 with e1 _ e3
    injection e1 with e1
    injection e1 with e1
    subst e1 e3
    have hb : Blk w g cur.toList e := by unfold Blk; simpa using h4
    have hb2 := hb.set i v
    refine ⟨by rw [List.length_set]; exact h1, .inr ⟨g, cap, (cur.toList.set i v).toArray, rfl, h3, hb2, h5, h6, by simp [h7], ?_⟩⟩
    show (cur.toList.set i v).take (m * sz) = _
    rw [List.take_set, h8]
theorem RDAt.bsblk (h : RDAt w b bs cp pv d n) : ∃ cs, Blk w bs cs 9 := by
  rcases h.st.2 with ⟨h0, _⟩ | ⟨g, cap, cur, h1, _, h3, _⟩
  · cases h0
  · injection h1 with h1 _ _
    injection h1 with h1
    injection h1 with h1
    subst h1
    exact ⟨cur.toList, by unfold Blk; simpa using h3⟩
/-- A store into a sector. -/
theorem RDAt.store (h : RDAt w b bs cp pv d n) {s : Nat} {t : List UInt8} (hs : s < n) (ht : t.length ≤ 32) : RDAt (w.setCell ⟨bs, s, none⟩ (.string (tx (t ++ (sec d.st s).drop t.length)))) b bs cp pv { d with st := splice8 d.st (32 * s) t } n := by
  have hk : ∀ (v : Value) k, k ≠ bs → (w.setCell ⟨bs, s, none⟩ v).heap[k]? = w.heap[k]? := fun v k hk => Below.heap_setCell w ⟨bs, s, none⟩ v k hk
  have hl := h.ok.len
  refine ⟨⟨by show (splice8 _ _ _).length = _; rw [splice8_len _ _ _ (by omega)]; exact hl, h.ok.sec, h.ok.few, h.ok.a0, h.ok.a1, h.ok.w0, h.ok.w1, h.ok.b0, h.ok.b1, h.ok.n1, h.ok.n2⟩, h.arm, h.blk.keepB (hk _ b (Ne.symm h.ne1)), ?_, row_keep h.pend (fun k e => hk _ k (fun e' => h.ne3 (by rw [← e']; exact e)))⟩
  show RowT _ 0 _ (secs (splice8 d.st (32 * s) t) n)
  have h1 := h.st
  unfold RowT at h1 ⊢
  rw [secs_len] at h1 ⊢
  rw [← secs_set hl hs ht, flat_str, List.map_set, List.map_set, ← flat_str]
  exact own_set h1
/-- The slice of pending writes, told. -/
theorem RDAt.pv_form (h : RDAt w b bs cp pv d n) : ∃ A c, pv = .slice A d.pend.length c ∧ SL w 2 encP A d.pend := by
  by_cases h0 : d.pend = []
  · rcases h.pend.2 with ⟨h1, _⟩ | ⟨g, cap, cur, h1, _⟩
    · rw [h0]; exact ⟨none, 0, h1, SL.nil⟩
    · rw [h0]; exact ⟨_, cap, by rw [h1, h0], SL.nil⟩
  · obtain ⟨g, cap, cur, h1, _, _, _, _, _, h7⟩ := own_at encP_len h.pend h0
    exact ⟨_, cap, h1, h7⟩
theorem RDAt.st_sl (h : RDAt w b bs cp pv d n) : SL w 1 encS (some ⟨bs, 0, none⟩) ((secs d.st n).map tx) := (row_sl h.st).2.1
end
end Go.Proofs.YthfjaaigncjhlaaGreatDoor

namespace Go.Proofs.YthfjaaigncjhlaaGreatDoor
open Go.RowKit Go.Blk Go.Jn Go.Dk Go.Mp Go.Rf Go.Shelf Go.Apl Go.Opn

theorem tx_push (l : List UInt8) (x : UInt8) : tx l ++ (⟨#[x]⟩ : ByteArray) = tx (l ++ [x]) := by
  apply ByteArray.ext
  simp [tx, ByteArray.data_append]
def RZe (v i : Value) : Prop := ∃ k : Nat, k ≤ 32 ∧ i = .int .i64 (k : Int) ∧ v = .string (tx (List.replicate k 0))
set_option maxRecDepth 100000 in
theorem rzero_any (w : World) : Calls Tryz.prog 30 #[.int .i64 32] w fun e w' => e = .returned (.string (tx (List.replicate 32 0))) ∧ w = w' := by
  have HST : Hid (RZe (.string ⟨#[]⟩) (.int .i64 0)) := ⟨0, by omega, rfl, rfl⟩
  go_enter Tryz.func30, Tryz.ntmps30
  go_wp2_with fail
  go_loop [3, 4] (fun v i => RZe v i) (fun _ i => 32 - (intOf i).toNat)
  case atStart => exact HST.out
  case round =>
    clear HST
    obtain ⟨k, hk, rfl, rfl⟩ := hrel
    by_cases hlt : k < 32
    · have hki : (k : Int) < 32 := by omega
      have hx : tx (List.replicate k 0) ++ (⟨#[0]⟩ : ByteArray) = tx (List.replicate (k + 1) 0) := by rw [tx_push, List.replicate_succ']
      have KEY : Hid (RZe (.string (tx (List.replicate k 0) ++ (⟨#[0]⟩ : ByteArray))) (.int .i64 ((k : Int) + 1))) := ⟨k + 1, by omega, by go_num, by rw [hx]⟩
      clear hx
      obtain ⟨t, et⟩ : ∃ t, t = tx (List.replicate k 0) := ⟨_, rfl⟩
      have hts : t.size = k := by rw [et, tx_size]; simp
      rw [← et] at KEY ⊢
      clear et
      go_wp2_with fail
      exact ⟨KEY.out, by simp [intOf]; omega⟩
    · obtain rfl : k = 32 := by omega
      go_wp2_with fail
      go_ret
      exact ⟨rfl, rfl⟩
section
variable {w w' : World} {b bs cp n : Nat} {pv pv' : Value} {d d' : DD}
theorem RDAt.reblk (h : RDAt w b bs cp pv d n) (hk : Keep (fun k => k = b) w w') (hb : Blk w' b (cellsR (.slice (some ⟨bs, 0, none⟩) n cp) pv' d') 57) (hs : d'.st = d.st) (hp : w'.ownsRow 0 89 2 pv' d'.pend.length (d'.pend.flatMap encP)) (hok : d'.Ok n) (harm : d'.armed = true → 0 ≤ d'.after) : RDAt w' b bs cp pv' d' n :=
  ⟨hok, harm, hb, by
    rw [hs]
    exact h.st.keep (fun k e => hk.block k (World.ownsRow.lt h.st k e).2 (fun e' => h.ne1 (by have e2 : bs = k := (by simpa [Value.ownBlock] using e); rw [e2]; exact e'))), hp⟩
/-- What an operation leaves. -/
def RkPost (w : World) (b bs cp n : Nat) (pv : Value) (d : DD) (v : Value) (e : Ending) (w' : World) : Prop :=
  e = .returned v ∧ ∃ pv', RDAt w' b bs cp pv' d n ∧ Keep (RFp b bs pv) w w' ∧ (∀ k, pv'.ownBlock = some k → pv.ownBlock = some k ∨ w.heap.size ≤ k)
theorem rk_same (h : RDAt w b bs cp pv d n) (v : Value) : RkPost w b bs cp n pv d v (.returned v) w := ⟨rfl, pv, h, Keep.refl _ _, fun _ h => .inl h⟩
theorem rstart_any (h : RDAt w b bs cp pv d n) : Calls Tryz.prog 20 #[.pointer (some ⟨b, 0, none⟩)] w (RkPost w b bs cp n pv d.start (.tuple #[])) := by
  have B2 := h.blk.set 2 (.bool true)
  have B3 := B2.set 3 (.bool false)
  have hk0 : Keep (fun k => k = b) w ((w.setCell ⟨b, 2, none⟩ (.bool true)).setCell ⟨b, 3, none⟩ (.bool false)) := ((Keep.refl (fun k => k = b) w).setCell (p := ⟨b, 2, none⟩) (fun _ => rfl) (.bool true)).setCell (p := ⟨b, 3, none⟩) (fun _ => rfl) (.bool false)
  have HK := Lib.hid hk0
  have h2 : RDAt _ b bs cp pv d.start n := h.reblk HK.out B3 rfl (row_keep h.pend (fun k e => HK.out.block k (h.pend.lt k e).2 (fun e' => h.ne2 (by rw [← e']; exact e)))) h.ok.start (fun e => by cases e)
  have c2 := h.blk.cellD 2 _ rfl
  have f2 := h.blk.frozen 2
  have c3 := B2.cellD 3 _ rfl
  have f3 := B2.frozen 3
  have F : Hid (RkPost w b bs cp n pv d.start (.tuple #[]) (.returned (.tuple #[])) ((w.setCell ⟨b, 2, none⟩ (.bool true)).setCell ⟨b, 3, none⟩ (.bool false))) := ⟨rfl, pv, h2, HK.out.mono (fun k _ e => .inl e), fun _ h => .inl h⟩
  clear h h2 B2 B3 HK hk0
  go_enter Tryz.func20, Tryz.ntmps20
  go_wp2
  go_end0
  exact F.out
theorem rarm_any (h : RDAt w b bs cp pv d n) (x y z : Int) (hx0 : -9223372036854775808 ≤ x) (hx1 : x ≤ 9223372036854775807) (hy0 : -9223372036854775808 ≤ y) (hy1 : y ≤ 9223372036854775807) (hz0 : -9223372036854775808 ≤ z) (hz1 : z ≤ 9223372036854775807) :
    Calls Tryz.prog 22 #[.pointer (some ⟨b, 0, none⟩), .int .i64 x, .int .i64 y, .int .i64 z] w (RkPost w b bs cp n pv (d.arm x y z) (.tuple #[])) := by
  have c2 := h.blk.cellD 2 _ rfl
  cases hon : d.on with
  | false =>
    have e2 : d.arm x y z = d := by simp [DD.arm, hon]
    rw [e2]
    rw [hon] at c2
    have HD := Lib.hid (rk_same h (.tuple #[]))
    clear e2 h hon
    go_enter Tryz.func22, Tryz.ntmps22
    go_wp2
    refine bodyPost_ret (results_none rfl _ _ _) rfl ?_
    exact HD.out
  | true =>
    rw [hon] at c2
    have e2 : d.arm x y z = { d with armed := decide (0 ≤ x), after := x, writes := y, bytes := z } := by simp [DD.arm, hon]
    have hok : (d.arm x y z).Ok n := by
      rw [e2]
      exact ⟨h.ok.len, h.ok.sec, h.ok.few, hx0, hx1, hy0, hy1, hz0, hz1, h.ok.n1, h.ok.n2⟩
    have B3 := h.blk.set 3 (.bool (decide (0 ≤ x)))
    have B4 := B3.set 4 (.int .i64 x)
    have B5 := B4.set 5 (.int .i64 y)
    have B6 := B5.set 6 (.int .i64 z)
    have hk0 : Keep (fun k => k = b) w ((((w.setCell ⟨b, 3, none⟩ (.bool (decide (0 ≤ x)))).setCell ⟨b, 4, none⟩ (.int .i64 x)).setCell ⟨b, 5, none⟩ (.int .i64 y)).setCell ⟨b, 6, none⟩ (.int .i64 z)) := ((((Keep.refl (fun k => k = b) w).setCell (p := ⟨b, 3, none⟩) (fun _ => rfl) _).setCell (p := ⟨b, 4, none⟩) (fun _ => rfl) _).setCell (p := ⟨b, 5, none⟩) (fun _ => rfl) _).setCell (p := ⟨b, 6, none⟩) (fun _ => rfl) _
    have HK := Lib.hid hk0
    have h2 : RDAt _ b bs cp pv (d.arm x y z) n := h.reblk HK.out (by rw [e2]; exact B6) (by rw [e2]) (by rw [e2]; exact row_keep h.pend (fun k e => HK.out.block k (h.pend.lt k e).2 (fun e' => h.ne2 (by rw [← e']; exact e)))) hok (by rw [e2]; intro e; exact of_decide_eq_true e)
    have c3 := h.blk.cellD 3 _ rfl
    have f3 := h.blk.frozen 3
    have c4 := B3.cellD 4 _ rfl
    have f4 := B3.frozen 4
    have c5 := B4.cellD 5 _ rfl
    have f5 := B4.frozen 5
    have c6 := B5.cellD 6 _ rfl
    have f6 := B5.frozen 6
    obtain ⟨p, ep⟩ : ∃ p, decide (0 ≤ x) = p := ⟨_, rfl⟩
    have F : Hid (RkPost w b bs cp n pv (d.arm x y z) (.tuple #[]) (.returned (.tuple #[])) ((((w.setCell ⟨b, 3, none⟩ (.bool p)).setCell ⟨b, 4, none⟩ (.int .i64 x)).setCell ⟨b, 5, none⟩ (.int .i64 y)).setCell ⟨b, 6, none⟩ (.int .i64 z))) := by rw [← ep]; exact ⟨rfl, pv, h2, HK.out.mono (fun k _ e => .inl e), fun _ h => .inl h⟩
    rw [ep] at c4 f4 c5 f5 c6 f6
    clear h h2 B3 B4 B5 B6 HK hk0 e2 hok
    go_enter Tryz.func22, Tryz.ntmps22
    go_wp2
    go_end0
    exact F.out
/-- The disk with the first pending writes done. -/
def dTk (d : DD) (k : Nat) : DD := { d with st := allW d.st (d.pend.take k) }
def RSt (w : World) (b bs cp n m : Nat) (pv : Value) (d : DD) (vi : Value) (wr : World) : Prop :=
  ∃ k : Nat, vi = .int .i64 (k : Int) ∧ k ≤ m ∧ RDAt wr b bs cp pv (dTk d k) n ∧ Keep (fun k => k = bs) w wr
set_option maxRecDepth 100000 in
set_option maxHeartbeats 1000000 in
theorem rsettle_any (h : RDAt w b bs cp pv d n) (m : Nat) (hm : m ≤ d.pend.length) :
    Calls Tryz.prog 54 #[.pointer (some ⟨b, 0, none⟩), .int .i64 (m : Int)] w fun e w' => e = .returned (.tuple #[]) ∧ RDAt w' b bs cp pv (dTk d m) n ∧ Keep (fun k => k = bs) w w' := by
  have hfew := h.ok.few
  have hz : dTk d 0 = d := by unfold dTk; rw [List.take_zero]; rfl
  have HST : Hid (RSt w b bs cp n m pv d (.int .i64 0) w) := ⟨0, rfl, Nat.zero_le _, by rw [hz]; exact h, Keep.refl _ _⟩
  have HSEC := Lib.hid h.ok.sec
  clear h hz
  go_enter Tryz.func54, Tryz.ntmps54
  go_wp2_with fail
  go_loopw [4] (fun i wr => RSt w b bs cp n m pv d i wr) (fun i _ => m - (intOf i).toNat)
  case atStart => exact HST.out
  case round =>
    clear HST
    obtain ⟨k, rfl, hk, hd, hkp⟩ := hrel
    by_cases hlt : k < m
    · obtain ⟨⟨s, t⟩, hx⟩ : ∃ x, d.pend[k]? = some x := ⟨_, List.getElem?_eq_getElem (by omega)⟩
      obtain ⟨hs, ht⟩ := HSEC.out k _ hx
      have hs : s < n := hs
      have ht : t.length = 32 := ht
      obtain ⟨A, c, rfl, hsl⟩ := hd.pv_form
      obtain ⟨b1, o1, rfl, hc⟩ := hsl.at_ (e := (s, t)) (show (dTk d k).pend[k]? = _ from hx)
      have d0 := hc 0 (.int .i64 (s : Int)) rfl
      have d1 := hc 1 (.string (tx t)) rfl
      simp only [Nat.add_zero] at d0
      rw [← Nat.add_assoc] at d1
      have q0 := hd.blk.cellD 0 _ rfl
      have q1 := hd.blk.cellD 1 _ rfl
      have hki : (k : Int) < (m : Int) := by omega
      have hkp2 : (k : Int) < (d.pend.length : Int) := by omega
      have k0 : (0 : Int) ≤ (k : Int) := by omega
      have hsi : (s : Int) < (n : Int) := by omega
      have s0 : (0 : Int) ≤ (s : Int) := by omega
      have hn := hd.ok.n2
      have HD := Lib.hid hd
      have HKP := Lib.hid hkp
      have HX := Lib.hid hx
      have HT32 := Lib.hid ht
      clear hsl hc hd hkp hx ht
      go_wp2_with fail
      refine Free.wp_region_free 21 [] (fun y => Below wr.heap.size wr y ∧ y.cell? ⟨b, 0, none⟩ = some (.slice (some ⟨bs, 0, none⟩) n cp) ∧ y.cell? ⟨b, 1, none⟩ = some (.slice (some ⟨b1, o1, none⟩) d.pend.length c) ∧ y.cell? ⟨b1, o1 + k * 2, none⟩ = some (.int .i64 (s : Int)) ∧ y.cell? ⟨b1, o1 + k * 2 + 1, none⟩ = some (.string (tx t))) (by kernel_rfl) (by kernel_rfl) (Free.mono_det (fun j mk r hf => by simp only [Free.find] at hf; repeat' (first | cases hf | split at hf))) ⟨(Below.refl _ _).drew, q0, q1, d0, d1⟩ (fun _ _ h g => ⟨h.1.trans (Below.mono g h.1.size), cell_grow' h.2.1 g, cell_grow' h.2.2.1 g, cell_grow' h.2.2.2.1 g, cell_grow' h.2.2.2.2 g⟩) ?_
      simp only [List.take_succ_cons, List.take_zero]
      clear q0 q1 d0 d1
      iterate 21 (apply Free.chain_still (by first | exact Free.wanted_of rfl rfl rfl | rfl) rfl; (intro w' hB hA; obtain ⟨qB, r0, r1, r2, r3⟩ := hB; clear hA  qB; go_light; go_simp <;> rfl); (try simp only [Act.put, List.setIfInBounds_toArray, List.set_cons_succ, List.set_cons_zero]))
      apply Free.chain_nil
      intro wy hBz _ _
      simp only [List.drop_succ_cons, List.drop_zero]
      have hdy := HD.out.below hBz.1
      have hst := hdy.store (s := s) (t := t) hs (by have := HT32.out; omega)
      have hdr : t ++ (sec (dTk d k).st s).drop t.length = t := by
        rw [HT32.out, List.drop_of_length_le, List.append_nil]
        rw [sec_len (by have := HD.out.ok.len; omega)]
        exact Nat.le_refl _
      rw [hdr] at hst
      have hnew : ({ dTk d k with st := splice8 (dTk d k).st (32 * s) t } : DD) = dTk d (k + 1) := by
        unfold dTk
        rw [allW_take HX.out]
      rw [hnew] at hst
      obtain ⟨cs, hcs⟩ := hdy.bsblk
      have fz := hcs.frozen s
      have hkz : Keep (fun k => k = bs) w (wy.setCell ⟨bs, s, none⟩ (.string (tx t))) := ((HKP.out.trans (Keep.of_below hBz.1) (fun _ _ f => f))).setCell (p := ⟨bs, s, none⟩) (fun _ => rfl) _
      have KEY : Hid (RSt w b bs cp n m (.slice (some ⟨b1, o1, none⟩) d.pend.length c) d (.int .i64 ((k : Int) + 1)) (wy.setCell ⟨bs, s, none⟩ (.string (tx t)))) := ⟨k + 1, by go_num, by omega, hst, hkz⟩
      obtain ⟨u, hu⟩ : ∃ u, wy.cell? ⟨bs, s, none⟩ = some u := by
        obtain ⟨b2, o2, e2, hc2⟩ := hdy.st_sl.at_ (i := s) (e := tx (sec (dTk d k).st s)) (by rw [List.getElem?_map, secs_at hs]; rfl)
        cases e2
        have := hc2 0 _ rfl
        rw [Nat.mul_one, Nat.add_zero, Nat.zero_add] at this
        exact ⟨_, this⟩
      clear hst hnew hkz hcs hdr hdy hBz
      go_wp2_with fail
      go_roundw
      case rel =>
        go_light
        have key := KEY.out
        first | exact key | ((repeat apply Exists.intro); exact ⟨key, rfl⟩)
      case measure => simp [intOf]; omega
    · obtain rfl : k = m := by omega
      have hki : ¬ (k : Int) < (k : Int) := by omega
      have F := Lib.hid (And.intro hd hkp)
      clear hd hkp
      go_wp2_with fail
      first
        | exact bodyPost_ret (results_none rfl _ _ _) rfl ⟨rfl, F.out.1, F.out.2⟩
        | (go_end0; exact ⟨rfl, F.out.1, F.out.2⟩)
def RRe (d : DD) (s : Nat) (v i : Value) : Prop := ∃ k : Nat, k ≤ d.pend.length ∧ i = .int .i64 (k : Int) ∧ v = .string (tx (sec (dTk d k).st s))
set_option maxRecDepth 100000 in
set_option maxHeartbeats 1000000 in
theorem rread_any (h : RDAt w b bs cp pv d n) (s : Int) : Calls Tryz.prog 29 #[.pointer (some ⟨b, 0, none⟩), .int .i64 s] w fun e w' => e = .returned (.tuple #[.string ⟨(DD.read n d s).1.toArray⟩, .int .i64 (DD.read n d s).2]) ∧ w = w' := by
  have c2 := h.blk.cellD 2 _ rfl
  cases hon : d.on with
  | false =>
    have e2 : DD.read n d s = ([], 21) := by simp [DD.read, hon]
    rw [e2]
    rw [hon] at c2
    clear e2 h hon
    go_enter Tryz.func29, Tryz.ntmps29
    go_wp2
    exact bodyPost_ret (v := .tuple #[.string ⟨#[]⟩, .int .i64 21]) (by simp [results, Tryz.results29, go_sem]) rfl ⟨rfl, rfl⟩
  | true =>
    rw [hon] at c2
    have c0 := h.blk.cellD 0 _ rfl
    by_cases h0 : s < 0
    · have e2 : DD.read n d s = ([], 1) := by
        unfold DD.read DD.hasB
        rw [if_pos hon, if_neg (by simp; omega)]
      rw [e2]
      clear e2 h hon
      go_enter Tryz.func29, Tryz.ntmps29
      go_wp2
      exact bodyPost_ret (v := .tuple #[.string ⟨#[]⟩, .int .i64 1]) (by simp [results, Tryz.results29, go_sem]) rfl ⟨rfl, rfl⟩
    · by_cases h1 : s < n
      · obtain ⟨q, rfl⟩ : ∃ q : Nat, s = (q : Int) := ⟨s.toNat, by omega⟩
        have e2 := read_eff h.ok hon (s := q) (by omega)
        rw [e2]
        have hq : q < n := by omega
        obtain ⟨b2, o2, e3, hc2⟩ := h.st_sl.at_ (i := q) (e := tx (sec d.st q)) (by rw [List.getElem?_map, secs_at hq]; rfl)
        cases e3
        have d0 := hc2 0 (.string (tx (sec d.st q))) rfl
        rw [Nat.mul_one, Nat.add_zero, Nat.zero_add] at d0
        obtain ⟨A, c, rfl, hsl⟩ := h.pv_form
        have c1 := h.blk.cellD 1 _ rfl
        have hlen := h.ok.len
        have hfew := h.ok.few
        have hn := h.ok.n2
        have HSEC := Lib.hid h.ok.sec
        have HSL := Lib.hid hsl
        have q0 : (0 : Int) ≤ (q : Int) := by omega
        have HST : Hid (RRe d q (.string (tx (sec d.st q))) (.int .i64 0)) := ⟨0, Nat.zero_le _, rfl, by unfold dTk; rw [List.take_zero]; rfl⟩
        obtain ⟨z, ez⟩ : ∃ z, z = tx (sec d.st q) := ⟨_, rfl⟩
        rw [← ez] at HST d0
        have HOK := Lib.hid h.ok
        have hq' : (q : Int) < (n : Int) := h1
        clear e2 h hon hc2 hsl ez h1
        go_enter Tryz.func29, Tryz.ntmps29
        go_wp2_with fail
        go_loop [6, 7] (fun v i => RRe d q v i) (fun _ i => d.pend.length - (intOf i).toNat)
        case atStart => exact HST.out
        case round =>
          clear HST
          obtain ⟨k, hk, rfl, rfl⟩ := hrel
          by_cases hlt : k < d.pend.length
          · obtain ⟨⟨s, t⟩, hx⟩ : ∃ x, d.pend[k]? = some x := ⟨_, List.getElem?_eq_getElem hlt⟩
            obtain ⟨hs, ht⟩ := HSEC.out k _ hx
            have hs : s < n := hs
            have ht : t.length = 32 := ht
            obtain ⟨b1, o1, rfl, hc⟩ := HSL.out.at_ hx
            have e0 := hc 0 (.int .i64 (s : Int)) rfl
            have e1 := hc 1 (.string (tx t)) rfl
            simp only [Nat.add_zero] at e0
            rw [← Nat.add_assoc] at e1
            have hki : (k : Int) < (d.pend.length : Int) := by omega
            have k0 : (0 : Int) ≤ (k : Int) := by omega
            have hst : (dTk d (k + 1)).st = splice8 (dTk d k).st (32 * s) t := allW_take hx
            have hlk : (dTk d k).st.length = 32 * n := allW_len hlen _ (fun y hy => DD.Ok.secs HOK.out y (List.mem_of_mem_take hy))
            clear hc hx
            by_cases e : s = q
            · subst e
              have KEY : Hid (RRe d s (.string (tx t)) (.int .i64 ((k : Int) + 1))) := ⟨k + 1, by omega, by go_num, by rw [hst, sec_splice_same ht (by omega)]⟩
              clear hst
              go_wp2_with fail
              exact ⟨KEY.out, by simp [intOf]; omega⟩
            · have hne : ((s : Int) == (q : Int)) = false := by simp; omega
              have hne2 : ¬ (s : Int) = (q : Int) := by omega
              have KEY : Hid (RRe d q (.string (tx (sec (dTk d k).st q))) (.int .i64 ((k : Int) + 1))) := ⟨k + 1, by omega, by go_num, by rw [hst, sec_splice_other (by omega) (by omega)]⟩
              obtain ⟨z2, ez2⟩ : ∃ z2, z2 = tx (sec (dTk d k).st q) := ⟨_, rfl⟩
              rw [← ez2] at KEY ⊢
              clear hst ez2
              go_wp2_with fail
              exact ⟨KEY.out, by simp [intOf]; omega⟩
          · obtain rfl : k = d.pend.length := by omega
            have hki : ¬ (d.pend.length : Int) < (d.pend.length : Int) := by omega
            have E : tx (sec (dTk d d.pend.length).st q) = ⟨(sec (eff d) q).toArray⟩ := by unfold dTk eff; rw [List.take_length]; rfl
            rw [E]
            obtain ⟨z2, ez2⟩ : ∃ z2 : ByteArray, z2 = ⟨(sec (eff d) q).toArray⟩ := ⟨_, rfl⟩
            have EZ := Lib.hid ez2
            rw [← ez2]
            clear ez2
            go_wp2_with fail
            exact bodyPost_ret (v := .tuple #[.string z2, .int .i64 0]) (by simp [results, Tryz.results29, go_sem]) rfl ⟨by rw [EZ.out], rfl⟩
      · have e2 : DD.read n d s = ([], 1) := by
          unfold DD.read DD.hasB
          rw [if_pos hon, if_neg (by simp; omega)]
        rw [e2]
        have h1' : (n : Int) ≤ s := by omega
        clear e2 h hon
        go_enter Tryz.func29, Tryz.ntmps29
        go_wp2
        exact bodyPost_ret (v := .tuple #[.string ⟨#[]⟩, .int .i64 1]) (by simp [results, Tryz.results29, go_sem]) rfl ⟨rfl, rfl⟩
end
end Go.Proofs.YthfjaaigncjhlaaGreatDoor

namespace Go.Proofs.YthfjaaigncjhlaaGreatDoor
open Go.RowKit Go.Blk Go.Jn Go.Dk Go.Mp Go.Rf Go.Shelf Go.Apl Go.Opn

theorem tx_cut {t s : List UInt8} {K : Nat} (hs : s.length = 32) : (tx t).extract 0 K ++ (tx s).extract K 32 = tx (t.take K ++ s.drop K) := by
  apply ByteArray.ext
  apply Array.ext'
  simp only [tx, ByteArray.data_append, ByteArray.data_extract, Array.toList_append, Array.toList_extract, List.extract_eq_take_drop]
  simp [List.take_of_length_le, hs]
section
variable {w w' : World} {b bs cp n : Nat} {pv pv' : Value} {d d' : DD}
set_option maxRecDepth 100000 in
set_option maxHeartbeats 1000000 in
theorem rfail_any (h : RDAt w b bs cp pv d n) (x y : Int) (hx0 : -9223372036854775808 ≤ x) (hx1 : x ≤ 9223372036854775807) (hy0 : -9223372036854775808 ≤ y) (hy1 : y ≤ 9223372036854775807) :
    Calls Tryz.prog 18 #[.pointer (some ⟨b, 0, none⟩), .int .i64 x, .int .i64 y] w (RkPost w b bs cp n pv (d.fail x y) (.tuple #[])) := by
  have c2 := h.blk.cellD 2 _ rfl
  cases hon : d.on with
  | false =>
    have e2 : d.fail x y = d := by simp [DD.fail, hon]
    rw [e2]
    rw [hon] at c2
    have HD := Lib.hid (rk_same h (.tuple #[]))
    clear e2 h hon
    go_enter Tryz.func18, Tryz.ntmps18
    go_wp2
    refine bodyPost_ret (results_none rfl _ _ _) rfl ?_
    exact HD.out
  | true =>
    rw [hon] at c2
    obtain ⟨R, eR⟩ : ∃ R, R = RkPost w b bs cp n pv (d.fail x y) (.tuple #[]) := ⟨_, rfl⟩
    rw [← eR]
    have ER := Lib.hid eR
    have hf : d.fail x y = { d with on := false, st := settled d.st d.pend (clampW x) (clampB y), pend := [], armed := false } := by simp [DD.fail, hon]
    have HF := Lib.hid hf
    have HOK := Lib.hid h.ok
    have hfew := h.ok.few
    obtain ⟨N, eN⟩ : ∃ N, N = min (clampW x) d.pend.length := ⟨_, rfl⟩
    obtain ⟨K, eK⟩ : ∃ K, K = clampB y := ⟨_, rfl⟩
    have hN : max 0 (min x (d.pend.length : Int)) = (N : Int) := by rw [eN]; unfold clampW; omega
    have hK : max 0 (min y 32) = (K : Int) := by rw [eK]; unfold clampB; omega
    have hK32 : K ≤ 32 := by rw [eK]; unfold clampB; omega
    have EN := Lib.hid eN
    have EK := Lib.hid eK
    obtain ⟨A, c, rfl, hsl⟩ := h.pv_form
    have HSL := Lib.hid hsl
    have c1 := h.blk.cellD 1 _ rfl
    have HD := Lib.hid h
    have ST := Lib.hid (rsettle_any h N (by omega))
    clear eR hf eN eK h hsl hon
    go_enter Tryz.func18, Tryz.ntmps18
    go_wp2_with fail
    refine ST.out.mono ?_
    rintro e w2 ⟨rfl, hd2, hk2⟩
    by_cases hlt : N < d.pend.length
    · have hlti : (N : Int) < (d.pend.length : Int) := by omega
      have N0 : (0 : Int) ≤ (N : Int) := by omega
      obtain ⟨⟨s, t⟩, hx⟩ : ∃ x, d.pend[N]? = some x := ⟨_, List.getElem?_eq_getElem hlt⟩
      obtain ⟨hs, ht⟩ := HOK.out.sec N _ hx
      have hs : s < n := hs
      have ht : t.length = 32 := ht
      obtain ⟨A', c', hpv, hsl2⟩ := hd2.pv_form
      have hpv : Value.slice A d.pend.length c = .slice A' d.pend.length c' := hpv
      injection hpv with e1 _ e3
      subst e1 e3
      obtain ⟨b1, o1, rfl, hc⟩ := hsl2.at_ (e := (s, t)) (show (dTk d N).pend[N]? = _ from hx)
      have d0 := hc 0 (.int .i64 (s : Int)) rfl
      have d1 := hc 1 (.string (tx t)) rfl
      simp only [Nat.add_zero] at d0
      rw [← Nat.add_assoc] at d1
      have c1 := hd2.blk.cellD 1 _ rfl
      have HD2 := Lib.hid hd2
      have HK2 := Lib.hid hk2
      have HX := Lib.hid hx
      have HT32 := Lib.hid ht
      have HRG : Hid (w2.rangeAt b1 (o1 + N * 2) [.int .i64 (s : Int), .string (tx t)]) := by
        intro j u hu
        match j, hu with
        | 0, hu => rw [Nat.add_zero]; cases hu; exact d0
        | 1, hu => cases hu; exact d1
        | j + 2, hu => simp at hu
      have hsi : (s : Int) < (n : Int) := by omega
      have s0 : (0 : Int) ≤ (s : Int) := by omega
      have hn := HOK.out.n2
      have hK0 : (0 : Int) ≤ (K : Int) := by omega
      have htx : (tx t).size = 32 := by rw [tx_size]; exact ht
      obtain ⟨sv, esv⟩ : ∃ sv, sv = sec (dTk d N).st s := ⟨_, rfl⟩
      have hsv : sv.length = 32 := by rw [esv]; exact sec_len (by have := hd2.ok.len; omega)
      have hsx : (tx sv).size = 32 := by rw [tx_size]; exact hsv
      have ESV := Lib.hid esv
      have HSV := Lib.hid hsv
      have HI : Hid ((Tryz.prog.info? 89).map (·.size) = some ([.int .i64 (s : Int), .string (tx t)] : List Value).length) := by show _ = _; kernel_rfl
      clear hsl2 hc hd2 hk2 hx ht esv hsv ST c2
      go_wp2_with (with_reducible refine wpList_load_mid rfl 89 (.tmp 37) rfl b1 (o1 + N * 2) rfl [.int .i64 (s : Int), .string (tx t)] _ HRG.out Tryz.underlying89 rfl HI.out ?_)
      obtain ⟨wA, ewA⟩ : ∃ wA, wA = w2.alloc (.cells #[.int .i64 (s : Int), .string (tx t)] 89) := ⟨_, rfl⟩
      have hbA : Below w2.heap.size w2 wA := by rw [ewA]; exact (Below.refl _ w2).alloc (Nat.le_refl _) _
      have HDA := Lib.hid (HD2.out.below hbA)
      have p0 : wA.cell? ⟨w2.heap.size, 0, none⟩ = some (.int .i64 (s : Int)) := by rw [ewA]; exact (Blk.new w2 [.int .i64 (s : Int), .string (tx t)] 89).cellD 0 _ rfl
      have p1 : wA.cell? ⟨w2.heap.size, 1, none⟩ = some (.string (tx t)) := by rw [ewA]; exact (Blk.new w2 [.int .i64 (s : Int), .string (tx t)] 89).cellD 1 _ rfl
      have q0 := HDA.out.blk.cellD 0 _ rfl
      have q1 : wA.cell? ⟨bs, s, none⟩ = some (.string (tx sv)) := by
        obtain ⟨b2, o2, e2, hc2⟩ := HDA.out.st_sl.at_ (i := s) (e := tx (sec (dTk d N).st s)) (by rw [List.getElem?_map, secs_at hs]; rfl)
        cases e2
        have := hc2 0 _ rfl
        rw [Nat.mul_one, Nat.add_zero, Nat.zero_add, ← ESV.out] at this
        exact this
      have HKA := Lib.hid (HK2.out.trans (Keep.of_below hbA) (fun _ _ f => f))
      obtain ⟨T, eT⟩ : ∃ T, T = tx t := ⟨_, rfl⟩
      obtain ⟨V, eV⟩ : ∃ V, V = tx sv := ⟨_, rfl⟩
      rw [← eT] at p1 htx ewA ⊢
      rw [← eV] at q1 hsx
      have ET := Lib.hid eT
      have EV := Lib.hid eV
      have hK3i : (K : Int) ≤ 32 := by omega
      rw [← ewA]
      clear hbA eT eV ewA HD2 HK2 d0 d1 c1
      refine Free.wp_region_free 22 [] (fun y => Below wA.heap.size wA y ∧ y.cell? ⟨b, 0, none⟩ = some (.slice (some ⟨bs, 0, none⟩) n cp) ∧ y.cell? ⟨w2.heap.size, 0, none⟩ = some (.int .i64 (s : Int)) ∧ y.cell? ⟨w2.heap.size, 1, none⟩ = some (.string T) ∧ y.cell? ⟨bs, s, none⟩ = some (.string V)) (by kernel_rfl) (by kernel_rfl) (Free.mono_det (fun j mk r hf => by simp only [Free.find] at hf; repeat' (first | cases hf | split at hf))) ⟨(Below.refl _ _).drew, q0, p0, p1, q1⟩ (fun _ _ h g => ⟨h.1.trans (Below.mono g h.1.size), cell_grow' h.2.1 g, cell_grow' h.2.2.1 g, cell_grow' h.2.2.2.1 g, cell_grow' h.2.2.2.2 g⟩) ?_
      simp only [List.take_succ_cons, List.take_zero]
      clear p0 p1 q0 q1
      iterate 22 (apply Free.chain_still (by first | exact Free.wanted_of rfl rfl rfl | rfl) rfl; (intro w' hB hA; obtain ⟨qB, r0, r1, r2, r3⟩ := hB; clear hA  qB; go_light; go_simp <;> rfl); (try simp only [Act.put, List.setIfInBounds_toArray, List.set_cons_succ, List.set_cons_zero]))
      apply Free.chain_nil
      intro wy hBz _ _
      simp only [List.drop_succ_cons, List.drop_zero]
      have hdy := HDA.out.below hBz.1
      have hst := hdy.store (s := s) (t := t.take K) hs (by rw [List.length_take]; omega)
      have hval : tx (t.take K ++ (sec (dTk d N).st s).drop (t.take K).length) = T.extract 0 K ++ V.extract K 32 := by
        rw [← ESV.out, ET.out, EV.out, List.length_take, HT32.out, Nat.min_eq_left hK32, tx_cut HSV.out]
      rw [hval] at hst
      have hnew : ({ dTk d N with st := splice8 (dTk d N).st (32 * s) (t.take K) } : DD) = { d with st := settled d.st d.pend (clampW x) (clampB y) } := by
        have e1 : clampW x = N := by rw [EN.out]; have := EN.out; omega
        rw [e1, settled_lt (clampB y) HX.out, ← EK.out]
        rfl
      rw [hnew] at hst
      obtain ⟨cs, hcs⟩ := hdy.bsblk
      have fz := hcs.frozen s
      have hkz : Keep (fun k => k = bs) w (wy.setCell ⟨bs, s, none⟩ (.string (T.extract 0 K ++ V.extract K 32))) := ((HKA.out.trans (Keep.of_below hBz.1) (fun _ _ f => f))).setCell (p := ⟨bs, s, none⟩) (fun _ => rfl) _
      have r3 := hBz.2.2.2.2
      obtain ⟨wz, ewz⟩ : ∃ wz, wz = wy.setCell ⟨bs, s, none⟩ (.string (T.extract 0 K ++ V.extract K 32)) := ⟨_, rfl⟩
      rw [← ewz] at hst hkz
      have hkA : Keep (RFp b bs (.slice (some ⟨b1, o1, none⟩) d.pend.length c)) w wz := hkz.mono (fun k _ e => .inr (.inl e))
      have B1 := hst.blk.set 1 (.slice none 0 0)
      have B2 := B1.set 2 (.bool false)
      have B3 := B2.set 3 (.bool false)
      have hkB : Keep (fun k => k = b) wz (((wz.setCell ⟨b, 1, none⟩ (.slice none 0 0)).setCell ⟨b, 2, none⟩ (.bool false)).setCell ⟨b, 3, none⟩ (.bool false)) := (((Keep.refl (fun k => k = b) wz).setCell (p := ⟨b, 1, none⟩) (fun _ => rfl) _).setCell (p := ⟨b, 2, none⟩) (fun _ => rfl) _).setCell (p := ⟨b, 3, none⟩) (fun _ => rfl) _
      have hfin : RDAt (((wz.setCell ⟨b, 1, none⟩ (.slice none 0 0)).setCell ⟨b, 2, none⟩ (.bool false)).setCell ⟨b, 3, none⟩ (.bool false)) b bs cp (.slice none 0 0) (d.fail x y) n := hst.reblk hkB (by rw [HF.out]; exact B3) (by rw [HF.out]) (by rw [HF.out]; exact World.ownsRow_nil _ _ _ _) (HOK.out.fail x y) (by rw [HF.out]; intro e; cases e)
      have G : Hid (R (.returned (.tuple #[])) (((wz.setCell ⟨b, 1, none⟩ (.slice none 0 0)).setCell ⟨b, 2, none⟩ (.bool false)).setCell ⟨b, 3, none⟩ (.bool false))) := by
        rw [ER.out]
        exact ⟨rfl, _, hfin, hkA.trans hkB (fun k _ e => .inl e), fun k e => by cases e⟩
      have c1 := hst.blk.cellD 1 _ rfl
      have f1 := hst.blk.frozen 1
      have c2' := B1.cellD 2 _ rfl
      have f2 := B1.frozen 2
      have c3 := B2.cellD 3 _ rfl
      have f3 := B2.frozen 3
      have EWZ := Lib.hid ewz
      clear hst hkz hcs hdy hBz hval hnew hkA B1 B2 B3 hkB hfin ewz
      go_wp2_with (first | rw [← EWZ.out])
      go_end0
      exact G.out
    · have hlti : ¬ (N : Int) < (d.pend.length : Int) := by omega
      have hst : RDAt w2 b bs cp (.slice A d.pend.length c) { d with st := settled d.st d.pend (clampW x) (clampB y) } n := by
        have e1 : ({ d with st := settled d.st d.pend (clampW x) (clampB y) } : DD) = dTk d N := by
          have e2 : N = d.pend.length := by have := EN.out; omega
          unfold dTk
          rw [settled_ge _ (by have := EN.out; omega), e2, List.take_length]
        rw [e1]; exact hd2
      have c1 := hd2.blk.cellD 1 _ rfl
      have c1q : w2.cell? ⟨b, 1, none⟩ = some (.slice A d.pend.length c) := c1
      have hkA : Keep (RFp b bs (.slice A d.pend.length c)) w w2 := hk2.mono (fun k _ e => .inr (.inl e))
      have B1 := hst.blk.set 1 (.slice none 0 0)
      have B2 := B1.set 2 (.bool false)
      have B3 := B2.set 3 (.bool false)
      have hkB : Keep (fun k => k = b) w2 (((w2.setCell ⟨b, 1, none⟩ (.slice none 0 0)).setCell ⟨b, 2, none⟩ (.bool false)).setCell ⟨b, 3, none⟩ (.bool false)) := (((Keep.refl (fun k => k = b) w2).setCell (p := ⟨b, 1, none⟩) (fun _ => rfl) _).setCell (p := ⟨b, 2, none⟩) (fun _ => rfl) _).setCell (p := ⟨b, 3, none⟩) (fun _ => rfl) _
      have hfin : RDAt (((w2.setCell ⟨b, 1, none⟩ (.slice none 0 0)).setCell ⟨b, 2, none⟩ (.bool false)).setCell ⟨b, 3, none⟩ (.bool false)) b bs cp (.slice none 0 0) (d.fail x y) n := hst.reblk hkB (by rw [HF.out]; exact B3) (by rw [HF.out]) (by rw [HF.out]; exact World.ownsRow_nil _ _ _ _) (HOK.out.fail x y) (by rw [HF.out]; intro e; cases e)
      have G : Hid (R (.returned (.tuple #[])) (((w2.setCell ⟨b, 1, none⟩ (.slice none 0 0)).setCell ⟨b, 2, none⟩ (.bool false)).setCell ⟨b, 3, none⟩ (.bool false))) := by
        rw [ER.out]
        exact ⟨rfl, _, hfin, hkA.trans hkB (fun k _ e => .inl e), fun k e => by cases e⟩
      have c1 := hst.blk.cellD 1 _ rfl
      have f1 := hst.blk.frozen 1
      have c2' := B1.cellD 2 _ rfl
      have f2 := B1.frozen 2
      have c3 := B2.cellD 3 _ rfl
      have f3 := B2.frozen 3
      clear hst hkA B1 B2 B3 hkB hfin hd2 hk2 ST c2
      go_wp2_with fail
      go_end0
      exact G.out
end
/-- What counts a call. -/
def cntD (d : DD) : DD × Int := if d.failsB then (d.fail d.writes d.bytes, 21) else (d.tick, 0)
set_option maxRecDepth 100000 in
set_option maxHeartbeats 1000000 in
theorem rcount_any {w : World} {b bs cp n : Nat} {pv : Value} {d : DD} (h : RDAt w b bs cp pv d n) : Calls Tryz.prog 57 #[.pointer (some ⟨b, 0, none⟩)] w (RkPost w b bs cp n pv (cntD d).1 (.int .i64 (cntD d).2)) := by
  have c3 := h.blk.cellD 3 _ rfl
  cases ha : d.armed with
  | false =>
    have e2 : cntD d = (d, 0) := by unfold cntD DD.failsB DD.tick; rw [ha]; simp
    rw [e2]
    rw [ha] at c3
    have HD := Lib.hid (rk_same h (.int .i64 0))
    clear e2 h ha
    go_enter Tryz.func57, Tryz.ntmps57
    go_wp2_with fail
    go_ret
    exact HD.out
  | true =>
    rw [ha] at c3
    have c4 := h.blk.cellD 4 _ rfl
    have h0 := h.arm ha
    by_cases hz : d.after = 0
    · have e2 : cntD d = (d.fail d.writes d.bytes, 21) := by unfold cntD DD.failsB; rw [ha, hz]; simp
      rw [e2]
      rw [hz] at c4
      have FL := Lib.hid (fun w' (hb : Below w.heap.size w w') => rfail_any (h.below hb) d.writes d.bytes h.ok.w0 h.ok.w1 h.ok.b0 h.ok.b1)
      have c5 := h.blk.cellD 5 _ rfl
      have c6 := h.blk.cellD 6 _ rfl
      have HLT : Hid (∀ k, pv.ownBlock = some k → k < w.heap.size) := fun k hk => h.lt (.inr (.inr hk))
      clear e2 h ha hz
      go_enter Tryz.func57, Tryz.ntmps57
      go_wp2_with fail
      refine Free.wp_region_free 9 [] (fun y => Below w.heap.size w y ∧ y.cell? ⟨b, 5, none⟩ = some (.int .i64 d.writes) ∧ y.cell? ⟨b, 6, none⟩ = some (.int .i64 d.bytes)) (by kernel_rfl) (by kernel_rfl) (Free.mono_det (fun j mk r hf => by simp only [Free.find] at hf; repeat' (first | cases hf | split at hf))) ⟨(Below.refl _ _).drew, c5, c6⟩ (fun _ _ h g => ⟨h.1.trans (Below.mono g h.1.size), cell_grow' h.2.1 g, cell_grow' h.2.2 g⟩) ?_
      simp only [List.take_succ_cons, List.take_zero]
      clear c5 c6
      iterate 9 (apply Free.chain_still (by first | exact Free.wanted_of rfl rfl rfl | rfl) rfl; (intro w' hB hA; obtain ⟨qB, r0, r1⟩ := hB; clear hA  qB; go_light; go_simp <;> rfl); (try simp only [Act.put, List.setIfInBounds_toArray, List.set_cons_succ, List.set_cons_zero]))
      apply Free.chain_nil
      intro wy hBz _ _
      simp only [List.drop_succ_cons, List.drop_zero]
      have HBZ := Lib.hid hBz.1
      clear hBz
      go_wp2_with fail
      refine (FL.out _ HBZ.out).mono ?_
      rintro e w3 ⟨rfl, pv3, hd3, hk3, hv3⟩
      have G : Hid (RkPost w b bs cp n pv (d.fail d.writes d.bytes) (.int .i64 21) (.returned (.int .i64 21)) w3) := ⟨rfl, pv3, hd3, (Keep.of_below (F := RFp b bs pv) HBZ.out).trans hk3 (fun _ _ f => f), fun k e => (hv3 k e).imp id (fun h => by have := HBZ.out.size; omega)⟩
      clear hd3 hk3 hv3 FL
      go_wp2_with fail
      go_ret
      exact G.out
    · have e2 : cntD d = ({ d with after := d.after - 1 }, 0) := by
        unfold cntD DD.failsB DD.tick
        rw [ha]
        have h1 : ¬ d.after ≤ 0 := by omega
        have h2 : 0 < d.after := by omega
        simp [h1, h2]
      rw [e2]
      have ha1 := h.ok.a1
      have zb : (d.after == 0) = false := by simpa using hz
      have wr1 : IntKind.i64.wrap (d.after - 1) = d.after - 1 := by rw [IntWalk.i64_left, IntWalk.wrap64_in _ ⟨by omega, by omega⟩]
      have B4 := h.blk.set 4 (.int .i64 (d.after - 1))
      have hk0 : Keep (fun k => k = b) w (w.setCell ⟨b, 4, none⟩ (.int .i64 (d.after - 1))) := (Keep.refl (fun k => k = b) w).setCell (p := ⟨b, 4, none⟩) (fun _ => rfl) _
      have h2 : RDAt (w.setCell ⟨b, 4, none⟩ (.int .i64 (d.after - 1))) b bs cp pv { d with after := d.after - 1 } n := h.reblk hk0 B4 rfl (row_keep h.pend (fun k e => hk0.block k (h.pend.lt k e).2 (fun e' => h.ne2 (by rw [← e']; exact e)))) ⟨h.ok.len, h.ok.sec, h.ok.few, by show _ ≤ d.after - 1; omega, by show d.after - 1 ≤ _; omega, h.ok.w0, h.ok.w1, h.ok.b0, h.ok.b1, h.ok.n1, h.ok.n2⟩ (fun _ => by show 0 ≤ d.after - 1; omega)
      have F : Hid (RkPost w b bs cp n pv { d with after := d.after - 1 } (.int .i64 0) (.returned (.int .i64 0)) (w.setCell ⟨b, 4, none⟩ (.int .i64 (d.after - 1)))) := ⟨rfl, pv, h2, hk0.mono (fun k _ e => .inl e), fun _ h => .inl h⟩
      have f4 := h.blk.frozen 4
      clear h h2 hk0 B4 e2 ha
      go_enter Tryz.func57, Tryz.ntmps57
      go_wp2_with fail
      go_ret
      exact F.out
set_option maxRecDepth 100000 in
set_option maxHeartbeats 1000000 in
theorem rsync_any {w : World} {b bs cp n : Nat} {pv : Value} {d : DD} (h : RDAt w b bs cp pv d n) : Calls Tryz.prog 27 #[.pointer (some ⟨b, 0, none⟩)] w (RkPost w b bs cp n pv d.sync.1 (.int .i64 d.sync.2)) := by
  have c2 := h.blk.cellD 2 _ rfl
  cases hon : d.on with
  | false =>
    have e2 : d.sync = (d, 21) := by simp [DD.sync, hon]
    rw [e2]
    rw [hon] at c2
    have HD := Lib.hid (rk_same h (.int .i64 21))
    clear e2 h hon
    go_enter Tryz.func27, Tryz.ntmps27
    go_wp2_with fail
    go_ret
    exact HD.out
  | true =>
    rw [hon] at c2
    have CN := Lib.hid (rcount_any h)
    have hfew := h.ok.few
    cases hf : d.failsB with
    | true =>
      have e2 : d.sync = (d.fail d.writes d.bytes, 21) := by simp [DD.sync, hon, hf]
      have e3 : cntD d = (d.fail d.writes d.bytes, 21) := by unfold cntD; rw [if_pos hf]
      rw [e2]
      rw [e3] at CN
      clear e2 e3 h hon hf
      go_enter Tryz.func27, Tryz.ntmps27
      go_wp2_with fail
      refine CN.out.mono ?_
      rintro e w3 ⟨rfl, pv3, hd3, hk3, hv3⟩
      have G : Hid (RkPost w b bs cp n pv (d.fail d.writes d.bytes) (.int .i64 21) (.returned (.int .i64 21)) w3) := ⟨rfl, pv3, hd3, hk3, hv3⟩
      clear hd3 hk3 hv3 CN
      go_wp2_with fail
      go_ret
      exact G.out
    | false =>
      have e2 : d.sync = ({ d.tick with st := settled d.st d.pend d.pend.length 0, pend := [] }, 0) := by simp [DD.sync, hon, hf]
      have e3 : cntD d = (d.tick, 0) := by unfold cntD; rw [hf]; rfl
      rw [e2]
      rw [e3] at CN
      have hpd : d.tick.pend = d.pend := tick_pend d
      have hps : d.tick.st = d.st := tick_st d
      have HOK := Lib.hid h.ok
      clear e2 e3 h hon hf
      go_enter Tryz.func27, Tryz.ntmps27
      go_wp2_with fail
      refine CN.out.mono ?_
      rintro e w3 ⟨rfl, pv3, hd3, hk3, hv3⟩
      obtain ⟨A, c, rfl, _⟩ := hd3.pv_form
      have ST := Lib.hid (rsettle_any hd3 d.pend.length (by rw [hpd]; exact Nat.le_refl _))
      have c1 := hd3.blk.cellD 1 _ rfl
      have hfew3 := hd3.ok.few
      rw [hpd] at c1
      have HK3 := Lib.hid hk3
      clear CN hd3 hk3 hv3 c2
      go_wp2_with fail
      refine ST.out.mono ?_
      rintro e w4 ⟨rfl, hd4, hk4⟩
      have B1 := hd4.blk.set 1 (.slice none 0 0)
      have hk0 : Keep (fun k => k = b) w4 (w4.setCell ⟨b, 1, none⟩ (.slice none 0 0)) := (Keep.refl (fun k => k = b) w4).setCell (p := ⟨b, 1, none⟩) (fun _ => rfl) _
      have h2 : RDAt (w4.setCell ⟨b, 1, none⟩ (.slice none 0 0)) b bs cp (.slice none 0 0) { d.tick with st := settled d.st d.pend d.pend.length 0, pend := [] } n := hd4.reblk hk0 B1 (by show settled _ _ _ _ = allW _ _; rw [settled_all, hpd, hps, List.take_length]) (World.ownsRow_nil _ _ _ _) (by have := HOK.out.tick.settle d.pend.length 0 d.tick.on d.tick.armed; rw [hpd, hps] at this; exact this) hd4.arm
      have G : Hid (RkPost w b bs cp n pv { d.tick with st := settled d.st d.pend d.pend.length 0, pend := [] } (.int .i64 0) (.returned (.int .i64 0)) (w4.setCell ⟨b, 1, none⟩ (.slice none 0 0))) := ⟨rfl, _, h2, (HK3.out.trans hk4 (fun k _ e => .inr (.inl e))).trans hk0 (fun k _ e => .inl e), fun k e => by cases e⟩
      have c1 := hd4.blk.cellD 1 _ rfl
      have f1 := hd4.blk.frozen 1
      clear h2 hk0 B1 hd4 hk4 ST
      go_wp2_with fail
      go_ret
      exact G.out
end Go.Proofs.YthfjaaigncjhlaaGreatDoor

namespace Go.Proofs.YthfjaaigncjhlaaGreatDoor
open Go.RowKit Go.Blk Go.Jn Go.Dk Go.Mp Go.Rf Go.Shelf Go.Apl Go.Opn

theorem infoPd : (Tryz.prog.info? 89).map (fun i => (i.zero, i.size, i.bytes)) = some (some (.agg #[.int .i64 0, .string ⟨#[]⟩]), 2, 24) := by kernel_rfl
theorem own_is {w : World} {B e s n : Nat} {v : Value} {xs : List Value} (h : w.ownsRow B e s v n xs) : ∃ A m c, v = .slice A m c := by
  rcases h.2 with ⟨h1, _⟩ | ⟨g, cap, cur, h1, _⟩
  · exact ⟨_, _, _, h1⟩
  · exact ⟨_, _, _, h1⟩
theorem write_cnt {n : Nat} {d : DD} {s : Int} {t : List UInt8} (hon : d.on = true) (hs : DD.hasB n s = true) (ht : t.length = 32) : DD.write n d s t = cntD (d.push s t) := by
  have hf : (d.push s t).failsB = d.failsB := rfl
  unfold DD.write cntD
  rw [if_pos hon, if_pos ⟨hs, ht⟩, hf]
  cases hc : d.failsB with
  | true => rfl
  | false => rfl
set_option maxRecDepth 100000 in
set_option maxHeartbeats 1000000 in
theorem rwrite_any {w : World} {b bs cp n : Nat} {pv : Value} {d : DD} (h : RDAt w b bs cp pv d n) (s : Int) (t : ByteArray) (hfew : d.pend.length < 1000000) :
    Calls Tryz.prog 25 #[.pointer (some ⟨b, 0, none⟩), .int .i64 s, .string t] w (RkPost w b bs cp n pv (DD.write n d s t.data.toList).1 (.int .i64 (DD.write n d s t.data.toList).2)) := by
  have c2 := h.blk.cellD 2 _ rfl
  have htl : t.data.toList.length = t.size := by simp
  cases hon : d.on with
  | false =>
    have e2 : DD.write n d s t.data.toList = (d, 21) := by simp [DD.write, hon]
    rw [e2]
    rw [hon] at c2
    have HD := Lib.hid (rk_same h (.int .i64 21))
    clear e2 h hon
    go_enter Tryz.func25, Tryz.ntmps25
    go_wp2_with fail
    go_ret
    exact HD.out
  | true =>
    rw [hon] at c2
    have c0 := h.blk.cellD 0 _ rfl
    have HD1 := Lib.hid (rk_same h (.int .i64 1))
    by_cases hg : DD.hasB n s = true ∧ t.data.toList.length = 32
    · have e2 := write_cnt (d := d) hon hg.1 hg.2
      rw [e2]
      obtain ⟨hg1, hg2⟩ := hg
      have hs2 : 0 ≤ s ∧ s < (n : Int) := by unfold DD.hasB at hg1; exact of_decide_eq_true hg1
      obtain ⟨q, rfl⟩ : ∃ q : Nat, s = (q : Int) := ⟨s.toNat, by omega⟩
      have q0 : (0 : Int) ≤ (q : Int) := by omega
      have q1 : (q : Int) < (n : Int) := hs2.2
      have q2 : ¬ (n : Int) ≤ (q : Int) := by omega
      have t32 : t.size = 32 := by omega
      have c1 := h.blk.cellD 1 _ rfl
      have f1 := h.blk.frozen 1
      have HD := Lib.hid h
      have HP0 := Lib.hid h.pend
      obtain ⟨i0, hi, hz0, hz1, hz2⟩ := info_parts infoPd
      have HI := Lib.hid hi
      have HZ0 := Lib.hid hz0
      have HZ1 := Lib.hid hz1
      have HZ2 := Lib.hid hz2
      have HPUSH : Hid (d.push (q : Int) t.data.toList = { d with pend := d.pend ++ [(q, t.data.toList)] }) := by show _ = _; unfold DD.push; rw [Int.toNat_natCast]
      have HOK2 := Lib.hid (h.ok.push hg1 hg2 hfew)
      have HARM := Lib.hid h.arm
      have HNE := Lib.hid h.ne2
      obtain ⟨A, c, rfl, _⟩ := h.pv_form
      have h63 : d.pend.length + 1 ≤ 1000000 := by omega
      clear e2 h hon hi hz0 hz1 hz2 hg1 hg2 hs2 htl HD1
      go_enter Tryz.func25, Tryz.ntmps25
      have HPA := Lib.hid (rowB HP0.out ((Below.refl _ w).alloc (Nat.le_refl _) (.cells #[.int .i64 (q : Int), .string t] 89)))
      have hL : (d.pend ++ [(q, t.data.toList)]).length = d.pend.length + 1 := by simp
      go_wp2_with (at_builtin; refine wpList_append_list (ec := encP) rfl (.tmp 32) (.tmp 36) 55 rfl 0 89 i0 _ 24 Tryz.underlying55 HI.out HZ0.out HZ1.out HZ2.out rfl (by decide) encP_len encP_one _ _ _ rfl HPA.out (some ⟨w.heap.size, 0, none⟩) 1 [(q, t.data.toList)] rfl (sl_of_cells encP_len (heap_alloc_last _ _) (fun j u hu => by simpa [encP, tx_of] using hu)) (by have : maxLen = 9223372036854775807 := rfl; simp only [List.length_cons, List.length_nil]; omega) (by simp only [List.length_cons, List.length_nil]; omega) (Nat.zero_le _) ?_)
      intro v3 w3 hown3 hgr3 hb3
      obtain ⟨A3, n3, c3, rfl⟩ := own_is hown3
      obtain ⟨v3, ev3⟩ : ∃ v3, v3 = Value.slice A3 n3 c3 := ⟨_, rfl⟩
      rw [← ev3] at hown3 hb3
      have hk3 : Keep (RFp b bs (.slice A d.pend.length c)) w w3 := ((Keep.refl _ w).alloc _).grown hgr3 (fun k hk _ => .inr (.inr hk))
      have hkb : ∀ k, k < w.heap.size → (Value.slice A d.pend.length c).ownBlock ≠ some k → w3.heap[k]? = w.heap[k]? := fun k hk hn => by
        rw [hgr3.block k (by simp; omega) (Ne.symm hn)]
        exact Below.heap_alloc w _ k hk
      have hB3 : Blk w3 b (cellsR (.slice (some ⟨bs, 0, none⟩) n cp) (.slice A d.pend.length c) d) 57 := HD.out.blk.keepB (hkb b HD.out.blk.lt HNE.out)
      have hv3 : ∀ k, v3.ownBlock = some k → (Value.slice A d.pend.length c).ownBlock = some k ∨ w.heap.size ≤ k := fun k hk => by
        rcases hb3 with e | e
        · exact .inl (e ▸ hk)
        · rw [e] at hk; cases hk; exact .inr (by simp)
      have hv3b : v3.ownBlock ≠ some b := fun e => (hv3 b e).elim HNE.out (fun h => by have := HD.out.blk.lt; omega)
      have hst3 : RowT w3 0 (.slice (some ⟨bs, 0, none⟩) n cp) (secs d.st n) := HD.out.st.keep fun k e => hkb k (World.ownsRow.lt HD.out.st k e).2 (fun e2 => HD.out.ne3 (by rw [e2, ← e]; rfl))
      have hown : w3.ownsRow 0 89 2 v3 (d.push (q : Int) t.data.toList).pend.length ((d.push (q : Int) t.data.toList).pend.flatMap encP) := by
        rw [HPUSH.out]
        show w3.ownsRow 0 89 2 v3 (d.pend ++ [(q, t.data.toList)]).length ((d.pend ++ [(q, t.data.toList)]).flatMap encP)
        rw [hL, List.flatMap_append]
        exact hown3
      have hkC : Keep (fun k => k = b) w3 (w3.setCell ⟨b, 1, none⟩ v3) := (Keep.refl (fun k => k = b) w3).setCell (p := ⟨b, 1, none⟩) (fun _ => rfl) _
      have hB4 := hB3.set 1 v3
      have hfin : RDAt (w3.setCell ⟨b, 1, none⟩ v3) b bs cp v3 (d.push (q : Int) t.data.toList) n :=
        ⟨HOK2.out, HARM.out, hB4, hst3.keep (fun k e => Below.heap_setCell w3 ⟨b, 1, none⟩ v3 k (fun e' => HD.out.ne1 (by have e2 : bs = k := (by simpa [Value.ownBlock] using e); rw [e2]; exact e'))),
          row_keep hown (fun k e => Below.heap_setCell w3 ⟨b, 1, none⟩ v3 k (fun e' => hv3b (by have e2 : k = b := e'; rw [← e2]; exact e)))⟩
      have CN := Lib.hid (rcount_any hfin)
      have K4 : Hid (Keep (RFp b bs (.slice A d.pend.length c)) w (w3.setCell ⟨b, 1, none⟩ v3)) := hk3.trans hkC (fun k _ e => .inl e)
      have HV3 := Lib.hid hv3
      rw [ev3] at CN K4
      rw [ev3] at HV3
      have c1 := hB3.cellD 1 _ rfl
      have f1 := hB3.frozen 1
      clear hown3 hgr3 hb3 hk3 hkb hB3 hv3 hv3b hst3 hown hkC hB4 hfin HPA HD HP0 ev3
      go_wp2_with fail
      refine CN.out.mono ?_
      rintro e w5 ⟨rfl, pv5, hd5, hk5, hv5⟩
      have G : Hid (RkPost w b bs cp n (.slice A d.pend.length c) (cntD (d.push (q : Int) t.data.toList)).1 (.int .i64 (cntD (d.push (q : Int) t.data.toList)).2) (.returned (.int .i64 (cntD (d.push (q : Int) t.data.toList)).2)) w5) := by
        refine ⟨rfl, pv5, hd5, K4.out.trans hk5 ?_, fun k e => ?_⟩
        · rintro k hk (rfl | rfl | e)
          · exact .inl rfl
          · exact .inr (.inl rfl)
          · exact (HV3.out k e).elim (fun h => .inr (.inr h)) (fun h => by omega)
        · have hs4 : w.heap.size ≤ (w3.setCell ⟨b, 1, none⟩ (.slice A3 n3 c3)).heap.size := K4.out.size
          rcases hv5 k e with h | h
          · exact HV3.out k h
          · exact .inr (by omega)
      clear hd5 hk5 hv5 CN K4 HV3
      go_wp2_with fail
      go_ret
      exact G.out
    · have e2 : DD.write n d s t.data.toList = (d, 1) := by unfold DD.write; rw [if_pos hon, if_neg hg]
      rw [e2]
      by_cases h0 : s < 0
      · clear e2 h hon hg htl
        go_enter Tryz.func25, Tryz.ntmps25
        go_wp2_with fail
        go_ret
        exact HD1.out
      · by_cases h1 : s < (n : Int)
        · have hb : DD.hasB n s = true := by unfold DD.hasB; exact decide_eq_true ⟨by omega, h1⟩
          have t32 : ¬ (t.size : Int) = 32 := fun e => hg ⟨hb, by omega⟩
          have t33 : ((t.size : Int) == 32) = false := by simpa using t32
          have h1' : ¬ (n : Int) ≤ s := by omega
          clear e2 h hon hg htl hb
          go_enter Tryz.func25, Tryz.ntmps25
          go_wp2_with fail
          go_ret
          exact HD1.out
        · have h1' : (n : Int) ≤ s := by omega
          clear e2 h hon hg htl
          go_enter Tryz.func25, Tryz.ntmps25
          go_wp2_with fail
          go_ret
          exact HD1.out
def RNewPost (w : World) (n : Nat) (e : Ending) (w' : World) : Prop :=
  ∃ b bs cp, e = .returned (.pointer (some ⟨b, 0, none⟩)) ∧ RDAt w' b bs cp (.slice none 0 0) (DD.new n) n ∧ Below w.heap.size w w' ∧ w.heap.size ≤ b ∧ w.heap.size ≤ bs
def blank32 : List UInt8 := List.replicate 32 0
def RNw (w : World) (n : Nat) (vi : Value) (wr : World) : Prop :=
  ∃ (k : Nat) (sv : Value), vi = .int .i64 (k : Int) ∧ k ≤ n ∧ Below w.heap.size w wr ∧ Blk wr w.heap.size [sv, .slice none 0 0, .bool true, .bool false, .int .i64 0, .int .i64 0, .int .i64 0] 57 ∧ RowT wr w.heap.size sv (List.replicate k blank32)
theorem secs_new (n : Nat) : secs (DD.new n).st n = List.replicate n blank32 := by
  apply List.ext_getElem?
  intro i
  by_cases hi : i < n
  · rw [secs_at hi, List.getElem?_replicate, if_pos hi]
    show some (sec (List.replicate (32 * n) 0) i) = _
    rw [sec_zeros hi]; rfl
  · rw [List.getElem?_eq_none (by rw [secs_len]; omega), List.getElem?_eq_none (by simp; omega)]
set_option maxRecDepth 100000 in
set_option maxHeartbeats 1000000 in
theorem rnew_any (n : Nat) (w : World) (h1 : 1 ≤ n) (h2 : n ≤ 4000) : Calls Tryz.prog 7 #[.int .i64 (n : Int)] w (RNewPost w n) := by
  have ZE := Lib.hid (rzero_any w)
  have a1 : ¬ (n : Int) < 1 := by omega
  have a2 : ¬ (4000 : Int) < (n : Int) := by omega
  go_enter Tryz.func7, Tryz.ntmps7
  go_wp2_with fail
  have ZE2 := Lib.hid (rzero_any (w.alloc (.cells #[.slice none 0 0, .slice none 0 0, .bool true, .bool false, .int .i64 0, .int .i64 0, .int .i64 0] 57)))
  refine ZE2.out.mono ?_
  rintro e w' ⟨rfl, rfl⟩
  have HST : Hid (RNw w n (.int .i64 0) (w.alloc (.cells #[.slice none 0 0, .slice none 0 0, .bool true, .bool false, .int .i64 0, .int .i64 0, .int .i64 0] 57))) :=
    ⟨0, _, rfl, Nat.zero_le _, (Below.refl _ w).alloc (Nat.le_refl _) _, Blk.new w _ _, World.ownsRow_nil _ _ _ _⟩
  obtain ⟨z, ez⟩ : ∃ z, z = tx (List.replicate 32 0) := ⟨_, rfl⟩
  rw [← ez]
  have EZ := Lib.hid ez
  clear ez ZE ZE2
  go_wp2_with fail
  go_loopw [5] (fun i wr => RNw w n i wr) (fun i _ => n - (intOf i).toNat)
  case atStart => exact HST.out
  case round =>
    clear HST
    obtain ⟨k, sv, rfl, hk, hb, hB, hr⟩ := hrel
    by_cases hlt : k < n
    · have hki : (k : Int) < (n : Int) := by omega
      obtain ⟨i0, hi, hz0, hz1, hz2⟩ := info_parts infoStr
      have HI := Lib.hid hi
      have HZ0 := Lib.hid hz0
      have HZ1 := Lib.hid hz1
      have HZ2 := Lib.hid hz2
      obtain ⟨A, m, c, rfl⟩ := row_is hr
      obtain ⟨L, eL⟩ : ∃ L, L = List.replicate k blank32 := ⟨_, rfl⟩
      rw [← eL] at hr
      have EL := Lib.hid eL
      have hrl : L.length = k := by rw [eL]; simp
      have c0 := hB.cellD 0 _ rfl
      have f0 := hB.frozen 0
      have HB := Lib.hid hb
      have HBB := Lib.hid hB
      have HR := Lib.hid hr
      have HW2 : Hid (RowT (wr.alloc (.cells #[.string z] 9)) w.heap.size (.slice A m c) L) := rowB hr ((Below.refl _ wr).alloc (Nat.le_refl _) _)
      have hbs : w.heap.size ≤ (wr.alloc (.cells #[.string z] 9)).heap.size := by have := hb.size; simp; omega
      clear hi hz0 hz1 hz2 hb hB hr eL
      go_wp2_with (at_builtin; refine wpList_append_list (ec := encS) rfl (.tmp 24) (.tmp 26) 30 rfl w.heap.size 9 i0 _ 16 Tryz.underlying30 HI.out HZ0.out HZ1.out HZ2.out rfl (by decide) encSlen encSone _ _ _ rfl HW2.out (some ⟨wr.heap.size, 0, none⟩) 1 [z] rfl (sl_of_cells encSlen (heap_alloc_last _ _) (fun j u hu => by simpa [encS] using hu)) (by have : maxLen = 9223372036854775807 := rfl; simp only [List.length_cons, List.length_nil, hrl]; omega) (by simp only [List.length_cons, List.length_nil, hrl]; omega) hbs ?_)
      intro v3 w3 hown3 hgr3 hb3
      obtain ⟨A3, n3, c3, rfl⟩ := own_is hown3
      have hne : (Value.slice A m c).ownBlock ≠ some w.heap.size := row_ne HR.out HBB.out (by decide)
      have hB3 : Blk w3 w.heap.size [.slice A m c, .slice none 0 0, .bool true, .bool false, .int .i64 0, .int .i64 0, .int .i64 0] 57 := HBB.out.keepB (by
        rw [hgr3.block _ (by simp; have := HBB.out.lt; omega) (Ne.symm hne)]
        exact Below.heap_alloc wr _ _ HBB.out.lt)
      have hr3 : RowT w3 w.heap.size (.slice A3 n3 c3) (List.replicate (k + 1) blank32) := by
        unfold RowT
        rw [List.replicate_succ', ← EL.out, row_snoc, List.length_append, hrl]
        have : z = tx blank32 := EZ.out
        rw [← this]
        exact hown3
      have hne3 : (Value.slice A3 n3 c3).ownBlock ≠ some w.heap.size := row_ne hr3 hB3 (by decide)
      have hb3' : Below w.heap.size w w3 := (HB.out.alloc (by have := HB.out.size; omega) _).grown hgr3 (by simp; have := HB.out.size; omega) (fun j e => (HR.out.lt j e).1)
      have hbz : Below w.heap.size w (w3.setCell ⟨w.heap.size, 0, none⟩ (.slice A3 n3 c3)) := hb3'.setCell (by show w.heap.size ≤ w.heap.size; omega) _
      have KEY : Hid (RNw w n (.int .i64 ((k : Int) + 1)) (w3.setCell ⟨w.heap.size, 0, none⟩ (.slice A3 n3 c3))) := ⟨k + 1, .slice A3 n3 c3, by go_num, by omega, hbz, hB3.set 0 _, hr3.keep (fun j e => Below.heap_setCell w3 ⟨w.heap.size, 0, none⟩ _ j (fun e' => hne3 (by have e2 : j = w.heap.size := e'; rw [← e2]; exact e)))⟩
      have c0 := hB3.cellD 0 _ rfl
      have f0 := hB3.frozen 0
      clear hown3 hgr3 hb3 hne hB3 hr3 hne3 hb3' hbz HW2
      go_wp2_with fail
      go_roundw
      case rel =>
        go_light
        have key := KEY.out
        first | exact key | ((repeat apply Exists.intro); exact ⟨key, rfl⟩)
      case measure => simp [intOf]; omega
    · obtain rfl : k = n := by omega
      have hki : ¬ (k : Int) < (k : Int) := by omega
      have G : Hid (RNewPost w k (.returned (.pointer (some ⟨w.heap.size, 0, none⟩))) wr) := by
        rcases hr.2 with ⟨_, h0⟩ | ⟨g, cap, cur, rfl, h3, _⟩
        · simp at h0; omega
        · have hlen : (List.replicate k blank32).length = k := by simp
          rw [hlen] at hB hr
          refine ⟨w.heap.size, g, cap, rfl, ⟨DD.Ok.new h1 h2, (fun e => by cases e), hB, ?_, World.ownsRow_nil _ _ _ _⟩, hb, Nat.le_refl _, h3⟩
          rw [secs_new]
          exact row_base hr (Nat.zero_le _)
      clear hb hB hr
      go_wp2_with fail
      go_ret
      exact G.out
set_option maxRecDepth 100000 in
theorem rnew_none (n : Int) (w : World) (h1 : n < 1) : Calls Tryz.prog 7 #[.int .i64 n] w fun e w' => e = .returned (.pointer none) ∧ w = w' := by
  have d1 : decide (n < 1) = true := decide_eq_true h1
  go_enter Tryz.func7, Tryz.ntmps7
  go_wp2_with fail
  go_ret
  exact ⟨rfl, rfl⟩
end Go.Proofs.YthfjaaigncjhlaaGreatDoor

namespace Go.Proofs.YthfjaaigncjhlaaGreatDoor
open Go.RowKit Go.Blk Go.Jn Go.Dk Go.Mp Go.Rf Go.Shelf Go.Apl Go.Opn

/-- A journal, or none, on a disk; F holds all blocks that they own. -/
structure IM (we w : World) (b bs n : Nat) (d : DD) (o : Option JS) (p : Option Addr) (F : Nat → Prop) : Prop where
  f : ∀ k, F k → we.heap.size ≤ k ∧ k < w.heap.size
  body : (o = none ∧ p = none ∧ ∃ bm pv, DiskAt w b bs bm pv d n ∧ ∀ k, Fp b bs bm pv k → F k) ∨
    ∃ s jb bm pv rv, o = some s ∧ s.d = d ∧ p = some ⟨jb, 0, none⟩ ∧ JAt w jb b bs bm pv rv n s ∧ ∀ k, JFp jb b bs bm pv rv k → F k
def IMPost (we w : World) (b bs n : Nat) (F : Nat → Prop) (v : Value) (d : DD) (o : Option JS) (p : Option Addr) (e : Ending) (w' : World) : Prop :=
  e = .returned v ∧ ∃ F' : Nat → Prop, IM we w' b bs n d o p F' ∧ Keep F w w' ∧ (∀ k, F' k → F k ∨ w.heap.size ≤ k)
section
variable {we w w' : World} {b bs n : Nat} {d : DD} {o : Option JS} {p : Option Addr} {F : Nat → Prop}
theorem IM.keep {G : Nat → Prop} (h : IM we w b bs n d o p F) (hk : Keep G w w') (hG : ∀ k, F k → ¬ G k) : IM we w' b bs n d o p F := by
  refine ⟨fun k hf => ⟨(h.f k hf).1, Nat.lt_of_lt_of_le (h.f k hf).2 hk.size⟩, ?_⟩
  rcases h.body with ⟨h1, h2, bm, pv, h3, h4⟩ | ⟨s, jb, bm, pv, rv, h1, h2, h3, h4, h5⟩
  · exact .inl ⟨h1, h2, bm, pv, h3.keep hk (fun k hf => hG k (h4 k hf)), h4⟩
  · exact .inr ⟨s, jb, bm, pv, rv, h1, h2, h3, h4.keep hk (fun k hf => hG k (h5 k hf)), h5⟩
theorem IM.below (h : IM we w b bs n d o p F) (hb : Below w.heap.size w w') : IM we w' b bs n d o p F := h.keep (G := fun _ => False) (Keep.of_below hb) (fun _ _ f => f)
theorem IM.isnil (h : IM we w b bs n d o p F) : (p == none) = o.isNone ∧ (o = none ↔ p = none) := by
  rcases h.body with ⟨rfl, rfl, _⟩ | ⟨s, jb, bm, pv, rv, rfl, _, rfl, _⟩
  · exact ⟨rfl, by simp⟩
  · exact ⟨rfl, by simp⟩
/-- The blocks after an operation: those from before, and new ones. -/
def Fx (F : Nat → Prop) (w w' : World) (k : Nat) : Prop := F k ∨ (w.heap.size ≤ k ∧ k < w'.heap.size)
theorem Fx.f (h : ∀ k, F k → we.heap.size ≤ k ∧ k < w.heap.size) (hs : we.heap.size ≤ w.heap.size) (hs2 : w.heap.size ≤ w'.heap.size) : ∀ k, Fx F w w' k → we.heap.size ≤ k ∧ k < w'.heap.size := by
  rintro k (h1 | ⟨h1, h2⟩)
  · exact ⟨(h k h1).1, by have := (h k h1).2; omega⟩
  · exact ⟨by omega, h2⟩
theorem Fx.or : ∀ k, Fx F w w' k → F k ∨ w.heap.size ≤ k := by
  rintro k (h | h)
  · exact .inl h
  · exact .inr h.1
/-- An operation on the disk. -/
theorem IM.disk (h : IM we w b bs n d o p F) (hs : we.heap.size ≤ w.heap.size) {fn : Nat} {args : Array Value} {v : Value} {d' : DD} (hc : ∀ bm pv, DiskAt w b bs bm pv d n → Calls Tryz.prog fn args w (DkPost w b bs bm n pv d' v)) :
    Calls Tryz.prog fn args w (IMPost we w b bs n F v d' (toO o d') p) := by
  rcases h.body with ⟨rfl, rfl, bm, pv, h3, h4⟩ | ⟨s, jb, bm, pv, rv, rfl, h2, rfl, h4, h5⟩
  · refine (hc bm pv h3).mono ?_
    rintro e w' ⟨he, bm', pv', k1, k2, k3, k4⟩
    refine ⟨he, Fx F w w', ⟨Fx.f h.f hs k2.size, .inl ⟨rfl, rfl, bm', pv', k1, ?_⟩⟩, k2.mono (fun k _ f => h4 k f), Fx.or⟩
    rintro k (rfl | rfl | rfl | e)
    · exact .inl (h4 _ (.inl rfl))
    · exact .inl (h4 _ (.inr (.inl rfl)))
    · rcases k3 with rfl | k3
      · exact .inl (h4 _ (.inr (.inr (.inl rfl))))
      · exact .inr ⟨k3, k1.lt (.inr (.inr (.inl rfl)))⟩
    · rcases k4 k e with h | h
      · exact .inl (h4 k (.inr (.inr (.inr h))))
      · exact .inr ⟨h, k1.lt (.inr (.inr (.inr e)))⟩
  · have hd := h4.disk
    rw [h2] at hd
    refine (hc bm pv hd).mono ?_
    rintro e w' ⟨he, bm', pv', k1, k2, k3, k4⟩
    have hj : JAt w' jb b bs bm' pv' rv n { s with d := d' } := ⟨h4.n4, k1, h4.blk.keepB (k2.block jb h4.blk.lt (notFp h4.disk h4.blk (by decide) (by decide) (by decide))),
      h4.row.keep (fun k e => k2.block k (World.ownsRow.lt h4.row k e).2 (row_notFp h4.disk h4.row (by decide) (by decide) (by decide) e)), h4.num, h4.hf, h4.len, h4.at_⟩
    refine ⟨he, Fx F w w', ⟨Fx.f h.f hs k2.size, .inr ⟨{ s with d := d' }, jb, bm', pv', rv, rfl, rfl, rfl, hj, ?_⟩⟩, k2.mono (fun k _ f => h5 k (.inr (.inr f))), Fx.or⟩
    rintro k (rfl | e | rfl | rfl | rfl | e)
    · exact .inl (h5 _ (.inl rfl))
    · exact .inl (h5 _ (.inr (.inl e)))
    · exact .inl (h5 _ (.inr (.inr (.inl rfl))))
    · exact .inl (h5 _ (.inr (.inr (.inr (.inl rfl)))))
    · rcases k3 with rfl | k3
      · exact .inl (h5 _ (.inr (.inr (.inr (.inr (.inl rfl))))))
      · exact .inr ⟨k3, k1.lt (.inr (.inr (.inl rfl)))⟩
    · rcases k4 k e with h | h
      · exact .inl (h5 k (.inr (.inr (.inr (.inr (.inr h))))))
      · exact .inr ⟨h, k1.lt (.inr (.inr (.inr e)))⟩
theorem japp_nil (t : ByteArray) (w : World) : Calls Tryz.prog 13 #[.pointer none, .string t] w fun e w' => e = .returned (.int .i64 1) ∧ Below w.heap.size w w' := by
  have HB := Lib.hid (fun (o : Obj) => (Below.refl w.heap.size w).alloc (Nat.le_refl _) o)
  go_enter Tryz.func13, Tryz.ntmps13
  go_wp2_with fail
  go_ret
  first
    | exact ⟨rfl, HB.out _⟩
    | exact ⟨rfl, Below.refl _ _⟩
    | exact ⟨rfl, (HB.out _).alloc (by simp) _⟩
theorem jcmp_nil (v : Value) (w : World) : Calls Tryz.prog 15 #[.pointer none, v] w fun e w' => e = .returned (.int .i64 1) ∧ Below w.heap.size w w' := by
  have HB := Lib.hid (fun (o : Obj) => (Below.refl w.heap.size w).alloc (Nat.le_refl _) o)
  go_enter Tryz.func15, Tryz.ntmps15
  go_wp2_with fail
  go_ret
  first
    | exact ⟨rfl, HB.out _⟩
    | exact ⟨rfl, Below.refl _ _⟩
    | exact ⟨rfl, (HB.out _).alloc (by simp) _⟩
theorem IM.post (h : IM we w b bs n d o p F) (hs : we.heap.size ≤ w.heap.size) {jb bm : Nat} {pv rv : Value} {s : JS} {r : JS × Int} {e : Ending} (hj : JAt w jb b bs bm pv rv n s) (hf : ∀ k, JFp jb b bs bm pv rv k → F k)
    (q : JPost w jb b bs bm n pv rv r e w') : IMPost we w b bs n F (.int .i64 r.2) r.1.d (some r.1) (some ⟨jb, 0, none⟩) e w' := by
  obtain ⟨h1, bm', pv', rv', h2, h3, h4, h5, h6⟩ := q
  refine ⟨h1, Fx F w w', ⟨Fx.f h.f hs h3.size, .inr ⟨r.1, jb, bm', pv', rv', rfl, rfl, rfl, h2, ?_⟩⟩, h3.mono (fun k _ f => hf k f), Fx.or⟩
  rintro k (rfl | e | rfl | rfl | rfl | e)
  · exact .inl (hf _ (.inl rfl))
  · rcases h6 k e with h | h
    · exact .inl (hf k (.inr (.inl h)))
    · exact .inr ⟨h, h2.lt (.inr (.inl e))⟩
  · exact .inl (hf _ (.inr (.inr (.inl rfl))))
  · exact .inl (hf _ (.inr (.inr (.inr (.inl rfl)))))
  · rcases h4 with rfl | h4
    · exact .inl (hf _ (.inr (.inr (.inr (.inr (.inl rfl))))))
    · exact .inr ⟨h4, h2.lt (.inr (.inr (.inr (.inr (.inl rfl)))))⟩
  · rcases h5 k e with h | h
    · exact .inl (hf k (.inr (.inr (.inr (.inr (.inr h))))))
    · exact .inr ⟨h, h2.lt (.inr (.inr (.inr (.inr (.inr e)))))⟩
theorem IM.app (h : IM we w b bs n d o p F) (hi : Inv n d o) (hT : HasT we) (hb : Below we.heap.size we w) (t : ByteArray) (ht : t.size ≤ 9223372036854775807) :
    Calls Tryz.prog 13 #[.pointer p, .string t] w (IMPost we w b bs n F (.int .i64 (apO n d o t.data.toList).2.2) (apO n d o t.data.toList).1 (apO n d o t.data.toList).2.1 p) := by
  have hs := hb.size
  rcases h.body with ⟨rfl, rfl, bm, pv, h3, h4⟩ | ⟨s, jb, bm, pv, rv, rfl, h2, rfl, h4, h5⟩
  · refine (japp_nil t w).mono ?_
    rintro e w' ⟨rfl, hb2⟩
    exact ⟨rfl, F, h.below hb2, Keep.of_below hb2, fun k hk => .inl hk⟩
  · obtain ⟨hd, _, hf, hr⟩ := hi.js s rfl
    have hfew := hi.few
    refine (append_any t h4 (fun hbr => by rw [hd]; exact (hf hbr).1) (by rw [hd, hi.pend]; decide) (by show s.recs.length ≤ _; have : s.recs.length ≤ 16000 := hfew; omega) ht ⟨hT, hb, fun k hk => (h.f k (h5 k (.inr (.inr hk)))).1⟩).mono ?_
    intro e w' q
    exact h.post hs h4 h5 q
theorem IM.cmp (h : IM we w b bs n d o p F) (hi : Inv n d o) (hT : HasT we) (hb : Below we.heap.size we w) {A : Option Addr} {c : Nat} (l : List ByteArray) (hS : SL we 1 encS A l) (hl : l.length ≤ 100000) :
    Calls Tryz.prog 15 #[.pointer p, .slice A l.length c] w (IMPost we w b bs n F (.int .i64 (cmO n d o (recsOf l)).2.2) (cmO n d o (recsOf l)).1 (cmO n d o (recsOf l)).2.1 p) := by
  have hs := hb.size
  rcases h.body with ⟨rfl, rfl, bm, pv, h3, h4⟩ | ⟨s, jb, bm, pv, rv, rfl, h2, rfl, h4, h5⟩
  · refine (jcmp_nil _ w).mono ?_
    rintro e w' ⟨rfl, hb2⟩
    exact ⟨rfl, F, h.below hb2, Keep.of_below hb2, fun k hk => .inl hk⟩
  · obtain ⟨hd, _, hf, hr⟩ := hi.js s rfl
    refine (compact_any (c := c) l h4 (fun hbr _ => by rw [hd]; exact (hf hbr).1) (by rw [hd, hi.pend]; decide) (hS.below hb (Nat.le_refl _)) (fun w' hk => hS.below (hb.trans (hk.below (fun k hk => (h.f k (h5 k hk)).1) hs)) (Nat.le_refl _)) (by omega) ⟨hT, hb, fun k hk => (h.f k (h5 k (.inr (.inr hk)))).1⟩).mono ?_
    intro e w' q
    exact h.post hs h4 h5 q
theorem IM.recs (h : IM we w b bs n d o p F) (hi : Inv n d o) : Calls Tryz.prog 11 #[.pointer p] w fun e w' => ∃ A c, e = .returned (.slice A (recO o).length c) ∧ RowT w' w.heap.size (.slice A (recO o).length c) (recO o) ∧ Below w.heap.size w w' := by
  have hfew := hi.few
  rcases h.body with ⟨rfl, rfl, bm, pv, h3, h4⟩ | ⟨s, jb, bm, pv, rv, rfl, h2, rfl, h4, h5⟩
  · refine (records_nil w).mono ?_
    rintro e w' ⟨rfl, rfl⟩
    exact ⟨none, 0, rfl, World.ownsRow_nil _ _ _ _, Below.refl _ _⟩
  · exact records_any h4 (by have : s.recs.length ≤ 16000 := hfew; omega)
theorem IM.opn (h : IM we w b bs n d o p F) (hb : Below we.heap.size we w) : Calls Tryz.prog 8 #[.pointer (some ⟨b, 0, none⟩)] w fun e w' => ∃ (p' : Option Addr) (A : Option Addr) (c : Nat) (F' : Nat → Prop), e = .returned (.tuple #[.pointer p', .slice A (opO n d).2.2.length c, .int .i64 (opO n d).2.1]) ∧
    IM we w' b bs n d (opO n d).1 p' F' ∧ RowT w' w.heap.size (.slice A (opO n d).2.2.length c) (opO n d).2.2 ∧ Below w.heap.size w w' ∧ (∀ k, F' k → F k ∨ w.heap.size ≤ k) ∧ (∀ k, (Value.slice A (opO n d).2.2.length c).ownBlock = some k → ¬ F' k) := by
  have hs := hb.size
  have key : ∀ bm pv, DiskAt w b bs bm pv d n → (∀ k, Fp b bs bm pv k → F k) → Calls Tryz.prog 8 #[.pointer (some ⟨b, 0, none⟩)] w fun e w' => ∃ (p' : Option Addr) (A : Option Addr) (c : Nat) (F' : Nat → Prop), e = .returned (.tuple #[.pointer p', .slice A (opO n d).2.2.length c, .int .i64 (opO n d).2.1]) ∧
      IM we w' b bs n d (opO n d).1 p' F' ∧ RowT w' w.heap.size (.slice A (opO n d).2.2.length c) (opO n d).2.2 ∧ Below w.heap.size w w' ∧ (∀ k, F' k → F k ∨ w.heap.size ≤ k) ∧ (∀ k, (Value.slice A (opO n d).2.2.length c).ownBlock = some k → ¬ F' k) := fun bm pv hd hf => by
    refine (open_any hd).mono ?_
    rintro e w' ⟨h1, ⟨h2, rfl⟩ | ⟨v, a, r, jb, rv, A, c, h2, rfl, h3, h4, h5, h6, h7⟩⟩
    · have e1 : opO n d = (none, (openD n d).1, []) := by
        unfold opO
        split
        · rename_i c ho; rw [ho]
        · rename_i ho; rw [ho] at h2; cases h2
      rw [e1]
      exact ⟨none, none, 0, F, rfl, ⟨fun k hk => ⟨(h.f k hk).1, Nat.lt_of_lt_of_le (h.f k hk).2 h1.size⟩, .inl ⟨rfl, rfl, bm, pv, hd.below h1, hf⟩⟩, World.ownsRow_nil _ _ _ _, h1, fun k hk => .inl hk, fun k hk => by cases hk⟩
    · have e1 : opO n d = (some ⟨d, v, a, r, false⟩, 0, r) := by unfold opO; rw [h2]
      rw [e1]
      refine ⟨some ⟨jb, 0, none⟩, A, c, fun k => F k ∨ (JFp jb b bs bm pv rv k ∧ w.heap.size ≤ k), rfl, ⟨?_, .inr ⟨_, jb, bm, pv, rv, rfl, rfl, rfl, h3, ?_⟩⟩, h6, h1, ?_, ?_⟩
      · rintro k (hk | ⟨hk, hk2⟩)
        · exact ⟨(h.f k hk).1, Nat.lt_of_lt_of_le (h.f k hk).2 h1.size⟩
        · exact ⟨by omega, h3.lt hk⟩
      · intro k hk
        rcases hk with e | e | e
        · exact .inr ⟨.inl e, by omega⟩
        · exact .inr ⟨.inr (.inl e), h5 k e⟩
        · exact .inl (hf k e)
      · rintro k (hk | ⟨_, hk⟩)
        · exact .inl hk
        · exact .inr hk
      · rintro k hk (hf' | ⟨hf', _⟩)
        · have := (World.ownsRow.lt h6 k hk).1
          have := (h.f k hf').2
          omega
        · exact h7 k hk hf'
  rcases h.body with ⟨rfl, rfl, bm, pv, h3, h4⟩ | ⟨s, jb, bm, pv, rv, rfl, h2, rfl, h4, h5⟩
  · exact key bm pv h3 h4
  · have hd := h4.disk
    rw [h2] at hd
    exact key bm pv hd (fun k hk => h5 k (.inr (.inr hk)))
end
end Go.Proofs.YthfjaaigncjhlaaGreatDoor
