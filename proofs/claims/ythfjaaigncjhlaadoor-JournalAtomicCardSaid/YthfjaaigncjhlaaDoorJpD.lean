/- A journal whose disk is turned off, on, or armed. No condition. -/
import Derived.Test.YthfjaaigncjhlaaDoorZ45C
namespace Go.Jn
open Go Go.Dk
theorem fail_off {d : DD} (h : d.on = true) (x y : Int) : (d.fail x y).on = false ∧ (d.fail x y).pend = [] := by
  unfold DD.fail
  rw [if_pos h]
  exact ⟨rfl, rfl⟩
theorem compact_off {n : Nat} {s : JS} (hb : s.broken = false) (hoff : s.d.on = false) (hnum : s.v.1 ≠ 999999999) : s.compact n [] = ({ s with broken := true }, 21) := by
  have e1 : framesL [] = [] := rfl
  have hw : ∀ (k : Int) (t : List UInt8), DD.write n s.d k t = (s.d, 21) := fun k t => by
    unfold DD.write
    rw [if_neg (by rw [hoff]; decide)]
  have hp : ∀ (k : Nat) (t : List UInt8), putD n k t s.d = (s.d, 21) := fun k t => by
    unfold putD
    rw [hw, if_neg (show ¬ ((21 : Int) = 0) by decide)]
  have e : changeD n s.a s.v.1 (1 - s.v.2.1) 0 (framesL []) s.d = (s.d, 21) := by
    unfold changeD storeD
    rw [e1, if_pos rfl, if_pos rfl]
    unfold commitD
    rw [hp, if_neg (show ¬ ((21 : Int) = 0) by decide)]
  unfold JS.compact
  rw [if_neg (by rw [hb]; decide), if_neg (by rintro ⟨b, h, _⟩; cases h), if_neg (by show ¬ (32 * ((n - 2) / 2) < 0 ∨ _); omega), e, if_neg (show ¬ ((21 : Int) = 0) by decide)]
theorem broken_append {n : Nat} {s : JS} (hb : s.broken = true) (b : List UInt8) : s.append n b = (s, 13) := by
  unfold JS.append
  rw [if_pos hb]
theorem broken_compact {n : Nat} {s : JS} (hb : s.broken = true) (l : List (List UInt8)) : s.compact n l = (s, 13) := by
  unfold JS.compact
  rw [if_pos hb]
theorem open_off {n : Nat} {d : DD} (h : d.on = false) : openD n d = (21, none) := by
  unfold openD
  rw [if_pos h]
end Go.Jn
namespace Go.Proofs.YthfjaaigncjhlaaDoor
open Go.RowKit Go.Blk Go.Jn Go.Dk Go.Mp Go.Rf Go.Shelf Go.Apl Go.Opn

section
variable {we w w' : World} {jb b bs bm n : Nat} {pv rv : Value} {s : JS} {d : DD}
/-- What an operation on the journal's disk leaves. -/
theorem PI.disk {v : Value} {e : Ending} (h : PI we w jb b bs bm n pv rv s) (p : DkPost w b bs bm n pv d v e w') :
    e = .returned v ∧ ∃ bm' pv', PI we w' jb b bs bm' n pv' rv { s with d := d } ∧ Keep (JFp jb b bs bm pv rv) w w' ∧ (∀ k, JFp jb b bs bm' pv' rv k → JFp jb b bs bm pv rv k ∨ w.heap.size ≤ k) := by
  obtain ⟨h1, bm', pv', hd, hk, hb, hv⟩ := p
  have hs := h.e.bl.size
  have hf : ∀ k, JFp jb b bs bm' pv' rv k → JFp jb b bs bm pv rv k ∨ w.heap.size ≤ k := by
    rintro k (rfl | e | rfl | rfl | rfl | e)
    · exact .inl (.inl rfl)
    · exact .inl (.inr (.inl e))
    · exact .inl (.inr (.inr (.inl rfl)))
    · exact .inl (.inr (.inr (.inr (.inl rfl))))
    · rcases hb with rfl | hb
      · exact .inl (.inr (.inr (.inr (.inr (.inl rfl)))))
      · exact .inr hb
    · exact (hv k e).imp (fun h => .inr (.inr (.inr (.inr (.inr h))))) id
  have hf2 : ∀ k, JFp jb b bs bm' pv' rv k → we.heap.size ≤ k := fun k hk => (hf k hk).elim (fun h' => h.fp h') (fun h' => by omega)
  refine ⟨h1, bm', pv', ⟨⟨h.j.n4, hd, ?_, ?_, h.j.num, h.j.hf, h.j.len, h.j.at_⟩, ⟨h.e.t, h.e.bl.trans (hk.below (fun k hk => h.e.f k hk) hs), fun k hk => hf2 k (.inr (.inr hk))⟩, h.jb, h.rv⟩, hk.mono (fun k _ f => .inr (.inr f)), hf⟩
  · exact h.j.blk.keepB (hk.block jb h.j.blk.lt (notFp h.j.disk h.j.blk (by decide) (by decide) (by decide)))
  · exact h.j.row.keep (fun k e => hk.block k (World.ownsRow.lt h.j.row k e).2 (row_notFp h.j.disk h.j.row (by decide) (by decide) (by decide) e))
theorem dk_start (h : DiskAt w b bs bm pv d n) : Calls Tryd.prog 23 #[.pointer (some ⟨b, 0, none⟩)] w (DkPost w b bs bm n pv d.start (.tuple #[])) :=
  (start_any h).mono fun _ _ p => ⟨p.1, bm, pv, p.2.1, p.2.2, .inl rfl, fun _ h => .inl h⟩
theorem dk_arm (h : DiskAt w b bs bm pv d n) (x y z : Int) (hx0 : -9223372036854775808 ≤ x) (hx1 : x ≤ 9223372036854775807) (hy0 : -9223372036854775808 ≤ y) (hy1 : y ≤ 9223372036854775807) (hz0 : -9223372036854775808 ≤ z) (hz1 : z ≤ 9223372036854775807) :
    Calls Tryd.prog 24 #[.pointer (some ⟨b, 0, none⟩), .int .i64 x, .int .i64 y, .int .i64 z] w (DkPost w b bs bm n pv (d.arm x y z) (.tuple #[])) :=
  (arm_any h x y z hx0 hx1 hy0 hy1 hz0 hz1).mono fun _ _ p => ⟨p.1, bm, pv, p.2.1, p.2.2, .inl rfl, fun _ h => .inl h⟩
end
end Go.Proofs.YthfjaaigncjhlaaDoor
