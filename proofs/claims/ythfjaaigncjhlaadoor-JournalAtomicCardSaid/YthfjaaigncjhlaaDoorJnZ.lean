/- A journal's operation on an armed disk, plain: what is found afterwards. No condition. -/
import Derived.Test.YthfjaaigncjhlaaDoorZ45C
namespace Go.Jn
open Go Go.Dk
/-- A sound journal, m operations old, that a failure leaves sound. -/
structure JFirm (n : Nat) (s : JS) (m : Nat) : Prop where
  good : JGood n s m
  firm : Firm n s.d.st s.v s.a
theorem JFirm.new {n : Nat} (hn : 4 ≤ n) (h2 : n ≤ 4000) : JFirm n ⟨DD.new n, (0, 0, 0), 0, [], false⟩ 0 := ⟨JGood.new hn h2, (new_found hn).2⟩
theorem arm_ok {n : Nat} {d : DD} (h : d.Ok n) {x y z : Int} (hx0 : -9223372036854775808 ≤ x) (hx1 : x ≤ 9223372036854775807) (hy0 : -9223372036854775808 ≤ y) (hy1 : y ≤ 9223372036854775807) (hz0 : -9223372036854775808 ≤ z) (hz1 : z ≤ 9223372036854775807) : (d.arm x y z).Ok n := by
  unfold DD.arm
  split
  · exact ⟨h.len, h.sec, h.few, hx0, hx1, hy0, hy1, hz0, hz1, h.n1, h.n2⟩
  · exact h
/-- A disk that is on again, and not armed. -/
theorem firm_again {n : Nat} {d : DD} {v : Nat × Nat × Nat} {a m : Nat} {r : List (List UInt8)} (hn : 4 ≤ n) (hok : d.Ok n) (hon : d.on = true) (hp : d.pend = []) (hf : Found n d.st v a r) (hfi : Firm n d.st v a) (hm : v.1 ≤ m) :
    openD n (d.arm (-1) 0 0) = (0, some (v, a, r)) ∧ JFirm n ⟨d.arm (-1) 0 0, v, a, r, false⟩ m := by
  have hk := arm_ok (x := -1) (y := 0) (z := 0) hok (by decide) (by decide) (by decide) (by decide) (by decide) (by decide)
  obtain ⟨d2, e2⟩ : ∃ d2, d2 = d.arm (-1) 0 0 := ⟨_, rfl⟩
  have h1 : d2.on = true ∧ d2.pend = [] ∧ d2.armed = false ∧ d2.st = d.st := by
    rw [e2]; unfold DD.arm; rw [if_pos hon]; exact ⟨hon, hp, (show decide ((0 : Int) ≤ -1) = false by decide), rfl⟩
  rw [← e2] at hk ⊢
  obtain ⟨h1, h2, h3, h4⟩ := h1
  rw [← h4] at hf hfi
  exact ⟨open_found h1 hn (by rw [eff_nil h2]; exact hf), ⟨hk, h1, h2, h3, rfl, hf, hm⟩, hfi⟩
/-- What is found behind an operation on an armed disk. -/
def Atom (n : Nat) (s : JS) (m : Nat) (r : JS × Int) (aft : List (List UInt8)) : Prop :=
  ∀ d2, ((r.2 = 21 ∧ d2 = (r.1.d.start).arm (-1) 0 0) ∨ (r.2 ≠ 21 ∧ d2 = r.1.d.arm (-1) 0 0)) →
    ∃ v a rec, openD n d2 = (0, some (v, a, rec)) ∧ JFirm n ⟨d2, v, a, rec, false⟩ (m + 1) ∧ (rec = s.recs ∨ rec = aft) ∧ (r.2 = 0 → rec = aft) ∧ (r.2 ≠ 0 → r.2 ≠ 21 → rec = s.recs)
theorem atom_err {n : Nat} {s s1 : JS} {m : Nat} {c : Int} {aft : List (List UInt8)} (hn : 4 ≤ n) (h : JFirm n s m) (hs : s1.d.st = s.d.st) (hok : s1.d.Ok n) (hon : s1.d.on = true) (hp : s1.d.pend = []) (hc : c ≠ 0) (hc2 : c ≠ 21) : Atom n s m (s1, c) aft := by
  rintro d2 (⟨e, _⟩ | ⟨_, rfl⟩)
  · exact absurd e hc2
  · have := firm_again (m := m + 1) hn hok hon hp (by rw [hs]; exact h.good.found) (by rw [hs]; exact h.firm) (by have := h.good.num; omega)
    exact ⟨_, _, _, this.1, this.2, .inl rfl, fun e => absurd e hc, fun _ _ => rfl⟩
theorem atom_changed {n : Nat} {s s1 : JS} {m : Nat} {w : Nat × Nat × Nat} {q : DD × Int} {aft : List (List UInt8)} (hn : 4 ≤ n) (h : JFirm n s m) (hs : s1.d.st = s.d.st) (hw : w.1 = s.v.1 + 1)
    (hq : Changed n s1.d s.v s.a s.recs w aft q) : Atom n s m (if q.2 = 0 then (⟨q.1, w, 1 - s.a, aft, false⟩, 0) else ({ s1 with d := q.1, broken := true }, q.2)) aft := by
  have hnum := h.good.num
  obtain ⟨k1, ⟨k2, k3, k4, _, k6, k7⟩ | ⟨k2, _, k4, k5, k6⟩⟩ := hq
  · rw [if_pos k2]
    rintro d2 (⟨e, _⟩ | ⟨_, rfl⟩)
    · cases e
    · have := firm_again (m := m + 1) hn k1 k3 k4 k6 k7 (by omega)
      exact ⟨_, _, _, this.1, this.2, .inr rfl, fun _ => rfl, fun e => absurd rfl e⟩
  · rw [k2, if_neg (show ¬ ((21 : Int) = 0) by decide)]
    rintro d2 (⟨_, rfl⟩ | ⟨e, _⟩)
    · rcases k6 (by rw [hs]; exact h.firm) with ⟨f1, f2⟩ | ⟨f1, f2⟩
      · have := firm_again (d := q.1.start) (m := m + 1) hn k1.start rfl k5 f1 f2 (by omega)
        exact ⟨_, _, _, this.1, this.2, .inl rfl, fun e => absurd e (show ¬ ((21 : Int) = 0) by decide), fun _ e => absurd rfl e⟩
      · have := firm_again (d := q.1.start) (m := m + 1) hn k1.start rfl k5 f1 f2 (by omega)
        exact ⟨_, _, _, this.1, this.2, .inr rfl, fun e => absurd e (show ¬ ((21 : Int) = 0) by decide), fun _ e => absurd rfl e⟩
    · exact absurd rfl e
section
variable {n : Nat} {s s1 : JS} {m : Nat} {d1 : DD}
theorem atom_append (hn : 4 ≤ n) (h : JFirm n s m) (hm : m < 999999999) (hs : d1.st = s.d.st) (hok : d1.Ok n) (hon : d1.on = true) (hp : d1.pend = []) (b : List UInt8) : Atom n s m (JS.append n { s with d := d1 } b) (s.recs ++ [b]) := by
  have hbr := h.good.brk
  have hnum := h.good.num
  unfold JS.append
  dsimp only
  rw [if_neg (by rw [hbr]; decide)]
  split
  · exact atom_err hn h hs hok hon hp (by decide) (by decide)
  · split
    · exact atom_err hn h hs hok hon hp (by decide) (by decide)
    · have sp := append_spec (b := b) hok hon hp hn (by rw [hs]; exact h.good.found) (by omega) (by omega) (by omega)
      exact atom_changed (s1 := { s with d := d1 }) hn h hs rfl sp
theorem atom_compact (hn : 4 ≤ n) (h : JFirm n s m) (hm : m < 999999999) (hs : d1.st = s.d.st) (hok : d1.Ok n) (hon : d1.on = true) (hp : d1.pend = []) (l : List (List UInt8)) : Atom n s m (JS.compact n { s with d := d1 } l) l := by
  have hbr := h.good.brk
  have hnum := h.good.num
  unfold JS.compact
  dsimp only
  rw [if_neg (by rw [hbr]; decide)]
  split
  · exact atom_err hn h hs hok hon hp (by decide) (by decide)
  · rename_i hb
    split
    · exact atom_err hn h hs hok hon hp (by decide) (by decide)
    · have sp := compact_spec (l := l) hok hon hp hn (by rw [hs]; exact h.good.found) (by omega) (fun b hm => Nat.le_of_not_lt fun hc => hb ⟨b, hm, hc⟩) (by omega)
      rw [Nat.zero_add] at sp
      exact atom_changed (s1 := { s with d := d1 }) hn h hs rfl sp
end
end Go.Jn
