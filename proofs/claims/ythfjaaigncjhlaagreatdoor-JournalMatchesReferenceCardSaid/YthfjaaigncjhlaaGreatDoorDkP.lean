/- A disk, plainly: its contents, pending writes, and what each operation makes of it. No condition. -/
import Derived.Test.YthfjaaigncjhlaaGreatDoorBlk
namespace Go.Dk

structure DD where
  on : Bool
  st : List UInt8
  pend : List (Nat × List UInt8)
  armed : Bool
  after : Int
  writes : Int
  bytes : Int

def splice8 (l : List UInt8) (o : Nat) (t : List UInt8) : List UInt8 := l.take o ++ (t ++ l.drop (o + t.length))
theorem splice8_len (l t : List UInt8) (o : Nat) (h : o + t.length ≤ l.length) : (splice8 l o t).length = l.length := by simp [splice8]; omega

/-- The last pending write to a sector. -/
def lastFrom (i : Nat) : List (Nat × List UInt8) → Int → Option Int
  | [], _ => none
  | x :: r, y => match lastFrom (i + 1) r y with
    | some j => some j
    | none => if y = (x.1 : Int) then some i else none
def lastOf (p : List (Nat × List UInt8)) : Int → Option Int := lastFrom 0 p
theorem lastFrom_snoc (p : List (Nat × List UInt8)) (x : Nat × List UInt8) : ∀ (i : Nat) (y : Int), lastFrom i (p ++ [x]) y = if y = (x.1 : Int) then some ((i + p.length : Nat) : Int) else lastFrom i p y := by
  induction p with
  | nil => intro i y; simp [lastFrom]
  | cons a r ih =>
    intro i y
    simp only [List.cons_append, lastFrom, ih]
    by_cases h : y = (x.1 : Int)
    · simp [h]; omega
    · simp [h]
theorem lastOf_snoc (p : List (Nat × List UInt8)) (x : Nat × List UInt8) : lastOf (p ++ [x]) = fun y => if y = (x.1 : Int) then some (p.length : Int) else lastOf p y := by
  funext y; unfold lastOf; rw [lastFrom_snoc]; simp
theorem lastFrom_some (p : List (Nat × List UInt8)) : ∀ (i : Nat) (y j : Int), lastFrom i p y = some j → ∃ (m : Nat) (x : Nat × List UInt8), j = ((i + m : Nat) : Int) ∧ p[m]? = some x ∧ (x.1 : Int) = y := by
  induction p with
  | nil => intro i y j h; simp [lastFrom] at h
  | cons a r ih =>
    intro i y j h
    simp only [lastFrom] at h
    cases hr : lastFrom (i + 1) r y with
    | some j' =>
      rw [hr] at h
      simp at h
      subst h
      obtain ⟨m, x, hj, hx, hy⟩ := ih _ _ _ hr
      exact ⟨m + 1, x, by rw [hj]; congr 1; omega, by simpa using hx, hy⟩
    | none =>
      rw [hr] at h
      simp at h
      exact ⟨0, a, by simp [h.2], rfl, h.1.symm⟩
theorem lastOf_some {p : List (Nat × List UInt8)} {y j : Int} (h : lastOf p y = some j) : ∃ (m : Nat) (x : Nat × List UInt8), j = (m : Int) ∧ p[m]? = some x ∧ (x.1 : Int) = y := by
  obtain ⟨m, x, hj, hx, hy⟩ := lastFrom_some p 0 y j h
  exact ⟨m, x, by simpa using hj, hx, hy⟩

/-- The stable bytes when the first k pending writes have been looked at. -/
def sAt (st : List UInt8) (p : List (Nat × List UInt8)) (ws bs : Nat) : Nat → List UInt8
  | 0 => st
  | k + 1 => match p[k]? with
    | none => sAt st p ws bs k
    | some x => if k < ws then splice8 (sAt st p ws bs k) (32 * x.1) x.2 else if k = ws then splice8 (sAt st p ws bs k) (32 * x.1) (x.2.take bs) else sAt st p ws bs k
def settled (st : List UInt8) (p : List (Nat × List UInt8)) (ws bs : Nat) : List UInt8 := sAt st p ws bs p.length

structure DD.Ok (n : Nat) (d : DD) : Prop where
  len : d.st.length = 32 * n
  sec : ∀ (i : Nat) x, d.pend[i]? = some x → x.1 < n ∧ x.2.length = 32
  few : d.pend.length ≤ 1000000
  a0 : -9223372036854775808 ≤ d.after
  a1 : d.after ≤ 9223372036854775807
  w0 : -9223372036854775808 ≤ d.writes
  w1 : d.writes ≤ 9223372036854775807
  b0 : -9223372036854775808 ≤ d.bytes
  b1 : d.bytes ≤ 9223372036854775807
  n1 : 1 ≤ n
  n2 : n ≤ 4000
theorem sAt_len {n : Nat} {st : List UInt8} {p : List (Nat × List UInt8)} (ws bs : Nat) (hl : st.length = 32 * n) (hp : ∀ (i : Nat) x, p[i]? = some x → x.1 < n ∧ x.2.length = 32) : ∀ k, (sAt st p ws bs k).length = 32 * n
  | 0 => hl
  | k + 1 => by
    have ih := sAt_len ws bs hl hp k
    unfold sAt
    cases hx : p[k]? with
    | none => exact ih
    | some x =>
      obtain ⟨h1, h2⟩ := hp k x hx
      simp only
      split
      · rw [splice8_len _ _ _ (by omega)]; exact ih
      · split
        · rw [splice8_len _ _ _ (by rw [List.length_take]; omega)]; exact ih
        · exact ih

def clampW (x : Int) : Nat := (max x 0).toNat
def clampB (x : Int) : Nat := (min (max x 0) 32).toNat
/-- What the operations make of a disk. -/
def DD.fail (d : DD) (w b : Int) : DD := if d.on then { d with on := false, st := settled d.st d.pend (clampW w) (clampB b), pend := [], armed := false } else d
def DD.start (d : DD) : DD := { d with on := true, armed := false }
def DD.arm (d : DD) (a w b : Int) : DD := if d.on then { d with armed := decide (0 ≤ a), after := a, writes := w, bytes := b } else d
def DD.failsB (d : DD) : Bool := d.armed && decide (d.after ≤ 0)
def DD.tick (d : DD) : DD := if d.armed ∧ 0 < d.after then { d with after := d.after - 1 } else d
def DD.sync (d : DD) : DD × Int :=
  if d.on then (if d.failsB then (d.fail d.writes d.bytes, 21) else ({ d.tick with st := settled d.st d.pend d.pend.length 0, pend := [] }, 0)) else (d, 21)
def DD.hasB (n : Nat) (s : Int) : Bool := decide (0 ≤ s ∧ s < n)
def DD.push (d : DD) (s : Int) (t : List UInt8) : DD := { d with pend := d.pend ++ [(s.toNat, t)] }
def DD.write (n : Nat) (d : DD) (s : Int) (t : List UInt8) : DD × Int :=
  if d.on then (if DD.hasB n s ∧ t.length = 32 then (if d.failsB then ((d.push s t).fail d.writes d.bytes, 21) else ((d.push s t).tick, 0)) else (d, 1)) else (d, 21)
def DD.text (d : DD) (s : Nat) : List UInt8 :=
  match lastOf d.pend s with
  | some j => ((d.pend[j.toNat]?).map (·.2)).getD []
  | none => (d.st.drop (32 * s)).take 32
def DD.read (n : Nat) (d : DD) (s : Int) : List UInt8 × Int :=
  if d.on then (if DD.hasB n s then (d.text s.toNat, 0) else ([], 1)) else ([], 21)
def DD.new (n : Nat) : DD := { on := true, st := List.replicate (32 * n) 0, pend := [], armed := false, after := 0, writes := 0, bytes := 0 }

theorem DD.Ok.new {n : Nat} (h1 : 1 ≤ n) (h2 : n ≤ 4000) : (DD.new n).Ok n := ⟨by simp [DD.new], fun i x h => by simp [DD.new] at h, by simp [DD.new], show (-9223372036854775808 : Int) ≤ 0 by decide, show (0 : Int) ≤ 9223372036854775807 by decide, show (-9223372036854775808 : Int) ≤ 0 by decide, show (0 : Int) ≤ 9223372036854775807 by decide, show (-9223372036854775808 : Int) ≤ 0 by decide, show (0 : Int) ≤ 9223372036854775807 by decide, h1, h2⟩
theorem DD.Ok.start {n : Nat} {d : DD} (h : d.Ok n) : d.start.Ok n := ⟨h.len, h.sec, h.few, h.a0, h.a1, h.w0, h.w1, h.b0, h.b1, h.n1, h.n2⟩
theorem DD.Ok.settle {n : Nat} {d : DD} (h : d.Ok n) (ws bs : Nat) (o a : Bool) : ({ d with on := o, st := settled d.st d.pend ws bs, pend := [], armed := a } : DD).Ok n :=
  ⟨sAt_len ws bs h.len h.sec _, fun i x hx => by simp at hx, by simp, h.a0, h.a1, h.w0, h.w1, h.b0, h.b1, h.n1, h.n2⟩
theorem DD.Ok.fail {n : Nat} {d : DD} (h : d.Ok n) (w b : Int) : (d.fail w b).Ok n := by
  unfold DD.fail; split
  · exact h.settle _ _ _ _
  · exact h
theorem DD.Ok.tick {n : Nat} {d : DD} (h : d.Ok n) : d.tick.Ok n := by
  unfold DD.tick; split
  · rename_i hc
    exact ⟨h.len, h.sec, h.few, by have := h.a0; show _ ≤ d.after - 1; omega, by have := h.a1; show d.after - 1 ≤ _; omega, h.w0, h.w1, h.b0, h.b1, h.n1, h.n2⟩
  · exact h
theorem DD.Ok.push {n : Nat} {d : DD} (h : d.Ok n) {s : Int} {t : List UInt8} (hs : DD.hasB n s = true) (ht : t.length = 32) (hf : d.pend.length < 1000000) : (d.push s t).Ok n := by
  refine ⟨h.len, fun i x hx => ?_, by simp [DD.push]; omega, h.a0, h.a1, h.w0, h.w1, h.b0, h.b1, h.n1, h.n2⟩
  simp only [DD.push, List.getElem?_append] at hx
  split at hx
  · exact h.sec i x hx
  · have : x = (s.toNat, t) := by
      cases hk : i - d.pend.length with
      | zero => rw [hk] at hx; simpa using hx.symm
      | succ k => rw [hk] at hx; simp at hx
    subst this
    simp [DD.hasB] at hs
    exact ⟨by simp; omega, ht⟩
end Go.Dk
