/- A journal in memory. No condition. -/
import Derived.Test.YthfjaaigncjhlaaGreatDoorJo7
import Derived.Test.YthfjaaigncjhlaaGreatDoorJnV
import Derived.Deep.MidRow
namespace Go.Jn
theorem digsGo_lt : ∀ (s : List UInt8) (a m : Nat), digsGo s a = some m → m < (a + 1) * 10 ^ s.length
  | [], a, m, h => by simp only [digsGo] at h; cases h; simp
  | b :: s, a, m, h => by
    unfold digsGo at h
    split at h
    · rename_i hb
      have := digsGo_lt s _ m h
      rw [List.length_cons, Nat.pow_succ]
      have h9 : 10 * a + (b.toNat - 48) + 1 ≤ (a + 1) * 10 := by omega
      calc m < (10 * a + (b.toNat - 48) + 1) * 10 ^ s.length := this
        _ ≤ ((a + 1) * 10) * 10 ^ s.length := Nat.mul_le_mul_right _ h9
        _ = (a + 1) * (10 ^ s.length * 10) := by rw [Nat.mul_assoc, Nat.mul_comm 10]
    · cases h
theorem parse_num {s : List UInt8} {room : Nat} {v : Nat × Nat × Nat} (h : parseV s room = some v) : v.1 ≤ 999999999 := by
  unfold parseV at h
  split at h
  · rename_i hl
    split at h
    · cases h
    · rename_i a ha
      split at h
      · cases h
      · split at h
        · split at h
          · cases h
          · split at h
            · cases h
              have := digsGo_lt _ 0 a ha
              rw [List.length_take] at this
              have e : min 9 s.length = 9 := by omega
              rw [e] at this
              show a ≤ 999999999
              omega
            · cases h
        · cases h
  · cases h
theorem pres_num {a b : List UInt8} {room : Nat} {v : Nat × Nat × Nat} {at_ : Nat} (h : presV a b room = some (v, at_)) : v.1 ≤ 999999999 := by
  rcases pres_cases h with h | h | h
  · exact parse_num h.2
  · exact parse_num h.2
  · rw [h.2.1]; exact Nat.zero_le _
end Go.Jn
namespace Go.Proofs.YthfjaaigncjhlaaGreatDoor
open Go.RowKit Go.Blk Go.Jn Go.Dk Go.Mp

def cellsJ (v : Nat × Nat × Nat) (a size b : Nat) (rv : Value) (br : Bool) : List Value :=
  [.int .i64 (v.1 : Int), .int .i64 (v.2.1 : Int), .int .i64 (v.2.2 : Int), .int .i64 (a : Int), .int .i64 (size : Int), .pointer (some ⟨b, 0, none⟩), rv, .bool br]
/-- The records lie in a row of one's own. -/
def RowT (w : World) (base : Nat) (rv : Value) (l : List (List UInt8)) : Prop := w.ownsRow base 9 1 rv l.length ((l.map tx).flatMap encS)
structure JAt (w : World) (jb b bs bm : Nat) (pv rv : Value) (n : Nat) (s : JS) : Prop where
  n4 : 4 ≤ n
  disk : DiskAt w b bs bm pv s.d n
  blk : Blk w jb (cellsJ s.v s.a ((n - 2) / 2) b rv s.broken) 63
  row : RowT w 0 rv s.recs
  num : s.v.1 ≤ 999999999
  hf : s.v.2.1 ≤ 1
  len : s.v.2.2 ≤ 32 * ((n - 2) / 2)
  at_ : s.a ≤ 1
def JFp (jb b bs bm : Nat) (pv rv : Value) (k : Nat) : Prop := k = jb ∨ rv.ownBlock = some k ∨ Fp b bs bm pv k
section
variable {w w' : World} {jb b bs bm n : Nat} {pv rv : Value} {s : JS}
theorem RowT.keep {base : Nat} {l : List (List UInt8)} (h : RowT w base rv l) (hk : ∀ k, rv.ownBlock = some k → w'.heap[k]? = w.heap[k]?) : RowT w' base rv l := row_keep h hk
theorem JAt.keep {F : Nat → Prop} (h : JAt w jb b bs bm pv rv n s) (hk : Keep F w w') (hF : ∀ k, JFp jb b bs bm pv rv k → ¬ F k) : JAt w' jb b bs bm pv rv n s :=
  ⟨h.n4, h.disk.keep hk (fun k hh => hF k (.inr (.inr hh))), h.blk.keepB (hk.block jb h.blk.lt (hF jb (.inl rfl))),
    h.row.keep (fun k e => hk.block k (World.ownsRow.lt h.row k e).2 (hF k (.inr (.inl e)))), h.num, h.hf, h.len, h.at_⟩
theorem JAt.lt (h : JAt w jb b bs bm pv rv n s) {k : Nat} (hk : JFp jb b bs bm pv rv k) : k < w.heap.size := by
  rcases hk with rfl | e | e
  · exact h.blk.lt
  · exact (World.ownsRow.lt h.row k e).2
  · exact h.disk.lt e
theorem JAt.below (h : JAt w jb b bs bm pv rv n s) (hb : Below w.heap.size w w') : JAt w' jb b bs bm pv rv n s := h.keep (F := fun _ => False) (Keep.of_below hb) (fun _ _ f => f)
/-- A block of another type is none of the disk's. -/
theorem notFp {cs : List Value} {T : TypeId} {d : DD} {x : Nat} (h : DiskAt w b bs bm pv d n) (hx : Blk w x cs T) (h1 : T ≠ 54) (h2 : T ≠ 5) (h3 : T ≠ 95) : ¬ Fp b bs bm pv x := by
  rintro (rfl | rfl | rfl | e)
  · have := h.blk.symm.trans hx
    simp at this
    exact h1 this.2.symm
  · have := h.st.symm.trans hx
    simp at this
    exact h2 this.2.symm
  · obtain ⟨es, c, hm, _⟩ := h.map
    have := hx.symm.trans hm
    simp at this
  · exact row_ne h.row hx (Ne.symm h3) e
/-- A row of another type's elements is none of the disk's blocks. -/
theorem row_notFp {d : DD} {base m : Nat} {e : TypeId} {size : Nat} {v : Value} {xs : List Value} (h : DiskAt w b bs bm pv d n) (hr : w.ownsRow base e size v m xs) (h1 : e ≠ 54) (h2 : e ≠ 5) (h3 : e ≠ 95) {k : Nat} (hk : v.ownBlock = some k) : ¬ Fp b bs bm pv k := by
  rintro (rfl | rfl | rfl | e')
  · exact row_ne hr h.blk h1 hk
  · exact row_ne hr h.st h2 hk
  · exact row_ne_map hr h.map hk
  · rcases hr.2 with ⟨rfl, _⟩ | ⟨g, cap, cur, rfl, _, hg, _⟩
    · simp [Value.ownBlock] at hk
    · have hgk : g = k := by simpa [Value.ownBlock] using hk
      subst hgk
      rcases h.row.2 with ⟨hz, _⟩ | ⟨g', cap', cur', hz, _, hg', _⟩
      · rw [hz] at e'; simp [Value.ownBlock] at e'
      · rw [hz] at e'
        have : g' = g := by simpa [Value.ownBlock] using e'
        subst this
        rw [hg] at hg'
        simp at hg'
        exact h3 hg'.2
end
end Go.Proofs.YthfjaaigncjhlaaGreatDoor
