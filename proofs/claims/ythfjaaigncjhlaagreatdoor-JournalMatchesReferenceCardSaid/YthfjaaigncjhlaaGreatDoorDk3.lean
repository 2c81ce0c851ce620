/- The disk's New and settle: what they return and change. -/
import Derived.Test.YthfjaaigncjhlaaGreatDoorDk2
import Derived.Test.YthfjaaigncjhlaaGreatDoorFree
import Derived.Laws.MakeOwn
import Derived.Laws.CopyOwn
import Derived.Deep.MidRow
import Derived.Deep.WholeRow
import Derived.Deep.Light
namespace Go.Proofs.YthfjaaigncjhlaaGreatDoor
open Go.RowKit Go.Blk Go.Dk Go.Mp

def NewPost (w : World) (n : Nat) (e : Ending) (w' : World) : Prop :=
  ∃ b bs bm, e = .returned (.pointer (some ⟨b, 0, none⟩)) ∧ DiskAt w' b bs bm (.slice none 0 0) (DD.new n) n ∧ Below w.heap.size w w' ∧ w.heap.size ≤ b ∧ w.heap.size ≤ bs ∧ w.heap.size ≤ bm
theorem info5 : (Tryz.prog.info? 5).map (fun i => (i.zero, i.size, i.bytes)) = some (some (.int .u8 0), 1, 1) := by kernel_rfl
theorem made_bytes (n : Nat) (hn : n ≤ 4000) (W : World) : (Instr.makeSlice 50 (.int .i64 ((n : Int) * 32)) (.int .i64 ((n : Int) * 32))).run Tryz.prog W =
    .ok (.slice (some ⟨W.heap.size, 0, none⟩) (32 * n) (32 * n)) (W.alloc (.cells (madeCells #[.int .u8 0] (32 * n)) 5)) := by
  obtain ⟨i, hi, hz0, hz1, hz2⟩ := info_parts info5
  have h := run_make (P := Tryz.prog) W 50 5 i (.int .u8 0) Tryz.underlying50 hi hz0 .i64 .i64 ((n : Int) * 32) ((n : Int) * 32) (by omega) (by omega) (by rw [hz2]; omega) (by omega)
  rw [h, hz1]
  have e : ((n : Int) * 32).toNat = 32 * n := by omega
  rw [e, Nat.mul_one]; rfl
theorem new_any (n : Nat) (w : World) (h1 : 1 ≤ n) (h2 : n ≤ 4000) : Calls Tryz.prog 6 #[.int .i64 n] w (NewPost w n) := by
  have hmk := made_bytes n h2
  have hmm := @run_makeMap Tryz.prog
  have hd : NewPost w n (.returned (.pointer (some ⟨w.heap.size + 1 + 1, 0, none⟩))) (((w.alloc (.cells (madeCells #[.int .u8 0] (32 * n)) 5)).alloc (.map #[] 0)).alloc
      (.cells #[.bool true, .slice (some ⟨w.heap.size, 0, none⟩) (32 * n) (32 * n), .slice none 0 0, .map (some (w.heap.size + 1)), .bool false, .int .i64 0, .int .i64 0, .int .i64 0] 54)) := by
    refine ⟨_, w.heap.size, w.heap.size + 1, rfl, ⟨DD.Ok.new h1 h2, ?_, ?_, World.ownsRow_nil _ _ _ _, ?_⟩, (((Below.refl _ _).alloc (Nat.le_refl _) _).alloc (by simp) _).alloc (by simp; omega) _, by omega, by omega, by omega⟩
    · have := Blk.new ((w.alloc (.cells (madeCells #[.int .u8 0] (32 * n)) 5)).alloc (.map #[] 0)) (cells8 (DD.new n) w.heap.size (w.heap.size + 1) (.slice none 0 0) n) 54
      simpa [cells8, DD.new] using this
    · refine Blk.alloc (Blk.alloc ?_ _) _
      have := Blk.newA w (madeCells #[.int .u8 0] (32 * n)) 5
      rw [toList_madeCells_one] at this
      simpa [DD.new, C8] using this
    · have := (MapIs.made (w.alloc (.cells (madeCells #[.int .u8 0] (32 * n)) 5)))
      have h3 := this.keep (w' := (((w.alloc (.cells (madeCells #[.int .u8 0] (32 * n)) 5)).alloc (.map #[] 0)).alloc (.cells #[.bool true, .slice (some ⟨w.heap.size, 0, none⟩) (32 * n) (32 * n), .slice none 0 0, .map (some (w.heap.size + 1)), .bool false, .int .i64 0, .int .i64 0, .int .i64 0] 54))) (Below.heap_alloc _ _ _ (by simp))
      have e : lastOf (DD.new n).pend = fun _ => none := rfl
      rw [e]
      simpa using h3
  have HD := Lib.hid hd
  clear hd
  go_enter Tryz.func6, Tryz.ntmps6
  go_wp2
  go_ret
  exact HD.out

section
variable {w : World} {b bs bm n : Nat} {pv : Value} {d : DD}
theorem encW_len {x : Nat × List UInt8} (h : x.2.length = 32) : (encW x).length = 33 := by simp [encW, h]
theorem flat_at (p : List (Nat × List UInt8)) (hp : ∀ (i : Nat) x, p[i]? = some x → x.2.length = 32) : ∀ (k : Nat) (x : Nat × List UInt8), p[k]? = some x → ∀ j u, (encW x)[j]? = some u → (p.flatMap encW)[33 * k + j]? = some u := by
  induction p with
  | nil => intro k x h; simp at h
  | cons a r ih =>
    intro k x hx j u hu
    have ha := encW_len (hp 0 a rfl)
    rw [List.flatMap_cons]
    cases k with
    | zero =>
      simp at hx; subst hx
      have hj : j < (encW a).length := (List.getElem?_eq_some_iff.1 hu).1
      rw [Nat.mul_zero, Nat.zero_add, List.getElem?_append_left hj]; exact hu
    | succ k =>
      rw [List.getElem?_append_right (by omega), ha, show 33 * (k + 1) + j - 33 = 33 * k + j by omega]
      exact ih (fun i x h => hp (i + 1) x (by simpa using h)) k x (by simpa using hx) j u hu
/-- The cells of a pending write. -/
theorem DiskAt.pendAt (h : DiskAt w b bs bm pv d n) {k : Nat} {x : Nat × List UInt8} (hx : d.pend[k]? = some x) : ∃ g cap, pv = .slice (some ⟨g, 0, none⟩) d.pend.length cap ∧ w.rangeAt g (33 * k) (encW x) := by
  have hlt : k < d.pend.length := (List.getElem?_eq_some_iff.1 hx).1
  rcases h.row.2 with ⟨_, h0⟩ | ⟨g, cap, cur, rfl, _⟩
  · omega
  · refine ⟨g, cap, rfl, fun j u hu => ?_⟩
    have h1 := flat_at d.pend (fun i x hx => (h.ok.sec i x hx).2) k x hx j u hu
    have := h.row.cells rfl _ _ h1
    rwa [addr_add, Nat.zero_add] at this
def dAt (d : DD) (ws tb k : Nat) : DD := { d with st := sAt d.st d.pend ws tb k }
theorem dAt_ok (h : d.Ok n) (ws tb k : Nat) : (dAt d ws tb k).Ok n := ⟨sAt_len ws tb h.len h.sec k, h.sec, h.few, h.a0, h.a1, h.w0, h.w1, h.b0, h.b1, h.n1, h.n2⟩
/-- New stable bytes. -/
theorem DiskAt.stable {d' : DD} (h : DiskAt w b bs bm pv d n) (l : List UInt8) (hd : d' = { d with st := l }) (hok : d'.Ok n) : DiskAt (w.setRow bs (l.map C8).toArray) b bs bm pv d' n := by
  subst hd
  have hne : ∀ k, k ≠ bs → (w.setRow bs (l.map C8).toArray).heap[k]? = w.heap[k]? := fun k hk => setRow_other w bs k _ hk
  refine ⟨hok, h.blk.keepB (hne b (Ne.symm h.ne1)), setRow_heap w bs _ _ 5 _ h.st, row_keep h.row (fun k e => hne k (fun e' => row_ne h.row h.st (by decide) (by rw [← e']; exact e))), h.map.keep (hne bm h.ne3)⟩
theorem DiskAt.alloc (h : DiskAt w b bs bm pv d n) (o : Obj) : DiskAt (w.alloc o) b bs bm pv d n := h.below ((Below.refl _ _).alloc (Nat.le_refl _) o)
theorem Keep.setRow {F : Nat → Prop} {a w : World} (h : Keep F a w) {g : Nat} (hg : g < a.heap.size → F g) (cs : Array Value) : Keep F a (w.setRow g cs) :=
  ⟨h.os, h.tape, h.output, by simpa using h.size, fun k hk hn => (setRow_other w g k cs (by rintro rfl; exact hn (hg hk))).trans (h.block k hk hn)⟩
end
end Go.Proofs.YthfjaaigncjhlaaGreatDoor
