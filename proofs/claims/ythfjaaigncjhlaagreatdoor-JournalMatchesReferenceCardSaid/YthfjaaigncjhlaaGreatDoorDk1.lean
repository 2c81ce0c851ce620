/- A disk in memory: what its blocks hold; has, sector, fails, Start, Arm: what they return and change. -/
import Derived.Test.YthfjaaigncjhlaaGreatDoorProg
import Derived.Test.YthfjaaigncjhlaaGreatDoorDkP
import Derived.Test.YthfjaaigncjhlaaGreatDoorMp
import Derived.Laws.OwnMore
namespace Go.Proofs.YthfjaaigncjhlaaGreatDoor
open Go.RowKit Go.Blk Go.Dk Go.Mp

/-- All blocks but some are as they were. -/
structure Keep (F : Nat → Prop) (w w' : World) : Prop where
  os : w'.os = w.os
  tape : w'.tape = w.tape
  output : w'.output = w.output
  size : w.heap.size ≤ w'.heap.size
  block : ∀ k, k < w.heap.size → ¬ F k → w'.heap[k]? = w.heap[k]?
theorem Keep.refl (F : Nat → Prop) (w : World) : Keep F w w := ⟨rfl, rfl, rfl, Nat.le_refl _, fun _ _ _ => rfl⟩
theorem Keep.trans {F G : Nat → Prop} {a b c : World} (h : Keep F a b) (k : Keep G b c) (hG : ∀ i, i < a.heap.size → G i → F i) : Keep F a c :=
  ⟨k.os.trans h.os, k.tape.trans h.tape, k.output.trans h.output, Nat.le_trans h.size k.size, fun i hi hn => (k.block i (Nat.lt_of_lt_of_le hi h.size) (fun g => hn (hG i hi g))).trans (h.block i hi hn)⟩
theorem Keep.of_below {F : Nat → Prop} {w w' : World} (h : Below w.heap.size w w') : Keep F w w' := ⟨h.os, h.tape, h.output, h.size, fun k hk _ => h.block k hk⟩
theorem Keep.below {F : Nat → Prop} {w w' : World} {B : Nat} (h : Keep F w w') (hF : ∀ k, F k → B ≤ k) (hB : B ≤ w.heap.size) : Below B w w' :=
  ⟨h.os, h.tape, h.output, h.size, fun k hk => h.block k (by omega) (fun f => by have := hF k f; omega)⟩
theorem Keep.mono {F G : Nat → Prop} {w w' : World} (h : Keep F w w') (hF : ∀ k, k < w.heap.size → F k → G k) : Keep G w w' := ⟨h.os, h.tape, h.output, h.size, fun k hk hn => h.block k hk (fun f => hn (hF k hk f))⟩
theorem Keep.setCell {F : Nat → Prop} {a w : World} (h : Keep F a w) {p : Addr} (hp : p.block < a.heap.size → F p.block) (v : Value) : Keep F a (w.setCell p v) :=
  ⟨h.os, h.tape, h.output, by simpa [World.setCell] using h.size, fun k hk hn => (Below.heap_setCell w p v k (by rintro rfl; exact hn (hp hk))).trans (h.block k hk hn)⟩
theorem Keep.alloc {F : Nat → Prop} {a w : World} (h : Keep F a w) (o : Obj) : Keep F a (w.alloc o) :=
  ⟨h.os, h.tape, h.output, Nat.le_trans h.size (by simp), fun k hk hn => (Below.heap_alloc w o k (Nat.lt_of_lt_of_le hk h.size)).trans (h.block k hk hn)⟩
theorem Keep.drew {F : Nat → Prop} {a w : World} (h : Keep F a w) : Keep F a w.drew := ⟨h.os, h.tape, h.output, h.size, h.block⟩
theorem Keep.drewN {F : Nat → Prop} {a w : World} (h : Keep F a w) (n : Nat) : Keep F a (w.drewN n) := ⟨h.os, h.tape, h.output, h.size, h.block⟩
theorem Keep.grown {F : Nat → Prop} {a w w' : World} {row : Option Nat} (h : Keep F a w) (hg : w.grownBy w' row) (hr : ∀ k, row = some k → k < a.heap.size → F k) : Keep F a w' :=
  ⟨hg.os.trans h.os, hg.tape.trans h.tape, hg.output.trans h.output, Nat.le_trans h.size hg.size, fun k hk hn => (hg.block k (Nat.lt_of_lt_of_le hk h.size) (fun e => hn (hr k e.symm hk))).trans (h.block k hk hn)⟩

def encW (x : Nat × List UInt8) : List Value := .int .i64 x.1 :: x.2.map C8
def cells8 (d : DD) (bs bm : Nat) (pv : Value) (n : Nat) : List Value :=
  [.bool d.on, .slice (some ⟨bs, 0, none⟩) (32 * n) (32 * n), pv, .map (some bm), .bool d.armed, .int .i64 d.after, .int .i64 d.writes, .int .i64 d.bytes]
structure DiskAt (w : World) (b bs bm : Nat) (pv : Value) (d : DD) (n : Nat) : Prop where
  ok : d.Ok n
  blk : Blk w b (cells8 d bs bm pv n) 54
  st : Blk w bs (d.st.map C8) 5
  row : w.ownsRow 0 95 33 pv d.pend.length (d.pend.flatMap encW)
  map : MapIs w bm (lastOf d.pend)
def Fp (b bs bm : Nat) (pv : Value) (k : Nat) : Prop := k = b ∨ k = bs ∨ k = bm ∨ pv.ownBlock = some k
section
variable {w w' : World} {b bs bm n : Nat} {pv : Value} {d : DD}
theorem row_keep {base : Nat} {e : TypeId} {size m : Nat} {v : Value} {xs : List Value} (h : w.ownsRow base e size v m xs) (hk : ∀ k, v.ownBlock = some k → w'.heap[k]? = w.heap[k]?) : w'.ownsRow base e size v m xs := by
  obtain ⟨h1, h2⟩ := h
  refine ⟨h1, ?_⟩
  rcases h2 with h2 | ⟨g, cap, cur, rfl, h3, h4, h5⟩
  · exact .inl h2
  · exact .inr ⟨g, cap, cur, rfl, h3, (hk g rfl).trans h4, h5⟩
/-- A disk stays what it is while other blocks turn. -/
theorem DiskAt.keep {F : Nat → Prop} (h : DiskAt w b bs bm pv d n) (hk : Keep F w w') (hF : ∀ k, Fp b bs bm pv k → ¬ F k) : DiskAt w' b bs bm pv d n :=
  ⟨h.ok, h.blk.keepB (hk.block b h.blk.lt (hF b (.inl rfl))), h.st.keepB (hk.block bs h.st.lt (hF bs (.inr (.inl rfl)))),
    row_keep h.row (fun k e => hk.block k (h.row.lt k e).2 (hF k (.inr (.inr (.inr e))))), h.map.keep (hk.block bm h.map.lt (hF bm (.inr (.inr (.inl rfl)))))⟩
theorem DiskAt.lt (h : DiskAt w b bs bm pv d n) {k : Nat} (hk : Fp b bs bm pv k) : k < w.heap.size := by
  rcases hk with rfl | rfl | rfl | e
  · exact h.blk.lt
  · exact h.st.lt
  · exact h.map.lt
  · exact (h.row.lt k e).2
theorem DiskAt.below (h : DiskAt w b bs bm pv d n) (hb : Below w.heap.size w w') : DiskAt w' b bs bm pv d n :=
  h.keep (F := fun _ => False) ⟨hb.os, hb.tape, hb.output, hb.size, fun k hk _ => hb.block k hk⟩ (fun _ _ f => f)
theorem DiskAt.drew (h : DiskAt w b bs bm pv d n) : DiskAt w.drew b bs bm pv d n := ⟨h.ok, h.blk, h.st, h.row, h.map⟩
theorem DiskAt.drewN (h : DiskAt w b bs bm pv d n) (m : Nat) : DiskAt (w.drewN m) b bs bm pv d n := ⟨h.ok, h.blk, h.st, h.row, h.map⟩
/-- Blocks of a disk differ by their types. -/
theorem DiskAt.ne1 (h : DiskAt w b bs bm pv d n) : bs ≠ b := by
  rintro rfl
  have := h.blk.symm.trans h.st
  simp at this
theorem DiskAt.ne2 (h : DiskAt w b bs bm pv d n) : bm ≠ b := by
  rintro rfl
  obtain ⟨es, c, hm, _⟩ := h.map
  have := h.blk.symm.trans hm
  simp at this
theorem DiskAt.ne3 (h : DiskAt w b bs bm pv d n) : bm ≠ bs := by
  rintro rfl
  obtain ⟨es, c, hm, _⟩ := h.map
  have := h.st.symm.trans hm
  simp at this
theorem row_ne {base : Nat} {e : TypeId} {size m : Nat} {v : Value} {xs : List Value} {g : Nat} {cs : List Value} {T : TypeId} (h : w.ownsRow base e size v m xs) (hb : Blk w g cs T) (hT : e ≠ T) : v.ownBlock ≠ some g := by
  intro hv
  rcases h.2 with ⟨rfl, _⟩ | ⟨g', cap, cur, rfl, _, hh, _⟩
  · simp [Value.ownBlock] at hv
  · have : g' = g := by simpa [Value.ownBlock] using hv
    subst this
    have := hb.symm.trans hh
    simp at this
    exact hT this.2.symm
theorem row_ne_map {base : Nat} {e : TypeId} {size m : Nat} {v : Value} {xs : List Value} {g : Nat} {f : Int → Option Int} (h : w.ownsRow base e size v m xs) (hb : MapIs w g f) : v.ownBlock ≠ some g := by
  intro hv
  obtain ⟨es, c, hm, _⟩ := hb
  rcases h.2 with ⟨rfl, _⟩ | ⟨g', cap, cur, rfl, _, hh, _⟩
  · simp [Value.ownBlock] at hv
  · have : g' = g := by simpa [Value.ownBlock] using hv
    subst this
    have := hm.symm.trans hh
    simp at this
/-- A store into a field that no other block hangs on. -/
theorem DiskAt.set {d' : DD} (h : DiskAt w b bs bm pv d n) (i : Nat) (v : Value) (hc : (cells8 d bs bm pv n).set i v = cells8 d' bs bm pv n) (hs : d'.st = d.st) (hp : d'.pend = d.pend) (hok : d'.Ok n) : DiskAt (w.setCell ⟨b, i, none⟩ v) b bs bm pv d' n := by
  have hne : ∀ k, k ≠ b → (w.setCell ⟨b, i, none⟩ v).heap[k]? = w.heap[k]? := fun k hk => Below.heap_setCell w ⟨b, i, none⟩ v k hk
  exact ⟨hok, by have := h.blk.set i v; rwa [hc] at this, by rw [hs]; exact h.st.keepB (hne bs h.ne1), by rw [hp]; exact row_keep h.row (fun k e => hne k (fun e' => row_ne h.row h.blk (by decide) (by rw [← e']; exact e))), by rw [hp]; exact h.map.keep (hne bm h.ne2)⟩
end

section
variable {w : World} {b bs bm n : Nat} {pv : Value} {d : DD}
theorem has_any (h : DiskAt w b bs bm pv d n) (s : Int) : Calls Tryz.prog 55 #[.pointer (some ⟨b, 0, none⟩), .int .i64 s] w fun e w' => e = .returned (.bool (DD.hasB n s)) ∧ w = w' := by
  have c1 := h.blk.cellD 1 _ rfl
  have hn2 := h.ok.n2
  unfold DD.hasB
  by_cases h0 : 0 ≤ s
  · have hd : decide (0 ≤ s ∧ s < (n : Int)) = decide (s < (n : Int)) := by simp [h0]
    have k0 : decide (0 ≤ s) = true := decide_eq_true h0
    rw [hd]
    have hq : ((32 * n : Nat) : Int) / 32 = (n : Int) := by omega
    have hq1 : 32 * (n : Int) / 32 = (n : Int) := by omega
    go_enter Tryz.func55, Tryz.ntmps55
    go_wp2
    go_ret
    exact ⟨rfl, rfl⟩
  · have hd : decide (0 ≤ s ∧ s < (n : Int)) = false := by simp [h0]
    have k0 : decide (0 ≤ s) = false := decide_eq_false h0
    rw [hd]
    go_enter Tryz.func55, Tryz.ntmps55
    go_wp2
    go_ret
    exact ⟨rfl, rfl⟩
theorem start_any (h : DiskAt w b bs bm pv d n) : Calls Tryz.prog 19 #[.pointer (some ⟨b, 0, none⟩)] w fun e w' => e = .returned (.tuple #[]) ∧ DiskAt w' b bs bm pv d.start n ∧ Keep (Fp b bs bm pv) w w' := by
  have h1 := h.set (d' := { d with on := true }) 0 (.bool true) rfl rfl rfl ⟨h.ok.len, h.ok.sec, h.ok.few, h.ok.a0, h.ok.a1, h.ok.w0, h.ok.w1, h.ok.b0, h.ok.b1, h.ok.n1, h.ok.n2⟩
  have h2 := h1.set (d' := d.start) 4 (.bool false) rfl rfl rfl h.ok.start
  have c0 := h.blk.cellD 0 _ rfl
  have f0 := h.blk.frozen 0
  have c4 := h1.blk.cellD 4 _ rfl
  have f4 := h1.blk.frozen 4
  have H2 := Lib.hid h2
  have HK := Lib.hid (((Keep.refl (Fp b bs bm pv) w).setCell (p := ⟨b, 0, none⟩) (fun _ => .inl rfl) (.bool true)).setCell (p := ⟨b, 4, none⟩) (fun _ => .inl rfl) (.bool false))
  clear h h1 h2
  go_enter Tryz.func19, Tryz.ntmps19
  go_wp2
  go_end0
  exact ⟨rfl, H2.out, HK.out⟩
end
end Go.Proofs.YthfjaaigncjhlaaGreatDoor
