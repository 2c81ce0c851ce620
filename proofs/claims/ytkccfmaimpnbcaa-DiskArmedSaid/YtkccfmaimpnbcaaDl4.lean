/- A disk of a call's own, beside other blocks that stay; calls on a nil disk. -/
import Derived.Test.YtkccfmaimpnbcaaDl3
namespace Go.Proofs.Ytkccfmaimpnbcaa
open Go.RowKit Go.Blk Go.Dk Go.Mp Go.Opn

theorem fail_nil (x y : Int) (w : World) : Calls Try.prog 16 #[.pointer none, .int .i64 x, .int .i64 y] w fun e w' => e = .returned (.tuple #[]) ∧ w = w' := by
  go_enter Try.func16, Try.ntmps16
  go_wp2
  refine bodyPost_ret (results_none rfl _ _ _) rfl ?_
  exact ⟨rfl, rfl⟩
theorem start_nil (w : World) : Calls Try.prog 11 #[.pointer none] w fun e w' => e = .returned (.tuple #[]) ∧ w = w' := by
  go_enter Try.func11, Try.ntmps11
  go_wp2
  refine bodyPost_ret (results_none rfl _ _ _) rfl ?_
  exact ⟨rfl, rfl⟩
theorem arm_nil (x y z : Int) (w : World) : Calls Try.prog 19 #[.pointer none, .int .i64 x, .int .i64 y, .int .i64 z] w fun e w' => e = .returned (.tuple #[]) ∧ w = w' := by
  go_enter Try.func19, Try.ntmps19
  go_wp2
  refine bodyPost_ret (results_none rfl _ _ _) rfl ?_
  exact ⟨rfl, rfl⟩
theorem sync_nil (w : World) : Calls Try.prog 12 #[.pointer none] w fun e w' => e = .returned (.int .i64 1) ∧ w = w' := by
  go_enter Try.func12, Try.ntmps12
  go_wp2
  go_ret
  exact ⟨rfl, rfl⟩
theorem write_nil (s : Int) (t : ByteArray) (w : World) : Calls Try.prog 14 #[.pointer none, .int .i64 s, .string t] w fun e w' => e = .returned (.int .i64 1) ∧ w = w' := by
  go_enter Try.func14, Try.ntmps14
  go_wp2
  go_ret
  exact ⟨rfl, rfl⟩
theorem new_nil (n : Int) (w : World) (h : n < 1 ∨ 4000 < n) : Calls Try.prog 9 #[.int .i64 n] w fun e w' => e = .returned (.pointer none) ∧ w = w' := by
  by_cases h1 : n < 1
  · clear h
    go_enter Try.func9, Try.ntmps9
    go_wp2
    go_ret
    exact ⟨rfl, rfl⟩
  · have h2 : 4000 < n := by omega
    clear h
    go_enter Try.func9, Try.ntmps9
    go_wp2
    go_ret
    exact ⟨rfl, rfl⟩

/-- A disk of the call's own; the blocks in G are others. -/
def DW (w0 : World) (G : Nat → Prop) (w : World) (b n : Nat) (d : DD) : Prop :=
  ∃ bs bm pv, DiskAt w b bs bm pv d n ∧ (∀ k, Fp b bs bm pv k → w0.heap.size ≤ k ∧ ¬ G k) ∧ Below w0.heap.size w0 w ∧ ∀ g, G g → g < w.heap.size
section
variable {w0 w w' : World} {G : Nat → Prop} {b n : Nat} {d : DD}
theorem DW.ok (h : DW w0 G w b n d) : d.Ok n := by obtain ⟨bs, bm, pv, h, _⟩ := h; exact h.ok
theorem DW.bl (h : DW w0 G w b n d) : Below w0.heap.size w0 w := by obtain ⟨bs, bm, pv, _, _, h, _⟩ := h; exact h
/-- What a step leaves. -/
def DwPost (w0 : World) (G : Nat → Prop) (w : World) (b n : Nat) (d : DD) (v : Value) (e : Ending) (w' : World) : Prop :=
  e = .returned v ∧ DW w0 G w' b n d ∧ (∀ g, G g → w'.heap[g]? = w.heap[g]?) ∧ w.heap.size ≤ w'.heap.size
theorem DW.step {d' : DD} {v : Value} {e : Ending} {bs bm : Nat} {pv : Value} (hF : ∀ k, Fp b bs bm pv k → w0.heap.size ≤ k ∧ ¬ G k) (hb : Below w0.heap.size w0 w) (hG : ∀ g, G g → g < w.heap.size)
    (h : DkPost w b bs bm n pv d' v e w') : DwPost w0 G w b n d' v e w' := by
  obtain ⟨rfl, bm1, pv1, h1, k1, hb1, hp1⟩ := h
  refine ⟨rfl, ⟨bs, bm1, pv1, h1, fun k hk => ?_, hb.trans (k1.below (fun k f => (hF k f).1) hb.size), fun g hg => Nat.lt_of_lt_of_le (hG g hg) k1.size⟩, fun g hg => k1.block g (hG g hg) (fun f => (hF g f).2 hg), k1.size⟩
  by_cases hk2 : k < w.heap.size
  · exact hF k (fp_more hb1 hp1 k hk2 hk)
  · exact ⟨Nat.le_trans hb.size (by omega), fun hg => hk2 (hG k hg)⟩
theorem DW.write (h : DW w0 G w b n d) (s : Int) (t : ByteArray) (hfew : d.pend.length < 1000000) {d' : DD} {z : Int} (e : DD.write n d s t.data.toList = (d', z)) :
    Calls Try.prog 14 #[.pointer (some ⟨b, 0, none⟩), .int .i64 s, .string t] w (DwPost w0 G w b n d' (.int .i64 z)) := by
  obtain ⟨bs, bm, pv, h1, h2, h3, h4⟩ := h
  refine (write_any h1 s t hfew).mono fun _ _ hp => ?_
  rw [e] at hp
  exact DW.step h2 h3 h4 hp
theorem DW.sync (h : DW w0 G w b n d) {d' : DD} {z : Int} (e : d.sync = (d', z)) : Calls Try.prog 12 #[.pointer (some ⟨b, 0, none⟩)] w (DwPost w0 G w b n d' (.int .i64 z)) := by
  obtain ⟨bs, bm, pv, h1, h2, h3, h4⟩ := h
  refine (sync_any h1).mono fun _ _ hp => ?_
  rw [e] at hp
  exact DW.step h2 h3 h4 hp
theorem DW.fail (h : DW w0 G w b n d) (x y : Int) (hx0 : -9223372036854775808 ≤ x) (hx1 : x ≤ 9223372036854775807) : Calls Try.prog 16 #[.pointer (some ⟨b, 0, none⟩), .int .i64 x, .int .i64 y] w (DwPost w0 G w b n (d.fail x y) (.tuple #[])) := by
  obtain ⟨bs, bm, pv, h1, h2, h3, h4⟩ := h
  exact (fail_any h1 x y hx0 hx1).mono fun _ _ hp => DW.step h2 h3 h4 hp
theorem DW.start (h : DW w0 G w b n d) : Calls Try.prog 11 #[.pointer (some ⟨b, 0, none⟩)] w (DwPost w0 G w b n d.start (.tuple #[])) := by
  obtain ⟨bs, bm, pv, h1, h2, h3, h4⟩ := h
  refine (start_any h1).mono fun _ _ ⟨he, hd, hk⟩ => DW.step h2 h3 h4 ⟨he, bm, pv, hd, hk, .inl rfl, fun _ e => .inl e⟩
theorem DW.arm (h : DW w0 G w b n d) (x y z : Int) (hx0 : -9223372036854775808 ≤ x) (hx1 : x ≤ 9223372036854775807) (hy0 : -9223372036854775808 ≤ y) (hy1 : y ≤ 9223372036854775807) (hz0 : -9223372036854775808 ≤ z) (hz1 : z ≤ 9223372036854775807) :
    Calls Try.prog 19 #[.pointer (some ⟨b, 0, none⟩), .int .i64 x, .int .i64 y, .int .i64 z] w (DwPost w0 G w b n (d.arm x y z) (.tuple #[])) := by
  obtain ⟨bs, bm, pv, h1, h2, h3, h4⟩ := h
  refine (arm_any h1 x y z hx0 hx1 hy0 hy1 hz0 hz1).mono fun _ _ ⟨he, hd, hk⟩ => DW.step h2 h3 h4 ⟨he, bm, pv, hd, hk, .inl rfl, fun _ e => .inl e⟩
theorem DW.read (h : DW w0 G w b n d) (s : Int) {t : List UInt8} {z : Int} (e : DD.read n d s = (t, z)) : Calls Try.prog 21 #[.pointer (some ⟨b, 0, none⟩), .int .i64 s] w fun e w' => e = .returned (.tuple #[.string ⟨t.toArray⟩, .int .i64 z]) ∧ w = w' := by
  obtain ⟨bs, bm, pv, h1, h2, h3, h4⟩ := h
  have := read_any h1 s
  rwa [e] at this
theorem DW.grow (h : DW w0 G w b n d) (hb : Below w.heap.size w w') : DW w0 G w' b n d := by
  obtain ⟨bs, bm, pv, h1, h2, h3, h4⟩ := h
  exact ⟨bs, bm, pv, h1.below hb, h2, h3.trans (hb.mono h3.size), fun g hg => Nat.lt_of_lt_of_le (h4 g hg) hb.size⟩
theorem DW.new (n : Nat) (h1 : 1 ≤ n) (h2 : n ≤ 4000) (w0 w : World) (hb : Below w0.heap.size w0 w) (hG : ∀ g, G g → g < w.heap.size) :
    Calls Try.prog 9 #[.int .i64 n] w fun e w' => ∃ b, e = .returned (.pointer (some ⟨b, 0, none⟩)) ∧ DW w0 G w' b n (DD.new n) ∧ Below w.heap.size w w' := by
  refine (new_any n w h1 h2).mono ?_
  rintro e w' ⟨b, bs, bm, rfl, hd, hbl, hb1, hb2, hb3⟩
  have hs := hb.size
  refine ⟨b, rfl, ⟨bs, bm, _, hd, fun k hk => ?_, hb.trans (hbl.mono hs), fun g hg => Nat.lt_of_lt_of_le (hG g hg) hbl.size⟩, hbl⟩
  rcases hk with rfl | rfl | rfl | e
  · exact ⟨by omega, fun hg => by have := hG _ hg; omega⟩
  · exact ⟨by omega, fun hg => by have := hG _ hg; omega⟩
  · exact ⟨by omega, fun hg => by have := hG _ hg; omega⟩
  · simp [Value.ownBlock] at e
/-- More blocks that are others: new ones. -/
theorem DW.more (h : DW w0 G w b n d) {G' : Nat → Prop} (hb : Below w.heap.size w w') (hG : ∀ g, G' g → G g ∨ (w.heap.size ≤ g ∧ g < w'.heap.size)) : DW w0 G' w' b n d := by
  obtain ⟨bs, bm, pv, h1, h2, h3, h4⟩ := h
  refine ⟨bs, bm, pv, h1.below hb, fun k hk => ⟨(h2 k hk).1, fun hg => ?_⟩, h3.trans (hb.mono h3.size), fun g hg => ?_⟩
  · rcases hG k hg with hg | hg
    · exact (h2 k hk).2 hg
    · have := h1.lt hk; omega
  · rcases hG g hg with hg | hg
    · exact Nat.lt_of_lt_of_le (h4 g hg) hb.size
    · exact hg.2
theorem DW.cont (h : DW w0 G w b n d) (hon : d.on = true) : Calls Try.prog 13 #[.pointer (some ⟨b, 0, none⟩), .int .i64 n] w (ContPost w n d) := by
  obtain ⟨bs, bm, pv, h1, h2, h3, h4⟩ := h
  exact cont_any h1 hon
end
end Go.Proofs.Ytkccfmaimpnbcaa
