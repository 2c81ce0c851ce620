/- Package journal: pad, text, digits, frame. Condition: the variable of strconv holds its numbers. -/
import Derived.Test.YthfjaaigncjhlaaGreatDoorShelf
import Derived.Test.YthfjaaigncjhlaaGreatDoorJnP
import Derived.Test.YthfjaaigncjhlaaGreatDoorFree
import Derived.Test.YthfjaaigncjhlaaGreatDoorRow
import Derived.Lib.ItoaLen
import Derived.Lib.ItoaMem
import Derived.IntWalk
import Derived.Deep.Light
import Derived.Deep.QuietTactic
import Derived.BigQuiet
namespace Go.Proofs.YthfjaaigncjhlaaGreatDoor
open Go.RowKit Go.Blk Go.Jn

theorem tab_below {P : Program} {w w' : World} {B : Nat} {name : String} {k : IntKind} {zs : List Int} (h : Lib.TabIs P w name k zs) (hb : Below B w w') (hB : w.heap.size ≤ B) : Lib.TabIs P w' name k zs := by
  unfold Lib.TabIs World.var? at *
  cases hg : P.globalNamed name with
  | none => simp [hg] at h
  | some g =>
    simp only [hg, Option.bind_some] at h ⊢
    have hlt : g < w.heap.size := by
      rcases Nat.lt_or_ge g w.heap.size with h' | h'
      · exact h'
      · rw [Array.getElem?_eq_none h'] at h; simp at h
    rw [hb.block g (by omega)]
    exact h
/-- The variable holds its numbers. -/
structure HasT (w : World) : Prop where
  p : Lib.TabIs Tryz.prog w "internal/strconv.uint64pow10" .u64 Lib.pow10Tab
theorem HasT.below {w w' : World} {B : Nat} (h : HasT w) (hb : Below B w w') (hB : w.heap.size ≤ B) : HasT w' := ⟨tab_below h.p hb hB⟩
def dec (n : Int) : ByteArray := ⟨(Lib.itoa n).toArray⟩
theorem itoa_any (n : Int) (w : World) (h0 : -9223372036854775808 ≤ n) (h1 : n ≤ 9223372036854775807) (hT : HasT w) :
    Calls Tryz.prog 77 #[.int .i64 n] w fun e w' => e = .returned (.string (dec n)) ∧ Below w.heap.size w w' :=
  (Tryz.strconv_Itoa n h0 h1 w hT.p).mono fun _ _ ⟨he, k, os, hw⟩ => ⟨he, by
    subst hw
    exact ⟨rfl, rfl, rfl, by simp, fun j hj => Go.Sort.heap_grow_old _ os hj⟩⟩
/-- A text of bytes. -/
def tx (l : List UInt8) : ByteArray := ⟨l.toArray⟩
theorem tx_size (l : List UInt8) : (tx l).size = l.length := by show l.toArray.size = _; simp
theorem tx_data (l : List UInt8) : (tx l).data.toList = l := by show l.toArray.toList = l; simp
theorem tx_of (t : ByteArray) : tx t.data.toList = t := by cases t; rfl
theorem tx_append (a b : List UInt8) : tx a ++ tx b = tx (a ++ b) := by
  show (⟨_⟩ : ByteArray) = _
  apply ByteArray.ext
  simp [tx]
theorem tx_inj {a b : List UInt8} (h : tx a = tx b) : a = b := by rw [← tx_data a, ← tx_data b, h]
theorem repeat_eq (k : Nat) : Lib.repeatL ([48] : List UInt8) k = List.replicate k 48 := by
  induction k with
  | zero => rfl
  | succ k ih => rw [Lib.repeatL, ih]; rfl
theorem cell_grw {w w' : World} {p : Addr} {v : Value} (h : w.cell? p = some v) (g : Free.Grow w w') : w'.cell? p = some v := by
  rw [g.cell (World.block_lt_of_cell? w _ h)]; exact h
set_option maxRecDepth 100000 in
theorem pad_any (n k : Nat) (w : World) (hn : n ≤ 9223372036854775807) (hk : k ≤ 100) (hT : HasT w) :
    Calls Tryz.prog 69 #[.int .i64 (n : Int), .int .i64 (k : Int)] w fun e w' => e = .returned (.string (tx (padL k n))) ∧ Below w.heap.size w w' := by
  have I1 := Lib.hid (itoa_any (n : Int) w (by omega) (by omega) hT)
  have hd : dec (n : Int) = tx (Lib.decDigits n) := by unfold dec; rw [Lib.itoa_nonneg]; rfl
  rw [hd] at I1
  have hl : (Lib.decDigits n).length ≤ 21 := by
    have := Lib.itoa_length_le (n : Int) (by omega) (by omega)
    rw [Lib.itoa_nonneg] at this; omega
  obtain ⟨m, em⟩ : ∃ m, m = k - (Lib.decDigits n).length := ⟨_, rfl⟩
  have hm : max ((k : Int) - ((tx (Lib.decDigits n)).size : Int)) 0 = (m : Int) := by rw [tx_size]; omega
  have hsz := tx_size (Lib.decDigits n)
  have R1 : Hid (∀ w, Calls Tryz.prog 75 #[.string ⟨#[48]⟩, .int .i64 (m : Int)] w fun e w' => e = .returned (.string (tx (List.replicate m 48))) ∧ Below w.heap.size w w') := fun w => by
    have := Tryz.strings_Repeat ⟨#[48]⟩ m w (by omega) (by show 1 * m ≤ _; omega)
    rw [show (⟨#[48]⟩ : ByteArray).data.toList = [48] from rfl, repeat_eq] at this
    exact this
  have EQ : Hid (tx (List.replicate m 48) ++ tx (Lib.decDigits n) = tx (padL k n)) := by show _ = _; rw [tx_append, em]; rfl
  have hrs : (tx (List.replicate m 48)).size ≤ 100 := by rw [tx_size, List.length_replicate]; omega
  obtain ⟨dd, edd⟩ : ∃ dd, dd = tx (Lib.decDigits n) := ⟨_, rfl⟩
  obtain ⟨rr, err⟩ : ∃ rr, rr = tx (List.replicate m 48) := ⟨_, rfl⟩
  rw [← edd] at I1 hm EQ hsz
  rw [← err] at R1 EQ hrs
  have hds : dd.size ≤ 21 := by omega
  clear hT hd em edd err hsz
  go_enter Tryz.func69, Tryz.ntmps69
  go_wp2_with fail
  refine I1.out.mono ?_
  rintro e w1 ⟨rfl, hb1⟩
  have L1 := Lib.hid hb1
  clear hb1
  go_wp2_with fail
  refine (R1.out _).mono ?_
  rintro e w2 ⟨rfl, hb2⟩
  have L2 := Lib.hid (L1.out.trans (hb2.mono L1.out.size))
  clear hb2 hm
  go_wp2_with fail
  go_ret
  exact ⟨by rw [← EQ.out]; rfl, L2.out⟩
theorem tx_size_pad {k n : Nat} (hk : 1 ≤ k) (h : n < 10 ^ k) : (tx (padL k n)).size = k := by rw [tx_size, padL_len hk h]
set_option maxRecDepth 100000 in
theorem frame_any (b : ByteArray) (w : World) (hb : b.size ≤ 9000) (hT : HasT w) :
    Calls Tryz.prog 42 #[.string b] w fun e w' => e = .returned (.string (tx (frameL b.data.toList))) ∧ Below w.heap.size w w' := by
  have P1 := Lib.hid (pad_any b.size 4 w (by omega) (by decide) hT)
  have hz := tx_size_pad (k := 4) (n := b.size) (by decide) (by omega)
  have EQ : Hid (tx (padL 4 b.size) ++ b = tx (frameL b.data.toList)) := by
    show _ = _
    unfold frameL
    rw [← tx_append, tx_of]; simp
  obtain ⟨p, ep⟩ : ∃ p, p = tx (padL 4 b.size) := ⟨_, rfl⟩
  rw [← ep] at P1 hz EQ
  clear hT ep
  go_enter Tryz.func42, Tryz.ntmps42
  go_wp2_with fail
  refine P1.out.mono ?_
  rintro e w1 ⟨rfl, hb1⟩
  have L1 := Lib.hid hb1
  clear hb1
  go_wp2_with fail
  go_ret
  exact ⟨by rw [← EQ.out]; rfl, L1.out⟩
theorem det3' {i j m : Nat} {u v x : Value} : ∀ k mk r, Free.find [(i, .det u), (j, .det v), (m, .det x)] k ≠ some (.ind mk r) := by
  intro k mk r hf
  simp only [Free.find] at hf
  repeat' split at hf
  all_goals cases hf
set_option maxRecDepth 100000 in
theorem text_any (n h l : Nat) (w : World) (h1 : n ≤ 999999999) (h2 : h ≤ 1) (h3 : l ≤ 999999) (hT : HasT w) :
    Calls Tryz.prog 71 #[.agg #[.int .i64 (n : Int), .int .i64 (h : Int), .int .i64 (l : Int)]] w fun e w' => e = .returned (.string (tx (vt n h l))) ∧ Below w.heap.size w w' := by
  have P1 := Lib.hid (fun w hT => pad_any n 9 w (by omega) (by decide) hT)
  have P2 := Lib.hid (fun w hT => pad_any h 1 w (by omega) (by decide) hT)
  have P3 := Lib.hid (fun w hT => pad_any l 6 w (by omega) (by decide) hT)
  have z1 := tx_size_pad (k := 9) (n := n) (by decide) (by omega)
  have z2 := tx_size_pad (k := 1) (n := h) (by decide) (by omega)
  have z3 := tx_size_pad (k := 6) (n := l) (by decide) (by omega)
  have EQ : Hid ((tx (padL 9 n) ++ tx (padL 1 h)) ++ tx (padL 6 l) = tx (vt n h l)) := by
    show _ = _
    rw [tx_append, tx_append, List.append_assoc]; rfl
  have HT := Lib.hid hT
  obtain ⟨a, ea⟩ : ∃ a, a = tx (padL 9 n) := ⟨_, rfl⟩
  obtain ⟨b, eb⟩ : ∃ b, b = tx (padL 1 h) := ⟨_, rfl⟩
  obtain ⟨c, ec⟩ : ∃ c, c = tx (padL 6 l) := ⟨_, rfl⟩
  rw [← ea] at P1 z1 EQ
  rw [← eb] at P2 z2 EQ
  rw [← ec] at P3 z3 EQ
  clear hT ea eb ec
  go_enter Tryz.func71, Tryz.ntmps71
  go_wp2_with fail
  obtain ⟨V, eV⟩ : ∃ V, V = w.alloc (.cells #[.int .i64 (n : Int), .int .i64 (h : Int), .int .i64 (l : Int)] 61) := ⟨_, rfl⟩
  have HBV : Hid (Below w.heap.size w V) := by rw [eV]; exact (Below.refl _ w).alloc (Nat.le_refl _) _
  have hk : Blk V w.heap.size [.int .i64 (n : Int), .int .i64 (h : Int), .int .i64 (l : Int)] 61 := by rw [eV]; exact Blk.new w _ _
  have k0 := hk.cellD 0 _ rfl
  have k1 := hk.cellD 1 _ rfl
  have k2 := hk.cellD 2 _ rfl
  rw [← eV]
  clear eV hk
  refine Free.wp_region_free 11 [(2, .det (.string a)), (5, .det (.string b)), (9, .det (.string c))] (fun y => Below V.heap.size V y ∧ y.cell? ⟨w.heap.size, 0, none⟩ = some (.int .i64 (n : Int)) ∧ y.cell? ⟨w.heap.size, 1, none⟩ = some (.int .i64 (h : Int)) ∧ y.cell? ⟨w.heap.size, 2, none⟩ = some (.int .i64 (l : Int))) (by kernel_rfl) (by kernel_rfl) (Free.mono_det det3') ⟨(Below.refl _ _).drew, k0, k1, k2⟩
    (fun _ _ h g => ⟨h.1.trans (Below.mono g h.1.size), cell_grw h.2.1 g, cell_grw h.2.2.1 g, cell_grw h.2.2.2 g⟩) ?_
  simp only [List.take_succ_cons, List.take_zero]
  clear k0 k1 k2
  iterate 2 (apply Free.chain_still (by first | exact Free.wanted_of rfl rfl rfl | rfl) rfl; (intro w' hB hA; obtain ⟨qB, r0, r1, r2⟩ := hB; clear hA  qB; go_light; go_simp <;> rfl); (try simp only [Act.put, List.setIfInBounds_toArray, List.set_cons_succ, List.set_cons_zero]))
  apply Free.chain_det (by first | exact Free.wanted_of rfl rfl rfl | rfl) rfl
  · intro w' hB hA
    refine Free.opRun_call (f := 69) (args := #[.int .i64 (n : Int), .int .i64 9]) (by clear hB hA; go_simp <;> rfl) ?_
    refine (P1.out w' (HT.out.below (HBV.out.trans (hB.1.mono HBV.out.size)) (Nat.le_refl _))).mono ?_
    rintro e w3 ⟨rfl, hb3⟩
    exact ⟨_, rfl, hb3, rfl⟩
  simp only [Act.put, List.setIfInBounds_toArray, List.set_cons_succ, List.set_cons_zero]
  iterate 2 (apply Free.chain_still (by first | exact Free.wanted_of rfl rfl rfl | rfl) rfl; (intro w' hB hA; obtain ⟨qB, r0, r1, r2⟩ := hB; clear hA  qB; go_light; go_simp <;> rfl); (try simp only [Act.put, List.setIfInBounds_toArray, List.set_cons_succ, List.set_cons_zero]))
  apply Free.chain_det (by first | exact Free.wanted_of rfl rfl rfl | rfl) rfl
  · intro w' hB hA
    refine Free.opRun_call (f := 69) (args := #[.int .i64 (h : Int), .int .i64 1]) (by clear hB hA; go_simp <;> rfl) ?_
    refine (P2.out w' (HT.out.below (HBV.out.trans (hB.1.mono HBV.out.size)) (Nat.le_refl _))).mono ?_
    rintro e w3 ⟨rfl, hb3⟩
    exact ⟨_, rfl, hb3, rfl⟩
  simp only [Act.put, List.setIfInBounds_toArray, List.set_cons_succ, List.set_cons_zero]
  iterate 3 (apply Free.chain_still (by first | exact Free.wanted_of rfl rfl rfl | rfl) rfl; (intro w' hB hA; obtain ⟨qB, r0, r1, r2⟩ := hB; clear hA  qB; go_light; go_simp <;> rfl); (try simp only [Act.put, List.setIfInBounds_toArray, List.set_cons_succ, List.set_cons_zero]))
  apply Free.chain_det (by first | exact Free.wanted_of rfl rfl rfl | rfl) rfl
  · intro w' hB hA
    refine Free.opRun_call (f := 69) (args := #[.int .i64 (l : Int), .int .i64 6]) (by clear hB hA; go_simp <;> rfl) ?_
    refine (P3.out w' (HT.out.below (HBV.out.trans (hB.1.mono HBV.out.size)) (Nat.le_refl _))).mono ?_
    rintro e w3 ⟨rfl, hb3⟩
    exact ⟨_, rfl, hb3, rfl⟩
  simp only [Act.put, List.setIfInBounds_toArray, List.set_cons_succ, List.set_cons_zero]
  iterate 1 (apply Free.chain_still (by first | exact Free.wanted_of rfl rfl rfl | rfl) rfl; (intro w' hB hA; obtain ⟨qB, r0, r1, r2⟩ := hB; clear hA  qB; go_light; go_simp <;> rfl); (try simp only [Act.put, List.setIfInBounds_toArray, List.set_cons_succ, List.set_cons_zero]))
  apply Free.chain_nil
  intro wz hBz _ _
  simp only [List.drop_succ_cons, List.drop_zero]
  have L := Lib.hid (HBV.out.trans (hBz.1.mono HBV.out.size))
  clear hBz
  go_wp2_with fail
  go_ret
  exact ⟨by rw [← EQ.out]; rfl, L.out⟩
end Go.Proofs.YthfjaaigncjhlaaGreatDoor
