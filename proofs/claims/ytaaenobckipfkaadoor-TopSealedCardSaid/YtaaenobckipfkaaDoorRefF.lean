/- The reference's Number (layer 28). -/
import Derived.Test.YtaaenobckipfkaaDoorRefE
namespace Go.Proofs.YtaaenobckipfkaaDoor
open Go.RowKit Go.W32 Go.Blk

theorem wrap_u64 (n : Nat) (h : n < 18446744073709551616) : IntKind.u64.wrap (n : Int) = (n : Int) := by
  have e : IntKind.u64.wrap (n : Int) = (n : Int) % 18446744073709551616 := by simp [IntKind.wrap, IntKind.bits, IntKind.signed]
  rw [e]; omega
theorem or_64 (a b : Nat) (ha : a < 4294967296) (hb : b < 4294967296) : bits .or .u64 ((a * 4294967296 : Nat) : Int) (b : Int) = ((a * 4294967296 + b : Nat) : Int) := by
  show IntKind.u64.wrap ((BitVec.ofInt 64 ((a * 4294967296 : Nat) : Int) ||| BitVec.ofInt 64 (b : Int)).toNat : Int) = _
  rw [BitVec.ofInt_natCast, BitVec.ofInt_natCast, BitVec.toNat_or, BitVec.toNat_ofNat, BitVec.toNat_ofNat, Nat.mod_eq_of_lt (by omega : a * 4294967296 < 2 ^ 64), Nat.mod_eq_of_lt (by omega : b < 2 ^ 64)]
  have h := Nat.shiftLeft_add_eq_or_of_lt (show b < 2 ^ 32 by omega) a
  rw [Nat.shiftLeft_eq] at h
  have h2 : a * 4294967296 ||| b = a * 4294967296 + b := h.symm
  rw [h2]; exact wrap_u64 _ (by omega)
theorem hv_hex (q : Nat) (h : q < 16) : hv (hexS.getD q 0) = q := by
  have : ∀ q, q < 16 → hv (hexS.getD q 0) = q := by decide
  exact this q h
theorem take15 (x : S8) : (hexOf x).take 15 = digs x.a ++ (digs x.b).take 7 := by
  rfl
theorem yst (a b c M : Nat) : (a * M + b / (c * 16)) * 16 + b / c % 16 = a * (M * 16) + b / c := by
  rw [← Nat.div_div_eq_div_mul b c 16, Nat.add_mul, Nat.mul_assoc]; omega
theorem num_15 (x : S8) : num ((hexOf x).take 15) = (x.a.toNat * 4294967296 + x.b.toNat) / 16 := by
  rw [take15]
  have ha := x.a.toNat_lt
  have hb := x.b.toNat_lt
  simp only [digs, num, List.range, List.range.loop, List.map_cons, List.map_nil, List.take_succ_cons, List.take_zero, List.cons_append, List.nil_append, List.foldl_cons, List.foldl_nil, hv_hex _ (nib_lt _ _)]
  simp only [nib]
  generalize x.a.toNat = a at *
  generalize x.b.toNat = b at *
  simp only [Nat.reducePow, Nat.reduceMul, Nat.reduceSub, Nat.div_one] at *
  have z0 : 0 * 16 + a / 268435456 % 16 = a / 268435456 := by omega
  have z1 : a / 268435456 * 16 + a / 16777216 % 16 = a / 16777216 := by omega
  have z2 : a / 16777216 * 16 + a / 1048576 % 16 = a / 1048576 := by omega
  have z3 : a / 1048576 * 16 + a / 65536 % 16 = a / 65536 := by omega
  have z4 : a / 65536 * 16 + a / 4096 % 16 = a / 4096 := by omega
  have z5 : a / 4096 * 16 + a / 256 % 16 = a / 256 := by omega
  have z6 : a / 256 * 16 + a / 16 % 16 = a / 16 := by omega
  have z7 : a / 16 * 16 + a % 16 = a := by omega
  have y0 : a * 16 + b / 268435456 % 16 = a * 16 + b / 268435456 := by clear z0 z1 z2 z3 z4 z5 z6 z7; omega
  have y1 : (a * 16 + b / 268435456) * 16 + b / 16777216 % 16 = a * 256 + b / 16777216 := yst a b 16777216 16
  have y2 : (a * 256 + b / 16777216) * 16 + b / 1048576 % 16 = a * 4096 + b / 1048576 := yst a b 1048576 256
  have y3 : (a * 4096 + b / 1048576) * 16 + b / 65536 % 16 = a * 65536 + b / 65536 := yst a b 65536 4096
  have y4 : (a * 65536 + b / 65536) * 16 + b / 4096 % 16 = a * 1048576 + b / 4096 := yst a b 4096 65536
  have y5 : (a * 1048576 + b / 4096) * 16 + b / 256 % 16 = a * 16777216 + b / 256 := yst a b 256 1048576
  have y6 : (a * 16777216 + b / 256) * 16 + b / 16 % 16 = a * 268435456 + b / 16 := yst a b 16 16777216
  rw [z0, z1, z2, z3, z4, z5, z6, z7, y0, y1, y2, y3, y4, y5, y6]
  omega
theorem refnum_val (x : S8) (m : Int) (h1 : 1 ≤ m) (h2 : m ≤ 9223372036854775807) : wrap64 ((bits BinOp.or IntKind.u64 (IntKind.u64.wrap (IntKind.u64.wrap ↑x.a.toNat * 4294967296)) (IntKind.u64.wrap ↑x.b.toNat) / 16).tmod m) = (num ((hexOf x).take 15) : Int) % m := by
  have ha : x.a.toNat < 4294967296 := x.a.toNat_lt
  have hb : x.b.toNat < 4294967296 := x.b.toNat_lt
  rw [wrap_u64 x.a.toNat (by omega), wrap_u64 x.b.toNat (by omega), show (x.a.toNat : Int) * 4294967296 = ((x.a.toNat * 4294967296 : Nat) : Int) by omega, wrap_u64 _ (by omega), or_64 _ _ ha hb, num_15]
  generalize x.a.toNat * 4294967296 + x.b.toNat = n
  rw [show ((n : Int) / 16) = ((n / 16 : Nat) : Int) by omega]
  generalize n / 16 = r
  rw [Int.tmod_eq_emod_of_nonneg (by omega)]
  have h3 := Int.emod_nonneg (r : Int) (show m ≠ 0 by omega)
  have h4 := Int.emod_lt_of_pos (r : Int) (show 0 < m by omega)
  unfold wrap64; omega
attribute [local go_sem] evs evn psz
set_option maxRecDepth 100000 in
set_option maxHeartbeats 1000000 in
theorem refnum_any (t : ByteArray) (m : Int) (w : World) (ht : t.size ≤ 1000000000) (hm : m ≤ 9223372036854775807) :
    Calls Tryd.prog 68 #[.string t, .int .i64 m] w fun e w' => e = .returned (.int .i64 (number KC t m)) ∧ Below w.heap.size w w' := by
  by_cases h1 : m < 1
  · go_enter Tryd.func68, Tryd.ntmps68
    go_wp2_with fail
    go_ret
    exact ⟨by rw [number, if_pos h1]; rfl, Below.refl _ _⟩
  · have hm1 : 1 ≤ m := by omega
    go_enter Tryd.func68, Tryd.ntmps68
    go_wp2_with fail
    refine (words_any t _ ht).mono ?_
    rintro e w1 ⟨g, cap, rfl, hrow, hbl⟩
    rw [ref_blocks] at hrow
    change RowAt w1 g (wordsOf KC t).cells 99 at hrow
    obtain ⟨x, hx⟩ : ∃ x, x = wordsOf KC t := ⟨_, rfl⟩
    rw [← hx] at hrow
    have HX := Lib.hid hx
    have c0 := hrow.cell 0 (.int .u32 x.a.toNat) rfl
    have c1 := hrow.cell 1 (.int .u32 x.b.toNat) rfl
    clear hx hrow
    go_wp2_with fail
    generalize ha : Act.mk _ _ = a
    have sz : a.tmps.size = 27 := by rw [← ha]; rfl
    have s5 : a.tmps[5]'(by omega) = .slice (some ⟨g, 0, none⟩) 8 cap := by subst ha; rfl
    have HA := Lib.hid ha
    clear ha
    refine Free.wp_region_free 12 [] (fun w2 => w2.cell? ⟨g, 0, none⟩ = some (.int .u32 x.a.toNat) ∧ w2.cell? ⟨g, 1, none⟩ = some (.int .u32 x.b.toNat)) (by kernel_rfl) (by kernel_rfl) ?_ ⟨c0, c1⟩ (fun _ _ h g => ⟨cell_grow h.1 g, cell_grow h.2 g⟩) ?_
    · intro j mk r hf
      simp only [Free.find] at hf
      cases hf
    · simp only [List.take_succ_cons, List.take_zero]
      clear c0 c1
      iterate 12 (apply Free.chain_still rfl rfl; (intro w' ⟨q0, q1⟩ hA; clear hA; go_light; go_simp <;> rfl))
      apply Free.chain_nil
      intro w4 hB4 hg _
      have hg' := grow_drew hg
      have hbl4 : Below w.heap.size w w4 := hbl.trans (hg'.mono hbl.size)
      clear hg hg' sz s5
      simp only [List.drop_succ_cons, List.drop_zero]
      obtain rfl := HA.out
      simp only [Act.put, List.setIfInBounds_toArray, List.set_cons_succ, List.set_cons_zero]
      go_wp2
      go_ret
      refine ⟨?_, hbl4⟩
      rw [number, if_neg (by omega)]
      apply congrArg Ending.returned
      apply congrArg (Value.int IntKind.i64)
      rw [sumL, sumB_words, ← HX.out]
      exact refnum_val x m hm1 hm
end Go.Proofs.YtaaenobckipfkaaDoor
