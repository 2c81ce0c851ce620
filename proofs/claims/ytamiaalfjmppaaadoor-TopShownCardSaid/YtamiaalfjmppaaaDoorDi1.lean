/- Package disclose: tagged, node, Leaf, half and Root. Condition: the variables of digest and of strconv hold their numbers. -/
import Derived.Test.YtamiaalfjmppaaaDoorFb1
import Derived.Test.YtamiaalfjmppaaaDoorShelf3
import Derived.Test.YtamiaalfjmppaaaDoorFree
import Derived.Test.YtamiaalfjmppaaaDoorOpn
import Derived.Lib.ItoaNum
namespace Go.Di
open Go

/-- The greatest power of two below n. -/
def half (n : Nat) : Nat := 2 ^ (Lib.bitLen (n - 1) - 1)
theorem half_pos (n : Nat) : 0 < half n := Nat.two_pow_pos _
theorem half_facts (n : Nat) (h : 2 ≤ n) (h2 : n < 9223372036854775808) : half n < n ∧ n ≤ 2 * half n ∧ Lib.bitLen (n - 1) ≤ 63 ∧ 1 ≤ Lib.bitLen (n - 1) := by
  obtain ⟨h3, h4, h5⟩ := Lib.bitLenAux_bounds 64 (n - 1) (by omega) (by omega)
  have h6 : Lib.bitLen (n - 1) ≤ 63 := Lib.bitLen_le (n - 1) 63 (by decide) (by omega)
  have e : 2 ^ Lib.bitLen (n - 1) = 2 * 2 ^ (Lib.bitLen (n - 1) - 1) := by
    have : Lib.bitLen (n - 1) = (Lib.bitLen (n - 1) - 1) + 1 := by have : 1 ≤ Lib.bitLen (n - 1) := h3; omega
    rw [this, Nat.pow_succ]; simp; omega
  have h4' : 2 ^ (Lib.bitLen (n - 1) - 1) ≤ n - 1 := h4
  have h5' : n - 1 < 2 ^ Lib.bitLen (n - 1) := h5
  unfold half
  exact ⟨by omega, by omega, h6, h3⟩
end Go.Di
namespace Go.Proofs.YtamiaalfjmppaaaDoor
open Go.RowKit Go.W32 Go.Blk Go.Sg Go.Opn Go.Di

/-- The text that is digested for a word and two texts. -/
def tagT (t a b : ByteArray) : ByteArray := t ++ ⟨#[32]⟩ ++ dec (a.size : Int) ++ ⟨#[32]⟩ ++ a ++ b
def tagD (t a b : ByteArray) : ByteArray := sumB KC (tagT t a b)
def nodeT (a b : ByteArray) : ByteArray := tagT ⟨#[110, 111, 100, 101]⟩ a b
def nodeD (a b : ByteArray) : ByteArray := tagD ⟨#[110, 111, 100, 101]⟩ a b
def leafT (x : Fac) (s : ByteArray) : ByteArray := tagT ⟨#[108, 101, 97, 102]⟩ s (bdF x)
def leafD (x : Fac) (s : ByteArray) : ByteArray := tagD ⟨#[108, 101, 97, 102]⟩ s (bdF x)
theorem sumB_size (t : ByteArray) : (sumB KC t).size = 64 := by rw [sumB_eq]; show (sumL KC t).toArray.size = 64; simp [sumL_len]
theorem tagD_size (t a b : ByteArray) : (tagD t a b).size = 64 := sumB_size _
set_option maxRecDepth 100000 in
theorem tag_any (t a b : ByteArray) (w : World) (h0 : t.size ≤ 10) (h1 : a.size ≤ 1000000000) (h2 : b.size ≤ 1000000000) (hT : HasT w) :
    Calls Tryd.prog 38 #[.string t, .string a, .string b] w fun e w' => e = .returned (.string (tagD t a b)) ∧ Below w.heap.size w w' := by
  have s1 := dec_size (a.size : Int) (by omega) (by omega)
  have HT0 := Lib.hid hT
  have HB0 := Lib.hid (Below.refl w.heap.size w)
  have i1 := fun w h => itoa_any (a.size : Int) w (by omega) (by omega) h
  have hsz : (tagT t a b).size < 140737488355328 := by
    have e : (tagT t a b).size = t.size + 1 + (dec (a.size : Int)).size + 1 + a.size + b.size := by unfold tagT; rw [ba_size, ba_size, ba_size, ba_size, ba_size]; rfl
    omega
  have n1 := fun w h => sum_any KC (tagT t a b) w hsz h
  unfold tagD
  obtain ⟨d, ed⟩ : ∃ d, d = dec (a.size : Int) := ⟨_, rfl⟩
  unfold tagT at n1 hsz ⊢
  rw [← ed] at i1 s1 n1 hsz ⊢
  have I1 := Lib.hid i1
  have N1 := Lib.hid n1
  clear i1 n1 hT ed hsz
  go_enter Tryd.func38, Tryd.ntmps38
  go_wp2_with fail
  refine (I1.out _ HT0.out).mono ?_
  rintro e w1 ⟨rfl, hb1⟩
  have HT1 := Lib.hid (HT0.out.below hb1 (Nat.le_refl _))
  have HB1 := Lib.hid (HB0.out.trans (hb1.mono HB0.out.size))
  clear hb1
  go_wp2_with fail
  refine (N1.out _ HT1.out.k).mono ?_
  rintro e w2 ⟨rfl, hb2⟩
  have HT2 := Lib.hid (HT1.out.below hb2 (Nat.le_refl _))
  have HB2 := Lib.hid (HB1.out.trans (hb2.mono HB1.out.size))
  clear hb2
  go_wp2_with fail
  go_ret
  exact ⟨rfl, HB2.out⟩
theorem node_any (a b : ByteArray) (w : World) (h1 : a.size ≤ 1000000000) (h2 : b.size ≤ 1000000000) (hT : HasT w) :
    Calls Tryd.prog 48 #[.string a, .string b] w fun e w' => e = .returned (.string (nodeD a b)) ∧ Below w.heap.size w w' := by
  have T1 := Lib.hid (tag_any ⟨#[110, 111, 100, 101]⟩ a b w (by decide) h1 h2 hT)
  clear hT
  go_enter Tryd.func48, Tryd.ntmps48
  go_wp2_with fail
  refine T1.out.mono ?_
  rintro e w1 ⟨rfl, hb⟩
  go_wp2_with fail
  go_ret
  exact ⟨rfl, hb⟩
set_option maxRecDepth 100000 in
theorem leaf_any (x : Fac) (s : ByteArray) (w : World) (hx : x.Ok) (h1 : s.size ≤ 1000000000) (hT : HasT w) :
    Calls Tryd.prog 12 #[.agg (encF x).toArray, .string s] w fun e w' => e = .returned (.string (leafD x s)) ∧ Below w.heap.size w w' := by
  have hs := bdP_size hx 6
  have T1 := Lib.hid (fun w hT => tag_any ⟨#[108, 101, 97, 102]⟩ s (bdF x) w (by decide) h1 (by show (bdP x 6).size ≤ _; omega) hT)
  have B1 := Lib.hid (fun w hT => body_any x w hx hT)
  have HT := Lib.hid hT
  unfold leafD
  obtain ⟨bd, ebd⟩ : ∃ bd, bd = bdF x := ⟨_, rfl⟩
  rw [← ebd] at T1 B1 ⊢
  clear hT hs ebd hx
  obtain ⟨xr, xa, xl, xh, xf, xs⟩ := x
  rw [show encF ⟨xr, xa, xl, xh, xf, xs⟩ = [.int .i64 xr, .int .i64 xa, .int .i64 xl, .int .i64 xh, .int .i64 xf, .bool xs] from rfl] at B1 ⊢
  go_enter Tryd.func12, Tryd.ntmps12
  go_wp2_with fail
  refine (B1.out _ (HT.out.alloc _)).mono ?_
  rintro e w1 ⟨rfl, hb⟩
  have L1 : Hid (Below w.heap.size w w1) := (((Below.refl _ w).alloc (Nat.le_refl _) _).trans (hb.mono (by simp)))
  clear hb
  go_wp2_with fail
  refine (T1.out _ (HT.out.below L1.out (Nat.le_refl _))).mono ?_
  rintro e w2 ⟨rfl, hb⟩
  have L2 := Lib.hid (L1.out.trans (hb.mono L1.out.size))
  clear hb
  go_wp2_with fail
  go_ret
  exact ⟨rfl, L2.out⟩
theorem half_any (n : Nat) (w : World) (h : 2 ≤ n) (h2 : n < 4611686018427387904) :
    Calls Tryd.prog 47 #[.int .i64 (n : Int)] w fun e w' => e = .returned (.int .i64 (half n : Nat)) ∧ w = w' := by
  obtain ⟨h3, h4, h5, h6⟩ := half_facts n h (by omega)
  have hl62 : Lib.bitLen (n - 1) ≤ 62 := Lib.bitLen_le (n - 1) 62 (by decide) (by omega)
  have CL : Hid (∀ w, Calls Tryd.prog 65 #[.int .u64 ((n : Int) - 1)] w fun e w' => e = .returned (.int .i64 (Lib.bitLen (n - 1) : Nat)) ∧ w' = w) := fun w => by
    have := Tryd.bits_Len ((n : Int) - 1) w (by omega) (by omega)
    rw [show ((n : Int) - 1).toNat = n - 1 by omega] at this; exact this
  unfold half
  unfold half at h3 h4
  obtain ⟨k, ek⟩ : ∃ k, k + 1 = Lib.bitLen (n - 1) := ⟨Lib.bitLen (n - 1) - 1, by omega⟩
  rw [← ek] at CL h3 h4 hl62 ⊢
  rw [Nat.add_sub_cancel] at *
  clear ek h5 h6
  go_enter Tryd.func47, Tryd.ntmps47
  go_wp2_with fail
  refine (CL.out _).mono ?_
  rintro e w1 ⟨rfl, rfl⟩
  have hw : wrap64 ((2 : Int) ^ k) = ((2 ^ k : Nat) : Int) := by
    rw [show ((2 : Int) ^ k) = ((2 ^ k : Nat) : Int) by simp]
    unfold wrap64
    generalize 2 ^ k = q at *
    omega
  go_wp2_with fail
  go_ret
  exact ⟨by show Ending.returned (.int .i64 (wrap64 ((2 : Int) ^ k))) = _; rw [hw], rfl⟩
end Go.Proofs.YtamiaalfjmppaaaDoor
