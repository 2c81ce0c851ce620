/- The head of the statements on package digest: fixed examples. Condition: the variable constants holds its 64 numbers. -/
import Derived.Test.YtkccfmaimpnbcaaDoorNum
namespace Go.Proofs.YtkccfmaimpnbcaaDoor
open Go.RowKit Go.W32 Go.Blk

def KC : List UInt32 := [1116352408, 1899447441, 3049323471, 3921009573, 961987163, 1508970993, 2453635748, 2870763221, 3624381080, 310598401, 607225278, 1426881987, 1925078388, 2162078206, 2614888103, 3248222580, 3835390401, 4022224774, 264347078, 604807628, 770255983, 1249150122, 1555081692, 1996064986, 2554220882, 2821834349, 2952996808, 3210313671, 3336571891, 3584528711, 113926993, 338241895, 666307205, 773529912, 1294757372, 1396182291, 1695183700, 1986661051, 2177026350, 2456956037, 2730485921, 2820302411, 3259730800, 3345764771, 3516065817, 3600352804, 4094571909, 275423344, 430227734, 506948616, 659060556, 883997877, 958139571, 1322822218, 1537002063, 1747873779, 1955562222, 2024104815, 2227730452, 2361852424, 2428436474, 2756734187, 3204031479, 3329325298]
/-- The variable holds its numbers. -/
def HasK (w : World) : Prop := ∀ i, i < 64 → w.cell? ⟨0, i, none⟩ = some (.int .u32 (KC.getD i 0).toNat)
theorem HasK.below {w w' : World} {B : Nat} (h : HasK w) (hb : Below B w w') (hB : w.heap.size ≤ B) : HasK w' := fun i hi => by
  rw [hb.cell (p := ⟨0, i, none⟩) (by have := World.block_lt_of_cell? w _ (h i hi); omega)]; exact h i hi

theorem sum_empty : sumB KC ⟨#[]⟩ = ⟨#[101, 51, 98, 48, 99, 52, 52, 50, 57, 56, 102, 99, 49, 99, 49, 52, 57, 97, 102, 98, 102, 52, 99, 56, 57, 57, 54, 102, 98, 57, 50, 52, 50, 55, 97, 101, 52, 49, 101, 52, 54, 52, 57, 98, 57, 51, 52, 99, 97, 52, 57, 53, 57, 57, 49, 98, 55, 56, 53, 50, 98, 56, 53, 53]⟩ := by kernel_rfl
theorem sum_abc : sumB KC ⟨#[97, 98, 99]⟩ = ⟨#[98, 97, 55, 56, 49, 54, 98, 102, 56, 102, 48, 49, 99, 102, 101, 97, 52, 49, 52, 49, 52, 48, 100, 101, 53, 100, 97, 101, 50, 50, 50, 51, 98, 48, 48, 51, 54, 49, 97, 51, 57, 54, 49, 55, 55, 97, 57, 99, 98, 52, 49, 48, 102, 102, 54, 49, 102, 50, 48, 48, 49, 53, 97, 100]⟩ := by kernel_rfl
theorem num_16 : number KC ⟨#[97, 98, 99]⟩ 16 = 14 := by kernel_rfl
theorem num_256 : number KC ⟨#[97, 98, 99]⟩ 256 = 254 := by kernel_rfl
theorem num_0 : number KC ⟨#[97, 98, 99]⟩ 0 = 0 := by kernel_rfl
theorem num_1 : number KC ⟨#[97, 98, 99]⟩ 1 = 0 := by kernel_rfl

set_option maxRecDepth 100000 in
set_option maxHeartbeats 1000000 in
theorem head_any (w : World) (hK : HasK w) : Calls Tryd.prog 8 #[] w fun r w' => r = .returned (.bool true) ∧ Below w.heap.size w w' := by
  have HK := Lib.hid hK
  clear hK
  go_enter Tryd.func8, Tryd.ntmps8
  go_wp2_with fail
  refine (sum_any KC ⟨#[]⟩ _ (by decide) HK.out).mono ?_
  rw [sum_empty]
  rintro e w1 ⟨rfl, hb1⟩
  have HK1 := Lib.hid (HK.out.below hb1 (Nat.le_refl _))
  have HB1 := Lib.hid hb1
  clear hb1
  go_wp2_with fail
  refine (sum_any KC ⟨#[97, 98, 99]⟩ _ (by decide) HK1.out).mono ?_
  rw [sum_abc]
  rintro e w2 ⟨rfl, hb2⟩
  have HK2 := Lib.hid (HK1.out.below hb2 (Nat.le_refl _))
  have HB2 := Lib.hid (HB1.out.trans (hb2.mono HB1.out.size))
  clear hb2
  go_wp2_with fail
  refine (number_any KC ⟨#[97, 98, 99]⟩ 16 _ (by decide) (by decide) HK2.out).mono ?_
  rw [num_16]
  rintro e w3 ⟨rfl, hb3⟩
  have HK3 := Lib.hid (HK2.out.below hb3 (Nat.le_refl _))
  have HB3 := Lib.hid (HB2.out.trans (hb3.mono HB2.out.size))
  clear hb3
  go_wp2_with fail
  refine (number_any KC ⟨#[97, 98, 99]⟩ 256 _ (by decide) (by decide) HK3.out).mono ?_
  rw [num_256]
  rintro e w4 ⟨rfl, hb4⟩
  have HK4 := Lib.hid (HK3.out.below hb4 (Nat.le_refl _))
  have HB4 := Lib.hid (HB3.out.trans (hb4.mono HB3.out.size))
  clear hb4
  go_wp2_with fail
  refine (number_any KC ⟨#[97, 98, 99]⟩ 0 _ (by decide) (by decide) HK4.out).mono ?_
  rw [num_0]
  rintro e w5 ⟨rfl, hb5⟩
  have HK5 := Lib.hid (HK4.out.below hb5 (Nat.le_refl _))
  have HB5 := Lib.hid (HB4.out.trans (hb5.mono HB4.out.size))
  clear hb5
  go_wp2_with fail
  refine (number_any KC ⟨#[97, 98, 99]⟩ 1 _ (by decide) (by decide) HK5.out).mono ?_
  rw [num_1]
  rintro e w6 ⟨rfl, hb6⟩
  have HB6 := Lib.hid (HB5.out.trans (hb6.mono HB5.out.size))
  clear hb6
  go_wp2_with fail
  go_ret
  exact ⟨rfl, HB6.out⟩
end Go.Proofs.YtkccfmaimpnbcaaDoor
