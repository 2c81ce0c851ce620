/- The head of the statements on package disk: fixed examples. -/
import Derived.Test.YtkccfmaimpnbcaaDl4
namespace Go.Proofs.Ytkccfmaimpnbcaa
open Go.RowKit Go.Blk Go.Dk Go.Mp Go.Opn

def rA : List UInt8 := List.replicate 32 97
def rB : List UInt8 := List.replicate 32 98
def rM : List UInt8 := [98, 98] ++ List.replicate 30 97
def rZ : List UInt8 := List.replicate 32 0
def fA : ByteArray := ⟨rA.toArray⟩
def fB : ByteArray := ⟨rB.toArray⟩
def fZ : ByteArray := ⟨rZ.toArray⟩
def fM : ByteArray := ⟨rM.toArray⟩
theorem tA : actText ⟨#[97]⟩ false = fA := by kernel_rfl
theorem tB : actText ⟨#[98]⟩ false = fB := by kernel_rfl
theorem tZ : actText ⟨#[0]⟩ false = fZ := by kernel_rfl
theorem mA : (⟨#[98, 98]⟩ : ByteArray) ++ fA.extract 2 fA.size = fM := by kernel_rfl
def h0 : DD := DD.new 2
def h1 : DD := { h0 with pend := [(0, rA)] }
def h2 : DD := { h0 with st := rA ++ rZ }
def h3 : DD := { h2 with pend := [(0, rB)] }
def h4 : DD := { h0 with on := false, st := rM ++ rZ }
def h5 : DD := { h0 with st := rM ++ rZ }
theorem e1 : DD.write 2 h0 0 fA.data.toList = (h1, 0) := by kernel_rfl
theorem e2 : h1.sync = (h2, 0) := by kernel_rfl
theorem e3 : DD.write 2 h2 0 fB.data.toList = (h3, 0) := by kernel_rfl
theorem e4 : DD.read 2 h3 0 = (rB, 0) := by kernel_rfl
theorem e5 : h3.fail 0 2 = h4 := by kernel_rfl
theorem e6 : h4.sync = (h4, 21) := by kernel_rfl
theorem e7 : h4.start = h5 := by kernel_rfl
theorem e8 : DD.read 2 h5 0 = (rM, 0) := by kernel_rfl
theorem e9 : DD.read 2 h5 1 = (rZ, 0) := by kernel_rfl
theorem e10 : DD.read 2 h5 2 = ([], 1) := by kernel_rfl
theorem e11 : DD.write 2 h5 1 [115, 104, 111, 114, 116] = (h5, 1) := by kernel_rfl
def k0 : DD := DD.new 1
def k1 : DD := { k0 with armed := true, after := 1, writes := 1, bytes := 2 }
def k2 : DD := { k1 with after := 0, pend := [(0, rA)] }
def k3 : DD := { k1 with after := 0, on := false, armed := false, st := rM }
def k4 : DD := { k3 with on := true }
theorem g1 : (DD.new 1).arm 1 1 2 = k1 := by kernel_rfl
theorem g2 : DD.write 1 k1 0 fA.data.toList = (k2, 0) := by kernel_rfl
theorem g3 : DD.write 1 k2 0 fB.data.toList = (k3, 21) := by kernel_rfl
theorem g4 : k3.start = k4 := by kernel_rfl
theorem g5 : DD.read 1 k4 0 = (rM, 0) := by kernel_rfl
theorem sA : fA.size = 32 := rfl
theorem fill_is (t u : ByteArray) (w : World) (e : actText t false = u) (ht : t.size ≤ 100) : Calls Try.prog 20 #[.string t] w fun e w' => e = .returned (.string u) ∧ Below w.heap.size w w' := by
  have := fill_any t w ht
  rwa [e] at this
set_option maxRecDepth 100000 in
set_option maxHeartbeats 4000000 in
theorem head44_any (w : World) : Calls Try.prog 6 #[] w fun e w' => e = .returned (.bool true) ∧ Below w.heap.size w w' := by
  go_enter Try.func6, Try.ntmps6
  go_wp2_with fail
  refine (DW.new (G := fun _ => False) 2 (by decide) (by decide) w w (Below.refl _ _) (fun _ f => f.elim)).mono ?_
  rintro e w1 ⟨b, rfl, hd, hx⟩
  clear hx
  have D1 := Lib.hid hd
  clear hd
  go_wp2_with fail
  refine (fill_is ⟨#[97]⟩ fA _ tA (by decide)).mono ?_
  rintro e w2 ⟨rfl, hb2⟩
  have D2 := Lib.hid (D1.out.grow hb2)
  clear hb2 D1
  go_wp2_with fail
  refine (D2.out.write 0 fA (by decide) e1).mono ?_
  rintro e w3 ⟨rfl, hd3, hx, hy⟩
  clear hx hy
  have D3 := Lib.hid hd3
  clear hd3 D2
  go_wp2_with fail
  refine (D3.out.sync e2).mono ?_
  rintro e w4 ⟨rfl, hd4, hx, hy⟩
  clear hx hy
  have D4 := Lib.hid hd4
  clear hd4 D3
  go_wp2_with fail
  refine (fill_is ⟨#[98]⟩ fB _ tB (by decide)).mono ?_
  rintro e w5 ⟨rfl, hb5⟩
  have D5 := Lib.hid (D4.out.grow hb5)
  clear hb5 D4
  go_wp2_with fail
  refine (D5.out.write 0 fB (by decide) e3).mono ?_
  rintro e w6 ⟨rfl, hd6, hx, hy⟩
  clear hx hy
  have D6 := Lib.hid hd6
  clear hd6 D5
  go_wp2_with fail
  refine (D6.out.read 0 e4).mono ?_
  rintro e w' ⟨rfl, rfl⟩
  go_wp2_with fail
  refine (D6.out.fail 0 2 (by decide) (by decide)).mono ?_
  rintro e w7 ⟨rfl, hd7, hx, hy⟩
  clear hx hy
  have D7 := Lib.hid hd7
  clear hd7 D6
  rw [e5] at D7
  go_wp2_with fail
  refine (D7.out.sync e6).mono ?_
  rintro e w8 ⟨rfl, hd8, hx, hy⟩
  clear hx hy
  have D8 := Lib.hid hd8
  clear hd8 D7
  go_wp2_with fail
  refine (D8.out.start).mono ?_
  rintro e w9 ⟨rfl, hd9, hx, hy⟩
  clear hx hy
  have D9 := Lib.hid hd9
  clear hd9 D8
  rw [e7] at D9
  go_wp2_with fail
  refine (D9.out.read 0 e8).mono ?_
  rintro e w' ⟨rfl, rfl⟩
  go_wp2_with fail
  refine (D9.out.read 1 e9).mono ?_
  rintro e w' ⟨rfl, rfl⟩
  go_wp2_with fail
  refine (D9.out.read 2 e10).mono ?_
  rintro e w' ⟨rfl, rfl⟩
  go_wp2_with fail
  refine (D9.out.write 1 ⟨#[115, 104, 111, 114, 116]⟩ (by decide) e11).mono ?_
  rintro e w10 ⟨rfl, hd10, hx, hy⟩
  clear hx hy
  have D10 := Lib.hid hd10
  clear hd10 D9
  go_wp2_with fail
  refine (fail_nil 1 1 _).mono ?_
  rintro e w' ⟨rfl, rfl⟩
  go_wp2_with fail
  refine (start_nil _).mono ?_
  rintro e w' ⟨rfl, rfl⟩
  go_wp2_with fail
  refine (arm_nil 0 1 1 _).mono ?_
  rintro e w' ⟨rfl, rfl⟩
  go_wp2_with fail
  refine (DW.new (G := fun _ => False) 1 (by decide) (by decide) w w10 D10.out.bl (fun _ f => f.elim)).mono ?_
  rintro e w11 ⟨q, rfl, hd, hx⟩
  clear hx
  have D11 := Lib.hid hd
  clear hd D10
  go_wp2_with fail
  refine (D11.out.arm 1 1 2 (by decide) (by decide) (by decide) (by decide) (by decide) (by decide)).mono ?_
  rintro e w12 ⟨rfl, hd12, hx, hy⟩
  clear hx hy
  have D12 := Lib.hid hd12
  clear hd12 D11
  rw [g1] at D12
  go_wp2_with fail
  refine (fill_is ⟨#[97]⟩ fA _ tA (by decide)).mono ?_
  rintro e w13 ⟨rfl, hb13⟩
  have D13 := Lib.hid (D12.out.grow hb13)
  clear hb13 D12
  go_wp2_with fail
  refine (D13.out.write 0 fA (by decide) g2).mono ?_
  rintro e w14 ⟨rfl, hd14, hx, hy⟩
  clear hx hy
  have D14 := Lib.hid hd14
  clear hd14 D13
  go_wp2_with fail
  refine (fill_is ⟨#[98]⟩ fB _ tB (by decide)).mono ?_
  rintro e w15 ⟨rfl, hb15⟩
  have D15 := Lib.hid (D14.out.grow hb15)
  clear hb15 D14
  go_wp2_with fail
  refine (D15.out.write 0 fB (by decide) g3).mono ?_
  rintro e w16 ⟨rfl, hd16, hx, hy⟩
  clear hx hy
  have D16 := Lib.hid hd16
  clear hd16 D15
  go_wp2_with fail
  refine (D16.out.start).mono ?_
  rintro e w17 ⟨rfl, hd17, hx, hy⟩
  clear hx hy
  have D17 := Lib.hid hd17
  clear hd17 D16
  rw [g4] at D17
  go_wp2_with fail
  refine (D17.out.read 0 g5).mono ?_
  rintro e w' ⟨rfl, rfl⟩
  have sa := sA
  have ma := mA
  rw [sA] at ma
  have cM : (⟨rM.toArray⟩ : ByteArray) = fM := rfl
  have cB : (⟨rB.toArray⟩ : ByteArray) = fB := rfl
  have cZ : (⟨rZ.toArray⟩ : ByteArray) = fZ := rfl
  go_wp2_with fail
  refine (fill_is ⟨#[97]⟩ fA _ tA (by decide)).mono ?_
  rintro e w18 ⟨rfl, hb18⟩
  have D18 := Lib.hid (D17.out.grow hb18)
  clear hb18 D17
  go_wp2_with fail
  refine (fill_is ⟨#[98]⟩ fB _ tB (by decide)).mono ?_
  rintro e w19 ⟨rfl, hb19⟩
  have D19 := Lib.hid (D18.out.grow hb19)
  clear hb19 D18
  go_wp2_with fail
  refine (fill_is ⟨#[97]⟩ fA _ tA (by decide)).mono ?_
  rintro e w20 ⟨rfl, hb20⟩
  have D20 := Lib.hid (D19.out.grow hb20)
  clear hb20 D19
  go_wp2_with fail
  refine (fill_is ⟨#[0]⟩ fZ _ tZ (by decide)).mono ?_
  rintro e w21 ⟨rfl, hb21⟩
  have D21 := Lib.hid (D20.out.grow hb21)
  clear hb21 D20
  go_wp2_with fail
  refine (sync_nil _).mono ?_
  rintro e w' ⟨rfl, rfl⟩
  go_wp2_with fail
  refine (fill_is ⟨#[97]⟩ fA _ tA (by decide)).mono ?_
  rintro e w22 ⟨rfl, hb22⟩
  have D22 := Lib.hid (D21.out.grow hb22)
  clear hb22 D21
  go_wp2_with fail
  refine (write_nil 0 fA _).mono ?_
  rintro e w' ⟨rfl, rfl⟩
  go_wp2_with fail
  refine (new_nil 0 _ (by decide)).mono ?_
  rintro e w' ⟨rfl, rfl⟩
  go_wp2_with fail
  refine (new_nil 4001 _ (by decide)).mono ?_
  rintro e w' ⟨rfl, rfl⟩
  have HB := Lib.hid D22.out.bl
  clear D22
  go_wp2_with fail
  go_ret
  exact ⟨rfl, HB.out⟩
end Go.Proofs.Ytkccfmaimpnbcaa
