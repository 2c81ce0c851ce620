/- Words of 32 bits: Go's operations on uint32 are those of UInt32. No condition. -/
import Derived.WalkKit
set_option linter.unusedSimpArgs false
set_option linter.unusedVariables false
namespace Go.W32
open Go

theorem wrap_u32 (n : Int) : IntKind.u32.wrap n = n % 4294967296 := by simp [IntKind.wrap, IntKind.bits, IntKind.signed]
theorem add_w (a b : UInt32) : IntKind.u32.wrap ((a.toNat : Int) + (b.toNat : Int)) = ((a + b).toNat : Int) := by
 rw [wrap_u32, UInt32.toNat_add]; omega
theorem ofInt_toNat (a : UInt32) : BitVec.ofInt 32 (a.toNat : Int) = a.toBitVec := by
 apply BitVec.eq_of_toNat_eq
 rw [BitVec.ofInt_natCast, BitVec.toNat_ofNat]
 have := a.toNat_lt
 exact Nat.mod_eq_of_lt this
theorem wrap_nat (a : UInt32) : IntKind.u32.wrap (a.toNat : Int) = (a.toNat : Int) := by
 rw [wrap_u32]; have := a.toNat_lt; omega
theorem xor_w (a b : UInt32) : bits .xor .u32 (a.toNat : Int) (b.toNat : Int) = ((a ^^^ b).toNat : Int) := by
 show IntKind.u32.wrap ((BitVec.ofInt 32 (a.toNat : Int) ^^^ BitVec.ofInt 32 (b.toNat : Int)).toNat : Int) = _
 rw [ofInt_toNat, ofInt_toNat]; exact wrap_nat (a ^^^ b)
theorem and_w (a b : UInt32) : bits .and .u32 (a.toNat : Int) (b.toNat : Int) = ((a &&& b).toNat : Int) := by
 show IntKind.u32.wrap ((BitVec.ofInt 32 (a.toNat : Int) &&& BitVec.ofInt 32 (b.toNat : Int)).toNat : Int) = _
 rw [ofInt_toNat, ofInt_toNat]; exact wrap_nat (a &&& b)
theorem or_w (a b : UInt32) : bits .or .u32 (a.toNat : Int) (b.toNat : Int) = ((a ||| b).toNat : Int) := by
 show IntKind.u32.wrap ((BitVec.ofInt 32 (a.toNat : Int) ||| BitVec.ofInt 32 (b.toNat : Int)).toNat : Int) = _
 rw [ofInt_toNat, ofInt_toNat]; exact wrap_nat (a ||| b)
theorem shr_w (a : UInt32) (n : Nat) (h : n < 32) : (a.toNat : Int) / 2 ^ n = ((a >>> UInt32.ofNat n).toNat : Int) := by
 have e : (UInt32.ofNat n).toNat % 32 = n := by
  rw [UInt32.toNat_ofNat_of_lt' (by show n < 2^32; omega)]; omega
 rw [UInt32.toNat_shiftRight, e, Nat.shiftRight_eq_div_pow]
 norm_cast
theorem shl_w (a : UInt32) (n : Nat) (h : n < 32) : IntKind.u32.wrap ((a.toNat : Int) * 2 ^ n) = ((a <<< UInt32.ofNat n).toNat : Int) := by
 have e : (UInt32.ofNat n).toNat % 32 = n := by
  rw [UInt32.toNat_ofNat_of_lt' (by show n < 2^32; omega)]; omega
 rw [wrap_u32, UInt32.toNat_shiftLeft, e, Nat.shiftLeft_eq]
 have q : (a.toNat : Int) * 2 ^ n = ((a.toNat * 2 ^ n : Nat) : Int) := by push_cast; rfl
 rw [q]
 generalize a.toNat * 2 ^ n = m
 omega
def rotr (x : UInt32) (d : Nat) : UInt32 := (x <<< UInt32.ofNat (32 - d)) ||| (x >>> UInt32.ofNat d)
end Go.W32
