/- Contracts of bits.RotateLeft32 and digest.rotated: the exclusive or of rotations, for distances from 1 to 31. -/
import Derived.Test.YtekfoaenomgjgaaGreatDoorRows
import Derived.Test.YtekfoaenomgjgaaGreatDoorW32
import Derived.WalkKit
import Derived.Lib.Hide
import Derived.WalkSpells
import Derived.WalkLawsBesides
set_option linter.unusedSimpArgs false
set_option linter.unusedVariables false
namespace Go.Proofs.YtekfoaenomgjgaaGreatDoor
open Go.RowKit Go.W32

theorem and31 (d : Nat) (h0 : 0 < d) (h : d < 32) : bits BinOp.and IntKind.u64 (IntKind.u64.wrap (-(d : Int))) 31 = ((32 - d : Nat) : Int) := by
 have key : ∀ d : Nat, d < 32 → 0 < d → bits BinOp.and IntKind.u64 (IntKind.u64.wrap (-(d : Int))) 31 = ((32 - d : Nat) : Int) := by decide +kernel
 exact key d h h0
theorem ret_u32 {a b : Int} (h : a = b) : Ending.returned (.int .u32 a) = .returned (.int .u32 b) := by rw [h]
theorem rot_eq (x : UInt32) (c d : Nat) (h : c = 32 - d) (h0 : 0 < d) (hd : d < 32) : bits BinOp.or IntKind.u32 ((x.toNat : Int) * 2 ^ c % 4294967296) ((x.toNat : Int) / 2 ^ (32 - c)) = ((rotr x d).toNat : Int) := by
 have h2 : 32 - c = d := by omega
 rw [← wrap_u32, shl_w x c (by omega), h2, shr_w x d hd, or_w, rotr, h]
set_option maxHeartbeats 400000 in
theorem rotl_any (x : UInt32) (d : Nat) (h0 : 0 < d) (hd : d < 32) (w : World) :
  Calls Tryz.prog 152 #[.int .u32 x.toNat, .int .i64 (-(d : Int))] w fun e w' => e = .returned (.int .u32 (rotr x d).toNat) ∧ w = w' := by
 have h1 := and31 d h0 hd
 obtain ⟨c, hc⟩ : ∃ c : Nat, c = 32 - d := ⟨_, rfl⟩
 rw [← hc] at h1
 have hc1 : c < 32 := by omega
 have hc2 : 0 < c := by omega
 have H := Lib.hid hc
 clear hc
 go_enter Tryz.func152, Tryz.ntmps152
 go_wp2
 go_ret
 exact ⟨ret_u32 (rot_eq x c d H.out h0 hd), rfl⟩

def rots (x : UInt32) (l : List Nat) : UInt32 := l.foldl (fun r d => r ^^^ rotr x d) 0
theorem rots_snoc (x : UInt32) (l : List Nat) (k : Nat) (h : k < l.length) : rots x (l.take (k+1)) = rots x (l.take k) ^^^ rotr x l[k] := by
 rw [List.take_succ_eq_append_getElem h, rots, List.foldl_append]; rfl
theorem xor_w' (a b : UInt32) : Value.int .u32 (bits .xor .u32 (a.toNat : Int) (b.toNat : Int)) = Value.int .u32 ((a ^^^ b).toNat : Int) := by rw [xor_w]
set_option maxHeartbeats 400000 in
theorem rotated_any (x : UInt32) (b : Nat) (l : List Nat) (w : World) (hl : l.length ≤ 100) (hd : ∀ d ∈ l, 0 < d ∧ d < 32)
  (hc : ∀ k (h : k < l.length), w.cell? ⟨b, k, none⟩ = some (.int .i64 (l[k] : Int))) :
  Calls Tryz.prog 112 #[.int .u32 x.toNat, .slice (some ⟨b, 0, none⟩) l.length l.length] w fun e w' => e = .returned (.int .u32 (rots x l).toNat) ∧ w = w' := by
 have HC := Lib.hid hc
 clear hc
 go_enter Tryz.func112, Tryz.ntmps112
 go_wp2
 go_loop [5, 7, 10] (fun r _ i => ∃ k : Nat, k ≤ l.length ∧ i = .int .i64 k ∧ r = .int .u32 (rots x (l.take k)).toNat) (fun _ _ i => l.length - (intOf i).toNat)
 case atStart => exact ⟨0, Nat.zero_le _, rfl, rfl⟩
 case round =>
  obtain ⟨k, hk, rfl, rfl⟩ := hrel
  by_cases hlt : k < l.length
  ·have hcell := HC.out k hlt
   have hdk := hd l[k] (List.getElem_mem _)
   have HS := Lib.hid (rots_snoc x l k hlt)
   go_wp2_with (go_at_call 152; refine (rotl_any x _ hdk.1 hdk.2 _).mono ?_; rintro e w' ⟨rfl, rfl⟩)
   go_round
   case rel => exact ⟨k + 1, by omega, by go_num, by rw [HS.out, ← xor_w']⟩
   case measure => simp [intOf]; omega
  ·go_wp2
   go_ret
   exact ⟨by rw [List.take_of_length_le (by omega)]; rfl, rfl⟩

end Go.Proofs.YtekfoaenomgjgaaGreatDoor
