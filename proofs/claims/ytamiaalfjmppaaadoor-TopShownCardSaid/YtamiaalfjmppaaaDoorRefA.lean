/- The reference's turn, constants and padded (layer 28), for texts below 2^30 bytes. -/
import Derived.Test.YtamiaalfjmppaaaDoorTab
import Derived.Deep.AppendLies
namespace Go.Proofs.YtamiaalfjmppaaaDoor
open Go.RowKit Go.W32 Go.Blk

theorem strByte' (s : ByteArray) (k : Nat) (h : k < s.size) : s[k] = s.data.toList.getD k 0 := by
  rw [List.getD_eq_getElem?_getD, List.getElem?_eq_getElem (by simpa using h)]; rfl
theorem turn_eq (x : UInt32) (d : Nat) (h0 : 0 < d) (hd : d < 32) (c : Nat) (hc : c = 32 - d) : bits BinOp.or IntKind.u32 ((x.toNat : Int) / 2 ^ d) ((x.toNat : Int) * 2 ^ c % 4294967296) = ((rotr x d).toNat : Int) := by
  rw [← wrap_u32, shl_w x c (by omega), shr_w x d hd, or_w, rotr, hc, UInt32.or_comm]

set_option maxHeartbeats 400000 in
theorem turn_any (x : UInt32) (d : Nat) (h0 : 0 < d) (hd : d < 32) (w : World) :
    Calls Tryd.prog 88 #[.int .u32 x.toNat, .int .u64 d] w fun e w' => e = .returned (.int .u32 (rotr x d).toNat) ∧ w = w' := by
  go_enter Tryd.func88, Tryd.ntmps88
  go_wp2
  go_ret
  exact ⟨ret_u32 (turn_eq x d h0 hd _ rfl), rfl⟩


theorem info5 : (Tryd.prog.info? 5).map (fun i => (i.zero, i.size, i.bytes)) = some (some (.int .u8 0), 1, 1) := by kernel_rfl
theorem infoU : (Tryd.prog.info? 86).map (fun i => (i.zero, i.size, i.bytes)) = some (some (.int .u32 0), 1, 4) := by kernel_rfl
def lenOf : Value → Nat | .slice _ n _ => n | _ => 0
def refPadL (t : List UInt8) : List UInt8 := t ++ [128] ++ List.replicate ((119 - t.length % 64) % 64) 0 ++ be8 (t.length * 8)
def RP1 (w : World) (L : List UInt8) (v i : Value) (wr : World) : Prop :=
  ∃ k : Nat, k ≤ L.length ∧ i = .int .i64 k ∧ wr.ownsRow w.heap.size 5 1 v k ((L.take k).map C8) ∧ Below w.heap.size w wr
def RP2 (w : World) (L : List UInt8) (Z : Nat) (v : Value) (wr : World) : Prop :=
  ∃ z g cap : Nat, z ≤ Z ∧ v = .slice (some ⟨g, 0, none⟩) (L.length + 1 + z) cap ∧ wr.ownsRow w.heap.size 5 1 (.slice (some ⟨g, 0, none⟩) (L.length + 1 + z) cap) (L.length + 1 + z) ((L ++ [128] ++ List.replicate z 0).map C8) ∧ Below w.heap.size w wr
def RP3 (w : World) (L : List UInt8) (m : Nat) (v i : Value) (wr : World) : Prop :=
  ∃ k g cap : Nat, k ≤ 8 ∧ i = .int .i64 (7 - (k : Int)) ∧ v = .slice (some ⟨g, 0, none⟩) (L.length + k) cap ∧ wr.ownsRow w.heap.size 5 1 (.slice (some ⟨g, 0, none⟩) (L.length + k) cap) (L.length + k) ((L ++ (be8 m).take k).map C8) ∧ Below w.heap.size w wr
theorem pad_byte (n k : Nat) : (Value.int .u8 ((n : Int) * 8 / 2 ^ (8 * (7 - k)) % 256)) = .int .u8 ((n * 8 / 256 ^ (7 - k) % 256 : Nat) : Int) := by
  have e : (2 : Nat) ^ (8 * (7 - k)) = 256 ^ (7 - k) := by rw [Nat.pow_mul]
  congr 1
  have : (2 : Int) ^ (8 * (7 - k)) = ((256 ^ (7 - k) : Nat) : Int) := by rw [← e, Int.natCast_pow]; rfl
  have h8 : (n : Int) * 8 = ((n * 8 : Nat) : Int) := by omega
  rw [this, h8, ← Int.natCast_ediv]
  omega
theorem be8_next (L : List UInt8) (m k : Nat) (hk : k < 8) : (L ++ (be8 m).take k).map C8 ++ [.int .u8 ((m / 256 ^ (7 - k) % 256 : Nat) : Int)] = (L ++ (be8 m).take (k + 1)).map C8 := by
  rw [List.take_succ_eq_append_getElem (by rw [be8_len]; exact hk)]
  simp only [List.map_append, List.append_assoc, List.map_cons, List.map_nil]
  congr 2
  simp [be8, C8]

set_option maxRecDepth 100000 in
set_option maxHeartbeats 1000000 in
theorem refpad_any (t : ByteArray) (w : World) (ht : t.size ≤ 1000000000) :
    Calls Tryd.prog 78 #[.string t] w fun e w' => ∃ g cap, e = .returned (.slice (some ⟨g, 0, none⟩) (refPadL t.data.toList).length cap) ∧ w'.ownsRow w.heap.size 5 1 (.slice (some ⟨g, 0, none⟩) (refPadL t.data.toList).length cap) (refPadL t.data.toList).length ((refPadL t.data.toList).map C8) ∧ Below w.heap.size w w' := by
  obtain ⟨i0, hi0, hz0, hz1, hz2⟩ := info_parts info5
  have HI := Lib.hid hi0
  have HZ0 := Lib.hid hz0
  have HZ1 := Lib.hid hz1
  have HZ2 := Lib.hid hz2
  clear hi0 hz0 hz1 hz2
  have hlen : t.data.toList.length = t.size := by simp
  obtain ⟨L, hL⟩ : ∃ L, L = t.data.toList := ⟨_, rfl⟩
  rw [← hL] at hlen
  have HLEN := Lib.hid hlen
  have HL := Lib.hid hL
  have hl1 : L.length ≤ t.size := by omega
  have hl2 : t.size ≤ L.length := by omega
  rw [← hL]
  clear hL hlen
  go_enter Tryd.func78, Tryd.ntmps78
  go_wp2_with fail
  go_loopw [3, 4] (fun v i wr => RP1 w L v i wr) (fun _ i _ => L.length - (intOf i).toNat)
  case atStart => exact ⟨0, by omega, rfl, World.ownsRow_nil _ _ _ _, Below.refl _ _⟩
  case round =>
    obtain ⟨k, hk, rfl, hown, hbl⟩ := hrel
    have hlw := hbl.size
    by_cases hlt : k < L.length
    · have hks : k < t.size := by omega
      have hd1 : decide (k < t.size) = true := by simp; omega
      have hby : t[k] = L[k] := by
        rw [strByte' t k hks, ← HL.out, List.getD_eq_getElem?_getD, List.getElem?_eq_getElem hlt]; rfl
      have HBY := Lib.hid hby
      clear hby
      go_wp2_with (at_builtin; refine wpList_append_lies _ rfl _ _ 85 rfl w.heap.size 5 i0 (.int .u8 0) 1 1 Tryd.underlying85 HI.out HZ0.out HZ1.out HZ2.out rfl (by omega) _ k ((L.take k).map C8) rfl (hown.alloc _) ⟨wr.heap.size, 0, none⟩ 1 1 [.int .u8 (t[k].toNat : Int)] rfl rfl ?c1 ?c2 (by omega) ?c3 ?c4 ?c5 (wr.heap.size + 1) (by simp) ?_)
      case c1 => exact cell_one_new _ _ _
      case c2 => simp [Value.oneCell']
      case c3 => unfold maxLen; omega
      case c4 => omega
      case c5 => simp; omega
      intro g cap w3 hown3 hgr3 _ _
      go_wp2
      go_roundw
      case rel =>
        go_light
        have key : RP1 w L (.slice (some ⟨g, 0, none⟩) (k + 1) cap) (.int .i64 (↑k + 1)) w3 := by
          refine ⟨k + 1, by omega, by go_num, ?_, ?_⟩
          · rw [List.take_succ_eq_append_getElem hlt, List.map_append, List.map_take, ← HBY.out]; exact hown3
          · exact (hbl.alloc hlw _).grown hgr3 (by simp; omega) (fun q hq => (hown.lt q hq).1)
        first | exact key | ((repeat apply Exists.intro); exact ⟨key, rfl⟩)
      case measure => simp [intOf]; omega
    · obtain rfl : k = L.length := by omega
      clear hlt hk
      have hd1 : decide (L.length < t.size) = false := by simp; omega
      rw [List.take_length] at hown
      obtain ⟨cs, ecs⟩ : ∃ cs, cs = L.map C8 := ⟨_, rfl⟩
      rw [← ecs] at hown
      have HCS := Lib.hid ecs
      clear ecs
      go_wp2_with (at_builtin; refine wpList_append_lies _ rfl _ _ 85 rfl w.heap.size 5 i0 (.int .u8 0) 1 1 Tryd.underlying85 HI.out HZ0.out HZ1.out HZ2.out rfl (by omega) _ L.length cs rfl (hown.alloc _) ⟨wr.heap.size, 0, none⟩ 1 1 [.int .u8 128] rfl rfl ?c1 ?c2 (by omega) ?c3 ?c4 ?c5 (wr.heap.size + 1) (by simp) ?_)
      case c1 => exact cell_one_new _ _ _
      case c2 => simp [Value.oneCell']
      case c3 => unfold maxLen; omega
      case c4 => omega
      case c5 => simp; omega
      intro g0 cap0 w3 hown3 hgr3 _ _
      have hbl3 : Below w.heap.size w w3 := (hbl.alloc hlw _).grown hgr3 (by simp; omega) (fun q hq => (hown.lt q hq).1)
      have hst : RP2 w L ((119 - L.length % 64) % 64) (.slice (some ⟨g0, 0, none⟩) (L.length + 1) cap0) w3 :=
        ⟨0, g0, cap0, by omega, rfl, by rw [HCS.out] at hown3; simpa [C8] using hown3, hbl3⟩
      clear hown hown3 hgr3 hbl hbl3 hlw
      obtain ⟨Z, hZ⟩ : ∃ Z, Z = (119 - L.length % 64) % 64 := ⟨_, rfl⟩
      rw [← hZ] at hst
      have hZ1 : Z < 64 := by omega
      have HZ := Lib.hid hZ
      clear hZ
      have HST := Lib.hid hst
      clear hst
      go_wp2_with fail
      go_loopw [3] (fun v wr => RP2 w L Z v wr) (fun v _ => L.length + 1 + Z - lenOf v)
      case atStart => exact HST.out
      case round =>
        clear HST
        obtain ⟨z, g, cap, hz, rfl, hown, hbl⟩ := hrel
        have hlw := hbl.size
        by_cases hlt : z < Z
        · have hm : (((L.length : Int) + 1 + z) % 64 != 56) = true := by
            have := HZ.out
            simp; omega
          obtain ⟨cs, ecs⟩ : ∃ cs, cs = (L ++ [128] ++ List.replicate z 0).map C8 := ⟨_, rfl⟩
          rw [← ecs] at hown
          have HCS := Lib.hid ecs
          clear ecs
          go_wp2_with (at_builtin; refine wpList_append_lies _ rfl _ _ 85 rfl w.heap.size 5 i0 (.int .u8 0) 1 1 Tryd.underlying85 HI.out HZ0.out HZ1.out HZ2.out rfl (by omega) _ (L.length + 1 + z) cs rfl (hown.alloc _) ⟨wr.heap.size, 0, none⟩ 1 1 [.int .u8 0] rfl rfl ?c1 ?c2 (by omega) ?c3 ?c4 ?c5 (wr.heap.size + 1) (by simp) ?_)
          case c1 => exact cell_one_new _ _ _
          case c2 => simp [Value.oneCell']
          case c3 => unfold maxLen; omega
          case c4 => omega
          case c5 => simp; omega
          intro g2 cap2 w4 hown4 hgr4 _ _
          go_wp2
          go_roundw
          case rel =>
            go_light
            have key : RP2 w L Z (.slice (some ⟨g2, 0, none⟩) (L.length + 1 + z + 1) cap2) w4 := by
              refine ⟨z + 1, g2, cap2, by omega, rfl, ?_, (hbl.alloc hlw _).grown hgr4 (by simp; omega) (fun q hq => (hown.lt q hq).1)⟩
              rw [HCS.out] at hown4
              rw [List.replicate_succ']
              simpa [C8, Nat.add_assoc] using hown4
            first | exact key | ((repeat apply Exists.intro); exact ⟨key, rfl⟩)
          case measure => simp [lenOf]; omega
        · obtain rfl : z = Z := by omega
          clear hlt hz
          have hm : (((L.length : Int) + 1 + z) % 64 != 56) = false := by
            have := HZ.out
            simp; omega
          go_wp2_with fail
          obtain ⟨L2, hL2⟩ : ∃ L2, L2 = L ++ [128] ++ List.replicate z 0 := ⟨_, rfl⟩
          have hL2l : L2.length = L.length + 1 + z := by rw [hL2]; simp; omega
          rw [← hL2] at hown
          have hst : RP3 w L2 (t.size * 8) (.slice (some ⟨g, 0, none⟩) (L.length + 1 + z) cap) (.int .i64 7) wr := by
            rw [← hL2l] at hown ⊢
            exact ⟨0, g, cap, by omega, rfl, rfl, by simpa using hown, hbl⟩
          have HST := Lib.hid hst
          have HL2 := Lib.hid hL2
          have HL2L := Lib.hid hL2l
          have hl3 : L2.length ≤ 1000000100 := by omega
          clear hst hL2 hL2l hown hbl hlw hm
          obtain ⟨wo, rfl⟩ : ∃ wo : World, wo = wr := ⟨_, rfl⟩
          go_loopw [3, 6] (fun v i wr => RP3 w L2 (t.size * 8) v i wr) (fun _ i _ => (1 + intOf i).toNat)
          case atStart => exact HST.out
          case round =>
            clear HST
            obtain ⟨k, g, cap, hk, rfl, rfl, hown, hbl⟩ := hrel
            have hlw := hbl.size
            by_cases hlt : k < 8
            · have i1 : (0 : Int) ≤ 7 - (k : Int) := by omega
              have i3 : (k : Int) ≤ 7 := by omega
              obtain ⟨cs, ecs⟩ : ∃ cs, cs = (L2 ++ (be8 (t.size * 8)).take k).map C8 := ⟨_, rfl⟩
              rw [← ecs] at hown
              have HCS := Lib.hid ecs
              clear ecs
              go_wp2_with (at_builtin; refine wpList_append_lies _ rfl _ _ 85 rfl w.heap.size 5 i0 (.int .u8 0) 1 1 Tryd.underlying85 HI.out HZ0.out HZ1.out HZ2.out rfl (by omega) _ (L2.length + k) cs rfl (hown.alloc _) ⟨wr.heap.size, 0, none⟩ 1 1 [.int .u8 ((t.size : Int) * 8 / 2 ^ (8 * (7 - k)) % 256)] rfl rfl ?c1 ?c2 (by omega) ?c3 ?c4 ?c5 (wr.heap.size + 1) (by simp) ?_)
              case c1 => exact cell_one_new _ _ _
              case c2 => simp [Value.oneCell']
              case c3 => unfold maxLen; omega
              case c4 => omega
              case c5 => simp; omega
              intro g2 cap2 w4 hown4 hgr4 _ _
              go_wp2
              go_roundw
              case rel =>
                go_light
                have key : RP3 w L2 (t.size * 8) (.slice (some ⟨g2, 0, none⟩) (L2.length + k + 1) cap2) (.int .i64 (7 - (k : Int) - 1)) w4 := by
                  refine ⟨k + 1, g2, cap2, by omega, by congr 1; omega, rfl, ?_, (hbl.alloc hlw _).grown hgr4 (by simp; omega) (fun q hq => (hown.lt q hq).1)⟩
                  rw [HCS.out, pad_byte, be8_next _ _ _ hlt] at hown4
                  exact hown4
                first | exact key | ((repeat apply Exists.intro); exact ⟨key, rfl⟩)
              case measure => simp [intOf]; omega
            · obtain rfl : k = 8 := by omega
              clear hlt hk
              rw [List.take_of_length_le (by rw [be8_len]; omega)] at hown
              have hE : refPadL L = L2 ++ be8 (t.size * 8) := by rw [refPadL, HL2.out, ← HZ.out, HLEN.out]
              have hEl : (refPadL L).length = L2.length + 8 := by rw [hE]; simp [be8_len]
              have HE := Lib.hid hE
              have HEL := Lib.hid hEl
              clear hE hEl
              go_wp2
              go_ret
              refine ⟨g, cap, ?_, ?_, hbl⟩
              · rw [HEL.out]; rfl
              · rw [HEL.out, HE.out]; exact hown
end Go.Proofs.YtamiaalfjmppaaaDoor
