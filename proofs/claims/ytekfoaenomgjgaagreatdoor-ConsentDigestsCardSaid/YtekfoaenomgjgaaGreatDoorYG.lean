/- The reference's constants (layer 28). No condition. The reference's turn, constants and padded (layer 28), for texts below 2^30 bytes. The reference's block (layer 28): one block of SHA-256, for a block of 64 bytes. The reference's words (layer 28): the eight words of a text's digest. The plain law of the digest's two paddings (layer 28): the reference's blocks are the digest's. No program. The reference's Sum (layer 28). -/
import Derived.Test.YtekfoaenomgjgaaGreatDoorYC
import Derived.Deep.AppendLies
namespace Go.Proofs.YtekfoaenomgjgaaGreatDoor
open Go.RowKit Go.W32 Go.Blk

set_option maxRecDepth 100000 in
set_option maxHeartbeats 1000000 in
theorem constants_any (w : World) : Calls Tryz.prog 118 #[] w fun e w' => e = .returned (.slice (some ⟨w.heap.size, 0, none⟩) 64 64) ∧ Blk w' w.heap.size (KC.map W) 149 ∧ Below w.heap.size w w' := by
  go_enter Tryz.func118, Tryz.ntmps118
  go_wp2
  go_ret
  exact ⟨rfl, Blk.newA _ _ _, (Below.refl _ _).alloc (Nat.le_refl _) _⟩
end Go.Proofs.YtekfoaenomgjgaaGreatDoor

namespace Go.Proofs.YtekfoaenomgjgaaGreatDoor
open Go.RowKit Go.W32 Go.Blk

theorem strByte' (s : ByteArray) (k : Nat) (h : k < s.size) : s[k] = s.data.toList.getD k 0 := by
  rw [List.getD_eq_getElem?_getD, List.getElem?_eq_getElem (by simpa using h)]; rfl
theorem turn_eq (x : UInt32) (d : Nat) (h0 : 0 < d) (hd : d < 32) (c : Nat) (hc : c = 32 - d) : bits BinOp.or IntKind.u32 ((x.toNat : Int) / 2 ^ d) ((x.toNat : Int) * 2 ^ c % 4294967296) = ((rotr x d).toNat : Int) := by
  rw [← wrap_u32, shl_w x c (by omega), shr_w x d hd, or_w, rotr, hc, UInt32.or_comm]

set_option maxHeartbeats 400000 in
theorem turn_any (x : UInt32) (d : Nat) (h0 : 0 < d) (hd : d < 32) (w : World) :
    Calls Tryz.prog 160 #[.int .u32 x.toNat, .int .u64 d] w fun e w' => e = .returned (.int .u32 (rotr x d).toNat) ∧ w = w' := by
  go_enter Tryz.func160, Tryz.ntmps160
  go_wp2
  go_ret
  exact ⟨ret_u32 (turn_eq x d h0 hd _ rfl), rfl⟩


theorem info5 : (Tryz.prog.info? 5).map (fun i => (i.zero, i.size, i.bytes)) = some (some (.int .u8 0), 1, 1) := by kernel_rfl
theorem infoU : (Tryz.prog.info? 149).map (fun i => (i.zero, i.size, i.bytes)) = some (some (.int .u32 0), 1, 4) := by kernel_rfl
def lenOf : Value → Nat | .slice _ n _ => n | _ => 0
def refPadL (t : List UInt8) : List UInt8 := t ++ [128] ++ List.replicate ((119 - t.length % 64) % 64) 0 ++ be8 (t.length * 8)
def RP1 (w : World) (L : List UInt8) (v i : Value) (wr : World) : Prop :=
  ∃ k : Nat, k ≤ L.length ∧ i = .int .i64 k ∧ wr.ownsRow w.heap.size 5 1 v k ((L.take k).map C8) ∧ Below w.heap.size w wr
def RP2 (w : World) (L : List UInt8) (Z : Nat) (v : Value) (wr : World) : Prop :=
  ∃ z g cap : Nat, z ≤ Z ∧ v = .slice (some ⟨g, 0, none⟩) (L.length + 1 + z) cap ∧ wr.ownsRow w.heap.size 5 1 (.slice (some ⟨g, 0, none⟩) (L.length + 1 + z) cap) (L.length + 1 + z) ((L ++ [128] ++ List.replicate z 0).map C8) ∧ Below w.heap.size w wr
def RP3 (w : World) (L : List UInt8) (m : Nat) (v i : Value) (wr : World) : Prop :=
  ∃ k g cap : Nat, k ≤ 8 ∧ i = .int .i64 (7 - (k : Int)) ∧ v = .slice (some ⟨g, 0, none⟩) (L.length + k) cap ∧ wr.ownsRow w.heap.size 5 1 (.slice (some ⟨g, 0, none⟩) (L.length + k) cap) (L.length + k) ((L ++ (be8 m).take k).map C8) ∧ Below w.heap.size w wr
theorem pad_byte (n k : Nat) : (Value.int .u8 ((n : Int) * 8 / 2 ^ (8 * (7 - k)) % 256)) = .int .u8 ((n * 8 / 256 ^ (7 - k) % 256 : Nat) : Int) := by
  have e : (2 : Nat) ^ (8 * (7 - k)) = 256 ^ (7 - k) := by rw [Nat.pow_mul]
  congr 1
  have : (2 : Int) ^ (8 * (7 - k)) = ((256 ^ (7 - k) : Nat) : Int) := by rw [← e, Int.natCast_pow]; rfl
  have h8 : (n : Int) * 8 = ((n * 8 : Nat) : Int) := by omega
  rw [this, h8, ← Int.natCast_ediv]
  omega
theorem be8_next (L : List UInt8) (m k : Nat) (hk : k < 8) : (L ++ (be8 m).take k).map C8 ++ [.int .u8 ((m / 256 ^ (7 - k) % 256 : Nat) : Int)] = (L ++ (be8 m).take (k + 1)).map C8 := by
  rw [List.take_succ_eq_append_getElem (by rw [be8_len]; exact hk)]
  simp only [List.map_append, List.append_assoc, List.map_cons, List.map_nil]
  congr 2
  simp [be8, C8]

set_option maxRecDepth 100000 in
set_option maxHeartbeats 1000000 in
theorem refpad_any (t : ByteArray) (w : World) (ht : t.size ≤ 1000000000) :
    Calls Tryz.prog 117 #[.string t] w fun e w' => ∃ g cap, e = .returned (.slice (some ⟨g, 0, none⟩) (refPadL t.data.toList).length cap) ∧ w'.ownsRow w.heap.size 5 1 (.slice (some ⟨g, 0, none⟩) (refPadL t.data.toList).length cap) (refPadL t.data.toList).length ((refPadL t.data.toList).map C8) ∧ Below w.heap.size w w' := by
  obtain ⟨i0, hi0, hz0, hz1, hz2⟩ := info_parts info5
  have HI := Lib.hid hi0
  have HZ0 := Lib.hid hz0
  have HZ1 := Lib.hid hz1
  have HZ2 := Lib.hid hz2
  clear hi0 hz0 hz1 hz2
  have hlen : t.data.toList.length = t.size := by simp
  obtain ⟨L, hL⟩ : ∃ L, L = t.data.toList := ⟨_, rfl⟩
  rw [← hL] at hlen
  have HLEN := Lib.hid hlen
  have HL := Lib.hid hL
  have hl1 : L.length ≤ t.size := by omega
  have hl2 : t.size ≤ L.length := by omega
  rw [← hL]
  clear hL hlen
  go_enter Tryz.func117, Tryz.ntmps117
  go_wp2_with fail
  go_loopw [3, 4] (fun v i wr => RP1 w L v i wr) (fun _ i _ => L.length - (intOf i).toNat)
  case atStart => exact ⟨0, by omega, rfl, World.ownsRow_nil _ _ _ _, Below.refl _ _⟩
  case round =>
    obtain ⟨k, hk, rfl, hown, hbl⟩ := hrel
    have hlw := hbl.size
    by_cases hlt : k < L.length
    · have hks : k < t.size := by omega
      have hd1 : decide (k < t.size) = true := by simp; omega
      have hby : t[k] = L[k] := by
        rw [strByte' t k hks, ← HL.out, List.getD_eq_getElem?_getD, List.getElem?_eq_getElem hlt]; rfl
      have HBY := Lib.hid hby
      clear hby
      go_wp2_with (at_builtin; refine wpList_append_lies _ rfl _ _ 153 rfl w.heap.size 5 i0 (.int .u8 0) 1 1 Tryz.underlying153 HI.out HZ0.out HZ1.out HZ2.out rfl (by omega) _ k ((L.take k).map C8) rfl (hown.alloc _) ⟨wr.heap.size, 0, none⟩ 1 1 [.int .u8 (t[k].toNat : Int)] rfl rfl ?c1 ?c2 (by omega) ?c3 ?c4 ?c5 (wr.heap.size + 1) (by simp) ?_)
      case c1 => exact cell_one_new _ _ _
      case c2 => simp [Value.oneCell']
      case c3 => unfold maxLen; omega
      case c4 => omega
      case c5 => simp; omega
      intro g cap w3 hown3 hgr3 _ _
      go_wp2
      go_roundw
      case rel =>
        go_light
        have key : RP1 w L (.slice (some ⟨g, 0, none⟩) (k + 1) cap) (.int .i64 (↑k + 1)) w3 := by
          refine ⟨k + 1, by omega, by go_num, ?_, ?_⟩
          · rw [List.take_succ_eq_append_getElem hlt, List.map_append, List.map_take, ← HBY.out]; exact hown3
          · exact (hbl.alloc hlw _).grown hgr3 (by simp; omega) (fun q hq => (hown.lt q hq).1)
        first | exact key | ((repeat apply Exists.intro); exact ⟨key, rfl⟩)
      case measure => simp [intOf]; omega
    · obtain rfl : k = L.length := by omega
      clear hlt hk
      have hd1 : decide (L.length < t.size) = false := by simp; omega
      rw [List.take_length] at hown
      obtain ⟨cs, ecs⟩ : ∃ cs, cs = L.map C8 := ⟨_, rfl⟩
      rw [← ecs] at hown
      have HCS := Lib.hid ecs
      clear ecs
      go_wp2_with (at_builtin; refine wpList_append_lies _ rfl _ _ 153 rfl w.heap.size 5 i0 (.int .u8 0) 1 1 Tryz.underlying153 HI.out HZ0.out HZ1.out HZ2.out rfl (by omega) _ L.length cs rfl (hown.alloc _) ⟨wr.heap.size, 0, none⟩ 1 1 [.int .u8 128] rfl rfl ?c1 ?c2 (by omega) ?c3 ?c4 ?c5 (wr.heap.size + 1) (by simp) ?_)
      case c1 => exact cell_one_new _ _ _
      case c2 => simp [Value.oneCell']
      case c3 => unfold maxLen; omega
      case c4 => omega
      case c5 => simp; omega
      intro g0 cap0 w3 hown3 hgr3 _ _
      have hbl3 : Below w.heap.size w w3 := (hbl.alloc hlw _).grown hgr3 (by simp; omega) (fun q hq => (hown.lt q hq).1)
      have hst : RP2 w L ((119 - L.length % 64) % 64) (.slice (some ⟨g0, 0, none⟩) (L.length + 1) cap0) w3 :=
        ⟨0, g0, cap0, by omega, rfl, by rw [HCS.out] at hown3; simpa [C8] using hown3, hbl3⟩
      clear hown hown3 hgr3 hbl hbl3 hlw
      obtain ⟨Z, hZ⟩ : ∃ Z, Z = (119 - L.length % 64) % 64 := ⟨_, rfl⟩
      rw [← hZ] at hst
      have hZ1 : Z < 64 := by omega
      have HZ := Lib.hid hZ
      clear hZ
      have HST := Lib.hid hst
      clear hst
      go_wp2_with fail
      go_loopw [3] (fun v wr => RP2 w L Z v wr) (fun v _ => L.length + 1 + Z - lenOf v)
      case atStart => exact HST.out
      case round =>
        clear HST
        obtain ⟨z, g, cap, hz, rfl, hown, hbl⟩ := hrel
        have hlw := hbl.size
        by_cases hlt : z < Z
        · have hm : (((L.length : Int) + 1 + z) % 64 != 56) = true := by
            have := HZ.out
            simp; omega
          obtain ⟨cs, ecs⟩ : ∃ cs, cs = (L ++ [128] ++ List.replicate z 0).map C8 := ⟨_, rfl⟩
          rw [← ecs] at hown
          have HCS := Lib.hid ecs
          clear ecs
          go_wp2_with (at_builtin; refine wpList_append_lies _ rfl _ _ 153 rfl w.heap.size 5 i0 (.int .u8 0) 1 1 Tryz.underlying153 HI.out HZ0.out HZ1.out HZ2.out rfl (by omega) _ (L.length + 1 + z) cs rfl (hown.alloc _) ⟨wr.heap.size, 0, none⟩ 1 1 [.int .u8 0] rfl rfl ?c1 ?c2 (by omega) ?c3 ?c4 ?c5 (wr.heap.size + 1) (by simp) ?_)
          case c1 => exact cell_one_new _ _ _
          case c2 => simp [Value.oneCell']
          case c3 => unfold maxLen; omega
          case c4 => omega
          case c5 => simp; omega
          intro g2 cap2 w4 hown4 hgr4 _ _
          go_wp2
          go_roundw
          case rel =>
            go_light
            have key : RP2 w L Z (.slice (some ⟨g2, 0, none⟩) (L.length + 1 + z + 1) cap2) w4 := by
              refine ⟨z + 1, g2, cap2, by omega, rfl, ?_, (hbl.alloc hlw _).grown hgr4 (by simp; omega) (fun q hq => (hown.lt q hq).1)⟩
              rw [HCS.out] at hown4
              rw [List.replicate_succ']
              simpa [C8, Nat.add_assoc] using hown4
            first | exact key | ((repeat apply Exists.intro); exact ⟨key, rfl⟩)
          case measure => simp [lenOf]; omega
        · obtain rfl : z = Z := by omega
          clear hlt hz
          have hm : (((L.length : Int) + 1 + z) % 64 != 56) = false := by
            have := HZ.out
            simp; omega
          go_wp2_with fail
          obtain ⟨L2, hL2⟩ : ∃ L2, L2 = L ++ [128] ++ List.replicate z 0 := ⟨_, rfl⟩
          have hL2l : L2.length = L.length + 1 + z := by rw [hL2]; simp; omega
          rw [← hL2] at hown
          have hst : RP3 w L2 (t.size * 8) (.slice (some ⟨g, 0, none⟩) (L.length + 1 + z) cap) (.int .i64 7) wr := by
            rw [← hL2l] at hown ⊢
            exact ⟨0, g, cap, by omega, rfl, rfl, by simpa using hown, hbl⟩
          have HST := Lib.hid hst
          have HL2 := Lib.hid hL2
          have HL2L := Lib.hid hL2l
          have hl3 : L2.length ≤ 1000000100 := by omega
          clear hst hL2 hL2l hown hbl hlw hm
          obtain ⟨wo, rfl⟩ : ∃ wo : World, wo = wr := ⟨_, rfl⟩
          go_loopw [3, 6] (fun v i wr => RP3 w L2 (t.size * 8) v i wr) (fun _ i _ => (1 + intOf i).toNat)
          case atStart => exact HST.out
          case round =>
            clear HST
            obtain ⟨k, g, cap, hk, rfl, rfl, hown, hbl⟩ := hrel
            have hlw := hbl.size
            by_cases hlt : k < 8
            · have i1 : (0 : Int) ≤ 7 - (k : Int) := by omega
              have i3 : (k : Int) ≤ 7 := by omega
              obtain ⟨cs, ecs⟩ : ∃ cs, cs = (L2 ++ (be8 (t.size * 8)).take k).map C8 := ⟨_, rfl⟩
              rw [← ecs] at hown
              have HCS := Lib.hid ecs
              clear ecs
              go_wp2_with (at_builtin; refine wpList_append_lies _ rfl _ _ 153 rfl w.heap.size 5 i0 (.int .u8 0) 1 1 Tryz.underlying153 HI.out HZ0.out HZ1.out HZ2.out rfl (by omega) _ (L2.length + k) cs rfl (hown.alloc _) ⟨wr.heap.size, 0, none⟩ 1 1 [.int .u8 ((t.size : Int) * 8 / 2 ^ (8 * (7 - k)) % 256)] rfl rfl ?c1 ?c2 (by omega) ?c3 ?c4 ?c5 (wr.heap.size + 1) (by simp) ?_)
              case c1 => exact cell_one_new _ _ _
              case c2 => simp [Value.oneCell']
              case c3 => unfold maxLen; omega
              case c4 => omega
              case c5 => simp; omega
              intro g2 cap2 w4 hown4 hgr4 _ _
              go_wp2
              go_roundw
              case rel =>
                go_light
                have key : RP3 w L2 (t.size * 8) (.slice (some ⟨g2, 0, none⟩) (L2.length + k + 1) cap2) (.int .i64 (7 - (k : Int) - 1)) w4 := by
                  refine ⟨k + 1, g2, cap2, by omega, by congr 1; omega, rfl, ?_, (hbl.alloc hlw _).grown hgr4 (by simp; omega) (fun q hq => (hown.lt q hq).1)⟩
                  rw [HCS.out, pad_byte, be8_next _ _ _ hlt] at hown4
                  exact hown4
                first | exact key | ((repeat apply Exists.intro); exact ⟨key, rfl⟩)
              case measure => simp [intOf]; omega
            · obtain rfl : k = 8 := by omega
              clear hlt hk
              rw [List.take_of_length_le (by rw [be8_len]; omega)] at hown
              have hE : refPadL L = L2 ++ be8 (t.size * 8) := by rw [refPadL, HL2.out, ← HZ.out, HLEN.out]
              have hEl : (refPadL L).length = L2.length + 8 := by rw [hE]; simp [be8_len]
              have HE := Lib.hid hE
              have HEL := Lib.hid hEl
              clear hE hEl
              go_wp2
              go_ret
              refine ⟨g, cap, ?_, ?_, hbl⟩
              · rw [HEL.out]; rfl
              · rw [HEL.out, HE.out]; exact hown
end Go.Proofs.YtekfoaenomgjgaaGreatDoor

namespace Go.Proofs.YtekfoaenomgjgaaGreatDoor
open Go.RowKit Go.W32 Go.Blk

/-- The first cells of block b are cs. -/
def RowAt (w : World) (b : Nat) (cs : List Value) (T : TypeId) : Prop := ∃ rest, Blk w b (cs ++ rest) T
theorem RowAt.cell {w : World} {b : Nat} {cs : List Value} {T : TypeId} (h : RowAt w b cs T) (i : Nat) (v : Value) (hi : cs[i]? = some v) : w.cell? ⟨b, i, none⟩ = some v := by
  obtain ⟨r, h⟩ := h
  exact h.cellD i v (by rw [List.getElem?_append_left (List.getElem?_eq_some_iff.1 hi).1]; exact hi)
theorem RowAt.lt {w : World} {b : Nat} {cs : List Value} {T : TypeId} (h : RowAt w b cs T) : b < w.heap.size := by obtain ⟨r, h⟩ := h; exact h.lt
theorem RowAt.below {w w' : World} {b B : Nat} {cs : List Value} {T : TypeId} (h : RowAt w b cs T) (hb : Below B w w') (hB : b < B) : RowAt w' b cs T := by
  obtain ⟨r, h⟩ := h; exact ⟨r, h.below hb hB⟩
theorem RowAt.of_own {w : World} {base n cap g : Nat} {T : TypeId} {xs : List Value} (h : w.ownsRow base T 1 (.slice (some ⟨g, 0, none⟩) n cap) n xs) : RowAt w g xs T := by
  obtain ⟨_, h | ⟨g', cap', cur, e, _, hh, _, _, _, ht⟩⟩ := h
  · cases h.1
  · cases e
    refine ⟨cur.toList.drop (n * 1), ?_⟩
    unfold Blk
    rw [← ht, List.take_append_drop]
    simpa using hh
theorem own_grow {w w' : World} {base n size : Nat} {T : TypeId} {v : Value} {xs : List Value} (h : w.ownsRow base T size v n xs) (g : Below w.heap.size w w') : w'.ownsRow base T size v n xs :=
  h.kept (row := none) ⟨g.os, g.tape, g.output, g.size, fun k hk _ => g.block k hk⟩ (by by_cases e : v.ownBlock = none <;> simp [e])

theorem news_blk {w : World} {b : Nat} {cs : List Value} {T : TypeId} (h : Blk w b cs T) : ∀ j u, cs[j]? = some u → w.cell? ((⟨b, 0, none⟩ : Addr).add j) = some u := fun j u hj => by
  rw [addr_add, Nat.zero_add]; exact h.cellD j u hj
theorem news_row {w : World} {b : Nat} {cs : List Value} {T : TypeId} (h : RowAt w b cs T) : ∀ j u, cs[j]? = some u → w.cell? ((⟨b, 0, none⟩ : Addr).add j) = some u := fun j u hj => by
  rw [addr_add, Nat.zero_add]; exact h.cell j u hj
def RB1 (w : World) (s : ByteArray) (v i : Value) (wr : World) : Prop :=
  ∃ k : Nat, k ≤ 16 ∧ i = .int .i64 k ∧ wr.ownsRow w.heap.size 149 1 v k (((first16 s).take k).map W) ∧ Below w.heap.size w wr

def RB2 (w : World) (s : ByteArray) (v i : Value) (wr : World) : Prop :=
  ∃ k g cap : Nat, 16 ≤ k ∧ k ≤ 64 ∧ i = .int .i64 k ∧ v = .slice (some ⟨g, 0, none⟩) k cap ∧ wr.ownsRow w.heap.size 149 1 (.slice (some ⟨g, 0, none⟩) k cap) k ((extW (k - 16) (first16 s)).map W) ∧ Below w.heap.size w wr
theorem own_form {w : World} {base n : Nat} {T : TypeId} {v : Value} {xs : List Value} (h : w.ownsRow base T 1 v n xs) (hn : 0 < n) : ∃ g cap, v = .slice (some ⟨g, 0, none⟩) n cap := by
  obtain ⟨_, h | ⟨g, cap, cur, e, _⟩⟩ := h
  · omega
  · exact ⟨g, cap, e⟩
theorem turns2 (x : UInt32) (a b : Nat) : bits .xor .u32 ((rotr x a).toNat : Int) ((rotr x b).toNat : Int) = ((rots x [a, b]).toNat : Int) := by
  rw [xor_w]; congr 2; simp [rots]
theorem turns3 (x : UInt32) (a b c : Nat) : bits .xor .u32 (bits .xor .u32 ((rotr x a).toNat : Int) ((rotr x b).toNat : Int)) ((rotr x c).toNat : Int) = ((rots x [a, b, c]).toNat : Int) := by
  rw [xor_w, xor_w]; congr 2; simp [rots]
theorem next_val2 (x16 x15 x7 x2 : UInt32) : IntKind.u32.wrap (IntKind.u32.wrap (IntKind.u32.wrap (↑x16.toNat + bits BinOp.xor IntKind.u32 (bits BinOp.xor IntKind.u32 ↑(rotr x15 7).toNat ↑(rotr x15 18).toNat) (↑x15.toNat / 8)) + ↑x7.toNat) + bits BinOp.xor IntKind.u32 (bits BinOp.xor IntKind.u32 ↑(rotr x2 17).toNat ↑(rotr x2 19).toNat) (↑x2.toNat / 1024)) = ((x16 + sg0 x15 + x7 + sg1 x2).toNat : Int) := by
  rw [turns2, turns2, shr_c x15 8 3 (by decide) rfl, shr_c x2 1024 10 (by decide) rfl, xor_w, xor_w, add_w, add_w, add_w]
  rfl
theorem RowAt.grown {w w' : World} {b : Nat} {row : Option Nat} {cs : List Value} {T : TypeId} (h : RowAt w b cs T) (hg : w.grownBy w' row) (hne : some b ≠ row) : RowAt w' b cs T := by
  obtain ⟨r, h⟩ := h
  refine ⟨r, ?_⟩
  have := h.lt
  unfold Blk at *
  rw [hg.block b this hne]; exact h
theorem p_val2 (y : S8) (kt wt : UInt32) : IntKind.u32.wrap (IntKind.u32.wrap (IntKind.u32.wrap (IntKind.u32.wrap (↑y.h.toNat + bits BinOp.xor IntKind.u32 (bits BinOp.xor IntKind.u32 ↑(rotr y.e 6).toNat ↑(rotr y.e 11).toNat) ↑(rotr y.e 25).toNat) + bits BinOp.xor IntKind.u32 (bits BinOp.and IntKind.u32 ↑y.e.toNat ↑y.f.toNat) (bits BinOp.and IntKind.u32 (bits BinOp.xor IntKind.u32 IntKind.u32.max ↑y.e.toNat) ↑y.g.toNat)) + ↑kt.toNat) + ↑wt.toNat) = ((tP y kt wt).toNat : Int) := by
  rw [turns3, ch_val, add_w, add_w, add_w, add_w]; rfl
theorem q_val2 (y : S8) : IntKind.u32.wrap (bits BinOp.xor IntKind.u32 (bits BinOp.xor IntKind.u32 ↑(rotr y.a 2).toNat ↑(rotr y.a 13).toNat) ↑(rotr y.a 22).toNat + bits BinOp.xor IntKind.u32 (bits BinOp.xor IntKind.u32 (bits BinOp.and IntKind.u32 ↑y.a.toNat ↑y.b.toNat) (bits BinOp.and IntKind.u32 ↑y.a.toNat ↑y.c.toNat)) (bits BinOp.and IntKind.u32 ↑y.b.toNat ↑y.c.toNat)) = ((tQ y).toNat : Int) := by
  rw [turns3, maj_val, add_w]; rfl
def RB3 (w : World) (WS : List UInt32) (x : S8) (g hb kb : Nat) (v i : Value) (wr : World) : Prop :=
  ∃ k gv cv : Nat, k ≤ 64 ∧ i = .int .i64 k ∧ v = .slice (some ⟨gv, 0, none⟩) 8 cv ∧ RowAt wr gv (rounds KC WS x k).cells 149 ∧ w.heap.size ≤ gv ∧ RowAt wr g (WS.map W) 149 ∧ RowAt wr hb x.cells 149 ∧ RowAt wr kb (KC.map W) 149 ∧ Below w.heap.size w wr
theorem RowAt.set {w : World} {b : Nat} {cs : List Value} {T : TypeId} (h : RowAt w b cs T) (i : Nat) (v : Value) (hi : i < cs.length) : RowAt (w.setCell ⟨b, i, none⟩ v) b (cs.set i v) T := by
  obtain ⟨r, h⟩ := h
  exact ⟨r, by have := h.set i v; rwa [List.set_append_left _ _ hi] at this⟩
theorem RowAt.set_ne {w : World} {b : Nat} {cs : List Value} {T : TypeId} (h : RowAt w b cs T) {a : Addr} (ha : a.block ≠ b) (v : Value) : RowAt (w.setCell a v) b cs T := by
  obtain ⟨r, h⟩ := h
  exact ⟨r, h.set_ne ha v⟩
def mixL (x z : S8) (k : Nat) : List UInt32 := (x.add z).list.take k ++ z.list.drop k
theorem mixL_len (x z : S8) (k : Nat) (hk : k ≤ 8) : (mixL x z k).length = 8 := by simp [mixL, S8.list]; omega
theorem mixL_at (x z : S8) (k : Nat) (hk : k < 8) : (mixL x z k)[k]? = some (z.list.getD k 0) := by
  match k, hk with
  | 0, _ => rfl
  | 1, _ => rfl
  | 2, _ => rfl
  | 3, _ => rfl
  | 4, _ => rfl
  | 5, _ => rfl
  | 6, _ => rfl
  | 7, _ => rfl
theorem mixL_set (x z : S8) (k : Nat) (hk : k < 8) : (mixL x z k).set k (x.list.getD k 0 + z.list.getD k 0) = mixL x z (k + 1) := by
  match k, hk with
  | 0, _ => rfl
  | 1, _ => rfl
  | 2, _ => rfl
  | 3, _ => rfl
  | 4, _ => rfl
  | 5, _ => rfl
  | 6, _ => rfl
  | 7, _ => rfl
def RB4 (w : World) (x z : S8) (gv hb : Nat) (i : Value) (wr : World) : Prop :=
  ∃ k : Nat, k ≤ 8 ∧ i = .int .i64 k ∧ RowAt wr gv ((mixL x z k).map W) 149 ∧ RowAt wr hb x.cells 149 ∧ Below w.heap.size w wr
attribute [local go_sem] evs evn psz
set_option maxRecDepth 100000 in
set_option maxHeartbeats 4000000 in
theorem block_any (x : S8) (s : ByteArray) (w : World) (hb hc bb off bc kb kc : Nat) (hs : s.size = 64) (hH : RowAt w hb x.cells 149) (hS : ∀ j, j < 64 → w.cell? ⟨bb, off + j, none⟩ = some (.int .u8 (s.data.getD j 0).toNat)) (hKB : RowAt w kb (KC.map W) 149) :
    Calls Tryz.prog 119 #[.slice (some ⟨hb, 0, none⟩) 8 hc, .slice (some ⟨bb, off, none⟩) 64 bc, .slice (some ⟨kb, 0, none⟩) 64 kc] w fun e w' => ∃ g cap, e = .returned (.slice (some ⟨g, 0, none⟩) 8 cap) ∧ RowAt w' g (mixS KC x s).cells 149 ∧ w.heap.size ≤ g ∧ Below w.heap.size w w' := by
  obtain ⟨i0, hi0, hz0, hz1, hz2⟩ := info_parts infoU
  have HI := Lib.hid hi0
  have HZ0 := Lib.hid hz0
  have HZ1 := Lib.hid hz1
  have HZ2 := Lib.hid hz2
  have HS := Lib.hid hs
  have HSS := Lib.hid hS
  clear hi0 hz0 hz1 hz2 hs hS
  go_enter Tryz.func119, Tryz.ntmps119
  go_wp2_with fail
  go_loopw [7, 8] (fun v i wr => RB1 w s v i wr) (fun _ i _ => 16 - (intOf i).toNat)
  case atStart => exact ⟨0, by omega, rfl, World.ownsRow_nil _ _ _ _, Below.refl _ _⟩
  case round =>
    obtain ⟨k, hk, rfl, hown, hbl⟩ := hrel
    have hlw := hbl.size
    by_cases hlt : k < 16
    · have hcc : ∀ j, j < 64 → wr.cell? ⟨bb, off + j, none⟩ = some (.int .u8 (s.data.getD j 0).toNat) := fun j hj => by
        have h := HSS.out j hj
        rw [hbl.cell (p := ⟨bb, off + j, none⟩) (World.block_lt_of_cell? w _ h)]; exact h
      have c0 := hcc (4 * k) (by omega)
      have c1 := hcc (4 * k + 1) (by omega)
      have c2 := hcc (4 * k + 2) (by omega)
      have c3 := hcc (4 * k + 3) (by omega)
      obtain ⟨y0, e0⟩ : ∃ y, y = s.data.getD (4 * k) 0 := ⟨_, rfl⟩
      obtain ⟨y1, e1⟩ : ∃ y, y = s.data.getD (4 * k + 1) 0 := ⟨_, rfl⟩
      obtain ⟨y2, e2⟩ : ∃ y, y = s.data.getD (4 * k + 2) 0 := ⟨_, rfl⟩
      obtain ⟨y3, e3⟩ : ∃ y, y = s.data.getD (4 * k + 3) 0 := ⟨_, rfl⟩
      rw [← e0] at c0
      rw [← e1] at c1
      rw [← e2] at c2
      rw [← e3] at c3
      have hbe : be s k = be4 y0 y1 y2 y3 := by rw [e0, e1, e2, e3]; rfl
      have HBE := Lib.hid hbe
      clear hcc hbe e0 e1 e2 e3
      go_wp2_with fail
      have i0' : (0 : Int) ≤ (k : Int) := by omega
      have b0 : 4 * (k : Int) < 64 := by omega
      have b1 : 4 * (k : Int) + 1 < 64 := by omega
      have b2 : 4 * (k : Int) + 2 < 64 := by omega
      have b3 : 4 * (k : Int) + 3 < 64 := by omega
      have p0 : (0 : Int) ≤ 4 * (k : Int) := by omega
      have p1 : (0 : Int) ≤ 4 * (k : Int) + 1 := by omega
      have p2 : (0 : Int) ≤ 4 * (k : Int) + 2 := by omega
      have p3 : (0 : Int) ≤ 4 * (k : Int) + 3 := by omega
      have t0 : (4 * (k : Int)).toNat = 4 * k := by omega
      have t1 : (4 * (k : Int) + 1).toNat = 4 * k + 1 := by omega
      have t2 : (4 * (k : Int) + 2).toNat = 4 * k + 2 := by omega
      have t3 : (4 * (k : Int) + 3).toNat = 4 * k + 3 := by omega
      have w0 : IntKind.i64.wrap (4 * (k : Int)) = 4 * (k : Int) := IntWalk.i64_in _ (by omega)
      have w1 : IntKind.i64.wrap (4 * (k : Int) + 1) = 4 * (k : Int) + 1 := IntWalk.i64_in _ (by omega)
      have w2 : IntKind.i64.wrap (4 * (k : Int) + 2) = 4 * (k : Int) + 2 := IntWalk.i64_in _ (by omega)
      have w3 : IntKind.i64.wrap (4 * (k : Int) + 3) = 4 * (k : Int) + 3 := IntWalk.i64_in _ (by omega)
      generalize ha : Act.mk _ _ = a
      have sz : a.tmps.size = 225 := by rw [← ha]; rfl
      have s1 : a.tmps[1]'(by omega) = .slice (some ⟨bb, off, none⟩) 64 bc := by subst ha; rfl
      have s7 : a.tmps[7]'(by omega) = u7 := by subst ha; rfl
      have s8 : a.tmps[8]'(by omega) = .int .i64 k := by subst ha; rfl
      have HA := Lib.hid ha
      clear ha
      refine Free.wp_region_free 35 [(34, .ind (fun x => .slice (some ⟨x, 0, none⟩) 1 1) (fun x w2 => Blk w2 x [.int .u32 (be4 y0 y1 y2 y3).toNat] 149))] (fun w2 => w2.cell? ⟨bb, off + 4 * k, none⟩ = some (.int .u8 y0.toNat) ∧ w2.cell? ⟨bb, off + (4 * k + 1), none⟩ = some (.int .u8 y1.toNat) ∧ w2.cell? ⟨bb, off + (4 * k + 2), none⟩ = some (.int .u8 y2.toNat) ∧ w2.cell? ⟨bb, off + (4 * k + 3), none⟩ = some (.int .u8 y3.toNat)) (by kernel_rfl) (by kernel_rfl) ?_ ⟨c0, c1, c2, c3⟩ (fun _ _ h g => ⟨cell_grow h.1 g, cell_grow h.2.1 g, cell_grow h.2.2.1 g, cell_grow h.2.2.2 g⟩) ?_
      · intro j mk r hf
        simp only [Free.find] at hf
        repeat' split at hf
        all_goals (first | cases hf | skip)
        all_goals exact fun x w w' h g => h.below g h.lt
      · simp only [List.take_succ_cons, List.take_zero]
        clear c0 c1 c2 c3
        iterate 34 (apply Free.chain_still rfl rfl; (intro w' ⟨q0, q1, q2, q3⟩ hA; clear hA; go_light; go_simp <;> rfl))
        apply Free.chain_ind rfl rfl
        · intro w' _ hA
          refine Free.opRun_of (by go_simp <;> rfl) ⟨Free.Grow.alloc _ _, w'.heap.size, rfl, ?_⟩
          rw [be_eq]
          exact Blk.newA _ _ _
        intro x1
        apply Free.chain_nil
        intro w4 _ hg hh
        have hx1 : Blk w4 x1 [.int .u32 (be4 y0 y1 y2 y3).toNat] 149 := hh _ List.mem_cons_self
        have hg' := grow_drew hg
        have hown4 := own_grow hown hg'
        have hbl4 : Below w.heap.size w w4 := hbl.trans (hg'.mono hlw)
        have hlw4 := hbl4.size
        clear hg hg' hh s1 s7 s8 sz w0 w1 w2 w3 t0 t1 t2 t3 p0 p1 p2 p3 b0 b1 b2 b3
        obtain ⟨cs, ecs⟩ : ∃ cs, cs = ((first16 s).take k).map W := ⟨_, rfl⟩
        rw [← ecs] at hown4
        have HCS := Lib.hid ecs
        clear ecs hown hbl hlw
        simp only [List.drop_succ_cons, List.drop_zero]
        obtain rfl := HA.out
        simp only [Act.put, List.setIfInBounds_toArray, List.set_cons_succ, List.set_cons_zero]
        go_wp2_with (at_builtin; refine wpList_append_lies _ rfl _ _ 158 rfl w.heap.size 149 i0 (.int .u32 0) 1 4 Tryz.underlying158 HI.out HZ0.out HZ1.out HZ2.out rfl (by omega) _ k cs rfl hown4 ⟨x1, 0, none⟩ 1 1 [.int .u32 (be4 y0 y1 y2 y3).toNat] rfl rfl ?c1 ?c2 (by omega) ?c3 ?c4 hlw4 _ rfl ?_)
        case c1 => exact fun j u h => hx1.cellD j u h
        case c2 => simp [Value.oneCell']
        case c3 => unfold maxLen; omega
        case c4 => omega
        intro g5 cap5 w5 hown5 hgr5 _ _
        go_wp2
        go_roundw
        case rel =>
          go_light
          have key : RB1 w s (.slice (some ⟨g5, 0, none⟩) (k + 1) cap5) (.int .i64 (↑k + 1)) w5 := by
            refine ⟨k + 1, by omega, by go_num, ?_, hbl4.grown hgr5 hlw4 (fun q hq => (hown4.lt q hq).1)⟩
            have e : ((first16 s).take (k + 1)).map W = cs ++ [.int .u32 (be4 y0 y1 y2 y3).toNat] := by
              rw [List.take_succ_eq_append_getElem (by rw [first16_len]; exact hlt), List.map_append, ← HCS.out]
              simp [first16, W, HBE.out]
            rw [e]; exact hown5
          first | exact key | ((repeat apply Exists.intro); exact ⟨key, rfl⟩)
        case measure => simp [intOf]; omega
    · obtain rfl : k = 16 := by omega
      clear hlt hk
      rw [List.take_of_length_le (by rw [first16_len]; omega)] at hown
      obtain ⟨g16, cap16, hv16⟩ := own_form hown (by omega)
      have hst : RB2 w s u7 (.int .i64 16) wr := ⟨16, g16, cap16, by omega, by omega, rfl, hv16, by rw [hv16] at hown; exact hown, hbl⟩
      have HST := Lib.hid hst
      clear hst hv16 hown hbl hlw
      go_wp2_with fail
      go_loopw [7, 9] (fun v i wr => RB2 w s v i wr) (fun _ i _ => 64 - (intOf i).toNat)
      case atStart => exact HST.out
      case round =>
        clear HST
        obtain ⟨k, g, cap, hk1, hk2, rfl, rfl, hown, hbl⟩ := hrel
        have hlw := hbl.size
        by_cases hlt : k < 64
        · have hlen : (extW (k - 16) (first16 s)).length = k := by rw [extW_len, first16_len]; omega
          obtain ⟨l, hl⟩ : ∃ l, l = extW (k - 16) (first16 s) := ⟨_, rfl⟩
          rw [← hl] at hlen hown
          have hrow := RowAt.of_own hown
          have hat : ∀ i, i < k → wr.cell? ⟨g, i, none⟩ = some (.int .u32 (l.getD i 0).toNat) := fun i hi => hrow.cell i _ (by rw [List.getElem?_map, List.getD_eq_getElem?_getD, List.getElem?_eq_getElem (by omega)]; rfl)
          have HLL := Lib.hid hlen
          have HE := Lib.hid hl
          clear hl hlen
          have c15 := hat (k - 15) (by omega)
          have c16 := hat (k - 16) (by omega)
          have c7 := hat (k - 7) (by omega)
          have c2 := hat (k - 2) (by omega)
          obtain ⟨x15, e15⟩ : ∃ x, x = l.getD (k - 15) 0 := ⟨_, rfl⟩
          obtain ⟨x16, e16⟩ : ∃ x, x = l.getD (k - 16) 0 := ⟨_, rfl⟩
          obtain ⟨x7, e7⟩ : ∃ x, x = l.getD (k - 7) 0 := ⟨_, rfl⟩
          obtain ⟨x2, e2⟩ : ∃ x, x = l.getD (k - 2) 0 := ⟨_, rfl⟩
          rw [← e15] at c15
          rw [← e16] at c16
          rw [← e7] at c7
          rw [← e2] at c2
          have E15 := Lib.hid e15
          have E16 := Lib.hid e16
          have E7 := Lib.hid e7
          have E2 := Lib.hid e2
          obtain ⟨nx, enx⟩ : ∃ nx, nx = x16 + sg0 x15 + x7 + sg1 x2 := ⟨_, rfl⟩
          have ENX := Lib.hid enx
          clear e15 e16 e7 e2 hat hrow enx
          have i0' : (0 : Int) ≤ (k : Int) := by omega
          have i1' : (k : Int) < 64 := by omega
          go_wp2_with fail
          have b1 : (16 : Int) ≤ (k : Int) := by omega
          have b2 : (k : Int) - 16 < (k : Int) := by omega
          have b4 : (7 : Int) ≤ (k : Int) := by omega
          have b5 : (k : Int) - 7 < (k : Int) := by omega
          have t3 : ((k : Int) - 16).toNat = k - 16 := by omega
          have t6 : ((k : Int) - 7).toNat = k - 7 := by omega
          have t7 : IntKind.i64.wrap ((k : Int) - 16) = (k : Int) - 16 := IntWalk.i64_in _ (by omega)
          have t8 : IntKind.i64.wrap ((k : Int) - 7) = (k : Int) - 7 := IntWalk.i64_in _ (by omega)
          generalize ha : Act.mk _ _ = a
          have sz : a.tmps.size = 225 := by rw [← ha]; rfl
          have s7 : a.tmps[7]'(by omega) = .slice (some ⟨g, 0, none⟩) k cap := by subst ha; rfl
          have s9 : a.tmps[9]'(by omega) = .int .i64 k := by subst ha; rfl
          have s10 : a.tmps[10]'(by omega) = .int .u32 x15.toNat := by subst ha; rfl
          have s11 : a.tmps[11]'(by omega) = .int .u32 x2.toNat := by subst ha; rfl
          have HA := Lib.hid ha
          clear ha
          refine Free.wp_region_free 31 [(7, .det (.int .u32 (rotr x15 7).toNat)), (9, .det (.int .u32 (rotr x15 18).toNat)), (22, .det (.int .u32 (rotr x2 17).toNat)), (24, .det (.int .u32 (rotr x2 19).toNat)), (30, .ind (fun x => .slice (some ⟨x, 0, none⟩) 1 1) (fun x w2 => Blk w2 x [.int .u32 nx.toNat] 149))] (fun w2 => w2.cell? ⟨g, k - 16, none⟩ = some (.int .u32 x16.toNat) ∧ w2.cell? ⟨g, k - 7, none⟩ = some (.int .u32 x7.toNat)) (by kernel_rfl) (by kernel_rfl) ?_ ⟨c16, c7⟩ (fun _ _ h g => ⟨cell_grow h.1 g, cell_grow h.2 g⟩) ?_
          · intro j mk r hf
            simp only [Free.find] at hf
            repeat' split at hf
            all_goals (first | cases hf | skip)
            all_goals exact fun x w w' h g => h.below g h.lt
          · simp only [List.take_succ_cons, List.take_zero]
            clear c16 c7
            iterate 7 (apply Free.chain_still rfl rfl; (intro w' ⟨q0, q1⟩ hA; clear hA; go_light; go_simp <;> rfl))
            apply Free.chain_det rfl rfl
            · intro w' _ _
              refine Free.opRun_call (by go_simp) ((turn_any x15 7 (by decide) (by decide) _).mono ?_)
              rintro e w2 ⟨rfl, rfl⟩
              exact ⟨_, rfl, Free.Grow.refl _, rfl⟩
            apply Free.chain_still rfl rfl
            · intro w' ⟨q0, q1⟩ hA; clear hA; go_light; go_simp <;> rfl
            apply Free.chain_det rfl rfl
            · intro w' _ _
              refine Free.opRun_call (by go_simp) ((turn_any x15 18 (by decide) (by decide) _).mono ?_)
              rintro e w2 ⟨rfl, rfl⟩
              exact ⟨_, rfl, Free.Grow.refl _, rfl⟩
            iterate 12 (apply Free.chain_still rfl rfl; (intro w' ⟨q0, q1⟩ hA; clear hA; go_light; go_simp <;> rfl))
            apply Free.chain_det rfl rfl
            · intro w' _ _
              refine Free.opRun_call (by go_simp) ((turn_any x2 17 (by decide) (by decide) _).mono ?_)
              rintro e w2 ⟨rfl, rfl⟩
              exact ⟨_, rfl, Free.Grow.refl _, rfl⟩
            apply Free.chain_still rfl rfl
            · intro w' ⟨q0, q1⟩ hA; clear hA; go_light; go_simp <;> rfl
            apply Free.chain_det rfl rfl
            · intro w' _ _
              refine Free.opRun_call (by go_simp) ((turn_any x2 19 (by decide) (by decide) _).mono ?_)
              rintro e w2 ⟨rfl, rfl⟩
              exact ⟨_, rfl, Free.Grow.refl _, rfl⟩
            iterate 5 (apply Free.chain_still rfl rfl; (intro w' ⟨q0, q1⟩ hA; clear hA; go_light; go_simp <;> rfl))
            apply Free.chain_ind rfl rfl
            · intro w' _ hA
              refine Free.opRun_of (by go_simp <;> rfl) ⟨Free.Grow.alloc _ _, w'.heap.size, rfl, ?_⟩
              rw [next_val2, ← ENX.out]
              exact Blk.newA _ _ _
            intro x1
            apply Free.chain_nil
            intro w4 _ hg hh
            have hx1 : Blk w4 x1 [.int .u32 nx.toNat] 149 := hh _ List.mem_cons_self
            have hg' := grow_drew hg
            have hown4 := own_grow hown hg'
            have hbl4 : Below w.heap.size w w4 := hbl.trans (hg'.mono hlw)
            have hlw4 := hbl4.size
            clear hg hg' hh s7 s9 s10 s11 sz t3 t6 t7 t8
            obtain ⟨cs, ecs⟩ : ∃ cs, cs = l.map W := ⟨_, rfl⟩
            rw [← ecs] at hown4
            have HCS := Lib.hid ecs
            clear ecs hown hbl hlw
            simp only [List.drop_succ_cons, List.drop_zero]
            obtain rfl := HA.out
            simp only [Act.put, List.setIfInBounds_toArray, List.set_cons_succ, List.set_cons_zero]
            go_wp2_with (at_builtin; refine wpList_append_lies _ rfl _ _ 158 rfl w.heap.size 149 i0 (.int .u32 0) 1 4 Tryz.underlying158 HI.out HZ0.out HZ1.out HZ2.out rfl (by omega) _ k cs rfl hown4 ⟨x1, 0, none⟩ 1 1 [.int .u32 nx.toNat] rfl rfl ?c1 ?c2 (by omega) ?c3 ?c4 hlw4 _ rfl ?_)
            case c1 => exact fun j u h => hx1.cellD j u h
            case c2 => simp [Value.oneCell']
            case c3 => unfold maxLen; omega
            case c4 => omega
            intro g5 cap5 w5 hown5 hgr5 _ _
            go_wp2
            go_roundw
            case rel =>
              go_light
              have key : RB2 w s (.slice (some ⟨g5, 0, none⟩) (k + 1) cap5) (.int .i64 (↑k + 1)) w5 := by
                refine ⟨k + 1, g5, cap5, by omega, by omega, by go_num, rfl, ?_, hbl4.grown hgr5 hlw4 (fun q hq => (hown4.lt q hq).1)⟩
                have e : (extW (k + 1 - 16) (first16 s)).map W = cs ++ [.int .u32 nx.toNat] := by
                  rw [show k + 1 - 16 = (k - 16) + 1 by omega, extW, List.map_append, ← HE.out, ← HCS.out, nextW, HLL.out, ← E16.out, ← E15.out, ← E7.out, ← E2.out, ← ENX.out]; rfl
                rw [e]; exact hown5
              first | exact key | ((repeat apply Exists.intro); exact ⟨key, rfl⟩)
            case measure => simp [intOf]; omega
        · obtain rfl : k = 64 := by omega
          clear hlt hk1 hk2
          obtain ⟨WS, hWS⟩ : ∃ WS, WS = extW 48 (first16 s) := ⟨_, rfl⟩
          have hown' : wr.ownsRow w.heap.size 149 1 (.slice (some ⟨g, 0, none⟩) 64 cap) 64 (WS.map W) := by rw [hWS]; exact hown
          have hrow := RowAt.of_own hown'
          have hgb := (hown'.lt g rfl).1
          have hlen : WS.length = 64 := by rw [hWS, extW_len, first16_len]
          have HWS := Lib.hid hWS
          have HWL := Lib.hid hlen
          clear hown hown' hWS hlen
          have hHr : RowAt wr hb x.cells 149 := hH.below hbl hH.lt
          have hKr : RowAt wr kb (KC.map W) 149 := hKB.below hbl hKB.lt
          have hlw := hbl.size
          have hown0 : (wr.alloc (.cells #[] 149)).ownsRow w.heap.size 149 1 (.slice (some ⟨wr.heap.size, 0, none⟩) 0 0) 0 [] := World.ownsRow_made wr _ 0 hlw (by unfold maxLen; omega) (by simp)
          have hHa : RowAt (wr.alloc (.cells #[] 149)) hb x.cells 149 := by obtain ⟨r, h⟩ := hHr; exact ⟨r, h.alloc _⟩
          go_wp2_with (at_builtin; refine wpList_append_lies _ rfl _ _ 158 rfl w.heap.size 149 i0 (.int .u32 0) 1 4 Tryz.underlying158 HI.out HZ0.out HZ1.out HZ2.out rfl (by omega) _ 0 [] rfl hown0 ⟨hb, 0, none⟩ 8 hc x.cells rfl rfl ?c1 ?c2 (by omega) ?c3 ?c4 ?c5 _ rfl ?_)
          case c1 => first | exact news_row hHa | exact fun j u h => hHa.cell j u h
          case c2 => simp [Value.oneCell', S8.cells, W]
          case c3 => unfold maxLen; omega
          case c4 => omega
          case c5 => simp; omega
          intro g8 cap8 w8 hown8 hgr8 hat8 _
          have hg8 : w.heap.size ≤ g8 := (hown8.lt g8 rfl).1
          have hst : RB3 w WS x g hb kb (.slice (some ⟨g8, 0, none⟩) 8 cap8) (.int .i64 0) w8 := by
            refine ⟨0, g8, cap8, by omega, rfl, rfl, RowAt.of_own hown8, hg8, ?_, ?_, ?_, (hbl.alloc hlw _).grown hgr8 (by simp; omega) (fun q hq => (hown0.lt q hq).1)⟩
            · exact RowAt.grown (by obtain ⟨r, h⟩ := hrow; exact ⟨r, h.alloc _⟩) hgr8 (by have := hrow.lt; simp [Value.ownBlock]; omega)
            · exact RowAt.grown hHa hgr8 (by have := hHr.lt; simp [Value.ownBlock]; omega)
            · exact RowAt.grown (by obtain ⟨r, h⟩ := hKr; exact ⟨r, h.alloc _⟩) hgr8 (by have := hKr.lt; simp [Value.ownBlock]; omega)
          have HST := Lib.hid hst
          clear hst hown8 hgr8 hat8 hHa hown0 hrow hHr hKr hbl hlw
          go_wp2_with fail
          go_loopw [12, 13] (fun v i wr => RB3 w WS x g hb kb v i wr) (fun _ i _ => 64 - (intOf i).toNat)
          case atStart => exact HST.out
          case round =>
            clear HST
            obtain ⟨k, gv, cv, hk, rfl, rfl, hV, hgv, hrow, hHr, hKr, hbl⟩ := hrel
            have hlw := hbl.size
            by_cases hlt : k < 64
            · obtain ⟨y, hy⟩ : ∃ y, y = rounds KC WS x k := ⟨_, rfl⟩
              rw [← hy] at hV
              have HY := Lib.hid hy
              clear hy
              obtain ⟨kt, ekt⟩ : ∃ z, z = KC.getD k 0 := ⟨_, rfl⟩
              obtain ⟨wt, ewt⟩ : ∃ z, z = WS.getD k 0 := ⟨_, rfl⟩
              have cK : wr.cell? ⟨kb, k, none⟩ = some (.int .u32 kt.toNat) := hKr.cell k _ (by rw [ekt, List.getElem?_map, List.getD_eq_getElem?_getD, List.getElem?_eq_getElem (by simpa [KC] using hlt)]; rfl)
              have cW : wr.cell? ⟨g, k, none⟩ = some (.int .u32 wt.toNat) := hrow.cell k _ (by rw [ewt, List.getElem?_map, List.getD_eq_getElem?_getD, List.getElem?_eq_getElem (by rw [HWL.out]; exact hlt)]; rfl)
              obtain ⟨pp, epp⟩ : ∃ pp, pp = tP y kt wt := ⟨_, rfl⟩
              obtain ⟨qq, eqq⟩ : ∃ qq, qq = tQ y := ⟨_, rfl⟩
              have EK := Lib.hid ekt
              have EW := Lib.hid ewt
              have EP := Lib.hid epp
              have EQ := Lib.hid eqq
              clear ekt ewt epp eqq
              have c0 := hV.cell 0 (.int .u32 y.a.toNat) rfl
              have c4 := hV.cell 4 (.int .u32 y.e.toNat) rfl
              have c5 := hV.cell 5 (.int .u32 y.f.toNat) rfl
              have c6 := hV.cell 6 (.int .u32 y.g.toNat) rfl
              have c7 := hV.cell 7 (.int .u32 y.h.toNat) rfl
              have i0' : (0 : Int) ≤ (k : Int) := by omega
              have i1' : (k : Int) < 64 := by omega
              go_wp2_with fail
              generalize ha : Act.mk _ _ = a
              have sz : a.tmps.size = 225 := by rw [← ha]; rfl
              have s2 : a.tmps[2]'(by omega) = .slice (some ⟨kb, 0, none⟩) 64 kc := by subst ha; rfl
              have s7 : a.tmps[7]'(by omega) = .slice (some ⟨g, 0, none⟩) 64 cap := by subst ha; rfl
              have s12 : a.tmps[12]'(by omega) = .slice (some ⟨gv, 0, none⟩) 8 cv := by subst ha; rfl
              have s13 : a.tmps[13]'(by omega) = .int .i64 k := by subst ha; rfl
              have s15 : a.tmps[15]'(by omega) = .int .u32 y.e.toNat := by subst ha; rfl
              have HA := Lib.hid ha
              clear ha
              refine Free.wp_region_free 36 [(4, .det (.int .u32 (rotr y.e 6).toNat)), (6, .det (.int .u32 (rotr y.e 11).toNat)), (9, .det (.int .u32 (rotr y.e 25).toNat))] (fun w2 => w2.cell? ⟨gv, 7, none⟩ = some (.int .u32 y.h.toNat) ∧ w2.cell? ⟨gv, 5, none⟩ = some (.int .u32 y.f.toNat) ∧ w2.cell? ⟨gv, 6, none⟩ = some (.int .u32 y.g.toNat) ∧ w2.cell? ⟨kb, k, none⟩ = some (.int .u32 kt.toNat) ∧ w2.cell? ⟨g, k, none⟩ = some (.int .u32 wt.toNat)) (by kernel_rfl) (by kernel_rfl) ?_ ⟨c7, c5, c6, cK, cW⟩ (fun _ _ h g => ⟨cell_grow h.1 g, cell_grow h.2.1 g, cell_grow h.2.2.1 g, cell_grow h.2.2.2.1 g, cell_grow h.2.2.2.2 g⟩) ?_
              · intro j mk r hf
                simp only [Free.find] at hf
                repeat' split at hf
                all_goals (first | cases hf | skip)
              · simp only [List.take_succ_cons, List.take_zero]
                clear c0 c4 c5 c6 c7 cK cW
                iterate 4 (apply Free.chain_still rfl rfl; (intro w' ⟨q0, q1, q2, q3, q4⟩ hA; clear hA; go_light; go_simp <;> rfl))
                apply Free.chain_det rfl rfl
                · intro w' _ _
                  refine Free.opRun_call (by go_simp) ((turn_any y.e 6 (by decide) (by decide) _).mono ?_)
                  rintro e w2 ⟨rfl, rfl⟩
                  exact ⟨_, rfl, Free.Grow.refl _, rfl⟩
                iterate 1 (apply Free.chain_still rfl rfl; (intro w' ⟨q0, q1, q2, q3, q4⟩ hA; clear hA; go_light; go_simp <;> rfl))
                apply Free.chain_det rfl rfl
                · intro w' _ _
                  refine Free.opRun_call (by go_simp) ((turn_any y.e 11 (by decide) (by decide) _).mono ?_)
                  rintro e w2 ⟨rfl, rfl⟩
                  exact ⟨_, rfl, Free.Grow.refl _, rfl⟩
                iterate 2 (apply Free.chain_still rfl rfl; (intro w' ⟨q0, q1, q2, q3, q4⟩ hA; clear hA; go_light; go_simp <;> rfl))
                apply Free.chain_det rfl rfl
                · intro w' _ _
                  refine Free.opRun_call (by go_simp) ((turn_any y.e 25 (by decide) (by decide) _).mono ?_)
                  rintro e w2 ⟨rfl, rfl⟩
                  exact ⟨_, rfl, Free.Grow.refl _, rfl⟩
                iterate 24 (apply Free.chain_still rfl rfl; (intro w' ⟨q0, q1, q2, q3, q4⟩ hA; clear hA; go_light; go_simp <;> rfl))
                apply Free.chain_still (v := .int .u32 pp.toNat) rfl rfl
                · intro w' ⟨q0, q1, q2, q3, q4⟩ hA
                  clear hA
                  go_light
                  go_simp
                  exact (p_val2 y kt wt).trans (by rw [EP.out])
                iterate 1 (apply Free.chain_still rfl rfl; (intro w' ⟨q0, q1, q2, q3, q4⟩ hA; clear hA; go_light; go_simp <;> rfl))
                apply Free.chain_nil
                intro w4 _ hg _
                have hg' := grow_drew hg
                have hV4 := hV.below hg' hV.lt
                have hrow4 := hrow.below hg' hrow.lt
                have hH4 := hHr.below hg' hHr.lt
                have hK4 := hKr.below hg' hKr.lt
                have hbl4 : Below w.heap.size w w4 := hbl.trans (hg'.mono hlw)
                have hlw4 := hbl4.size
                clear hg hg' sz s2 s7 s12 s13 s15 hV hrow hHr hKr hbl hlw
                simp only [List.drop_succ_cons, List.drop_zero]
                obtain rfl := HA.out
                simp only [Act.put, List.setIfInBounds_toArray, List.set_cons_succ, List.set_cons_zero]
                go_wp2_with fail
                have c1 := hV4.cell 1 (.int .u32 y.b.toNat) rfl
                have c2 := hV4.cell 2 (.int .u32 y.c.toNat) rfl
                generalize ha : Act.mk _ _ = a
                have sz : a.tmps.size = 225 := by rw [← ha]; rfl
                have s12 : a.tmps[12]'(by omega) = .slice (some ⟨gv, 0, none⟩) 8 cv := by subst ha; rfl
                have s14 : a.tmps[14]'(by omega) = .int .u32 y.a.toNat := by subst ha; rfl
                have HA := Lib.hid ha
                clear ha
                refine Free.wp_region_free 29 [(1, .det (.int .u32 (rotr y.a 2).toNat)), (3, .det (.int .u32 (rotr y.a 13).toNat)), (6, .det (.int .u32 (rotr y.a 22).toNat))] (fun w2 => w2.cell? ⟨gv, 1, none⟩ = some (.int .u32 y.b.toNat) ∧ w2.cell? ⟨gv, 2, none⟩ = some (.int .u32 y.c.toNat)) (by kernel_rfl) (by kernel_rfl) ?_ ⟨c1, c2⟩ (fun _ _ h g => ⟨cell_grow h.1 g, cell_grow h.2 g⟩) ?_
                · intro j mk r hf
                  simp only [Free.find] at hf
                  repeat' split at hf
                  all_goals (first | cases hf | skip)
                · simp only [List.take_succ_cons, List.take_zero]
                  clear c1 c2
                  iterate 1 (apply Free.chain_still rfl rfl; (intro w' ⟨q0, q1⟩ hA; clear hA; go_light; go_simp <;> rfl))
                  apply Free.chain_det rfl rfl
                  · intro w' _ _
                    refine Free.opRun_call (by go_simp) ((turn_any y.a 2 (by decide) (by decide) _).mono ?_)
                    rintro e w2 ⟨rfl, rfl⟩
                    exact ⟨_, rfl, Free.Grow.refl _, rfl⟩
                  iterate 1 (apply Free.chain_still rfl rfl; (intro w' ⟨q0, q1⟩ hA; clear hA; go_light; go_simp <;> rfl))
                  apply Free.chain_det rfl rfl
                  · intro w' _ _
                    refine Free.opRun_call (by go_simp) ((turn_any y.a 13 (by decide) (by decide) _).mono ?_)
                    rintro e w2 ⟨rfl, rfl⟩
                    exact ⟨_, rfl, Free.Grow.refl _, rfl⟩
                  iterate 2 (apply Free.chain_still rfl rfl; (intro w' ⟨q0, q1⟩ hA; clear hA; go_light; go_simp <;> rfl))
                  apply Free.chain_det rfl rfl
                  · intro w' _ _
                    refine Free.opRun_call (by go_simp) ((turn_any y.a 22 (by decide) (by decide) _).mono ?_)
                    rintro e w2 ⟨rfl, rfl⟩
                    exact ⟨_, rfl, Free.Grow.refl _, rfl⟩
                  iterate 20 (apply Free.chain_still rfl rfl; (intro w' ⟨q0, q1⟩ hA; clear hA; go_light; go_simp <;> rfl))
                  apply Free.chain_still (v := .int .u32 qq.toNat) rfl rfl
                  · intro w' ⟨q0, q1⟩ hA
                    clear hA
                    go_light
                    go_simp
                    exact (q_val2 y).trans (by rw [EQ.out])
                  iterate 1 (apply Free.chain_still rfl rfl; (intro w' ⟨q0, q1⟩ hA; clear hA; go_light; go_simp <;> rfl))
                  apply Free.chain_nil
                  intro w5 _ hg _
                  have hg' := grow_drew hg
                  have hV5 := hV4.below hg' hV4.lt
                  have hrow5 := hrow4.below hg' hrow4.lt
                  have hH5 := hH4.below hg' hH4.lt
                  have hK5 := hK4.below hg' hK4.lt
                  have hbl5 : Below w.heap.size w w5 := hbl4.trans (hg'.mono hlw4)
                  have hlw5 := hbl5.size
                  clear hg hg' sz s12 s14 hV4 hrow4 hH4 hK4 hbl4 hlw4
                  simp only [List.drop_succ_cons, List.drop_zero]
                  obtain rfl := HA.out
                  simp only [Act.put, List.setIfInBounds_toArray, List.set_cons_succ, List.set_cons_zero]
                  go_wp2_with fail
                  have c0 := hV5.cell 0 (.int .u32 y.a.toNat) rfl
                  have c1 := hV5.cell 1 (.int .u32 y.b.toNat) rfl
                  have c2 := hV5.cell 2 (.int .u32 y.c.toNat) rfl
                  have c3 := hV5.cell 3 (.int .u32 y.d.toNat) rfl
                  have c4 := hV5.cell 4 (.int .u32 y.e.toNat) rfl
                  have c5 := hV5.cell 5 (.int .u32 y.f.toNat) rfl
                  have c6 := hV5.cell 6 (.int .u32 y.g.toNat) rfl
                  generalize ha : Act.mk _ _ = a
                  have sz : a.tmps.size = 225 := by rw [← ha]; rfl
                  have s12 : a.tmps[12]'(by omega) = .slice (some ⟨gv, 0, none⟩) 8 cv := by subst ha; rfl
                  have s16 : a.tmps[16]'(by omega) = .int .u32 pp.toNat := by subst ha; rfl
                  have s17 : a.tmps[17]'(by omega) = .int .u32 qq.toNat := by subst ha; rfl
                  have HA := Lib.hid ha
                  clear ha
                  refine Free.wp_region_free 28 [(26, .ind (fun x => .slice (some ⟨x, 0, none⟩) 8 8) (fun x w2 => Blk w2 x (S8.mk (pp + qq) y.a y.b y.c (y.d + pp) y.e y.f y.g).cells 149 ∧ w.heap.size ≤ x))] (fun w2 => w.heap.size ≤ w2.heap.size ∧ w2.cell? ⟨gv, 0, none⟩ = some (.int .u32 y.a.toNat) ∧ w2.cell? ⟨gv, 1, none⟩ = some (.int .u32 y.b.toNat) ∧ w2.cell? ⟨gv, 2, none⟩ = some (.int .u32 y.c.toNat) ∧ w2.cell? ⟨gv, 3, none⟩ = some (.int .u32 y.d.toNat) ∧ w2.cell? ⟨gv, 4, none⟩ = some (.int .u32 y.e.toNat) ∧ w2.cell? ⟨gv, 5, none⟩ = some (.int .u32 y.f.toNat) ∧ w2.cell? ⟨gv, 6, none⟩ = some (.int .u32 y.g.toNat)) (by kernel_rfl) (by kernel_rfl) ?_ ⟨hlw5, c0, c1, c2, c3, c4, c5, c6⟩ (fun _ _ h g => ⟨Nat.le_trans h.1 g.size, cell_grow h.2.1 g, cell_grow h.2.2.1 g, cell_grow h.2.2.2.1 g, cell_grow h.2.2.2.2.1 g, cell_grow h.2.2.2.2.2.1 g, cell_grow h.2.2.2.2.2.2.1 g, cell_grow h.2.2.2.2.2.2.2 g⟩) ?_
                  · intro j mk r hf
                    simp only [Free.find] at hf
                    repeat' split at hf
                    all_goals (first | cases hf | skip)
                    all_goals exact fun x w w' h g => ⟨h.1.below g h.1.lt, h.2⟩
                  · simp only [List.take_succ_cons, List.take_zero]
                    clear c0 c1 c2 c3 c4 c5 c6
                    iterate 26 (apply Free.chain_still rfl rfl; (intro w' ⟨_, q0, q1, q2, q3, q4, q5, q6⟩ hA; clear hA; go_light; go_simp <;> rfl))
                    apply Free.chain_ind rfl rfl
                    · intro w' hB _
                      refine Free.opRun_of (by go_simp <;> rfl) ⟨Free.Grow.alloc _ _, w'.heap.size, rfl, ?_, hB.1⟩
                      rw [add_w, add_w]
                      exact Blk.newA _ _ _
                    intro x1
                    iterate 1 (apply Free.chain_still rfl rfl; (intro w' ⟨_, q0, q1, q2, q3, q4, q5, q6⟩ hA; clear hA; go_light; go_simp <;> rfl))
                    apply Free.chain_nil
                    intro w6 _ hg hh
                    have hx1 : Blk w6 x1 (S8.mk (pp + qq) y.a y.b y.c (y.d + pp) y.e y.f y.g).cells 149 := (hh _ List.mem_cons_self).1
                    have hnew : w.heap.size ≤ x1 := (hh _ List.mem_cons_self).2
                    have hg' := grow_drew hg
                    have hrow6 := hrow5.below hg' hrow5.lt
                    have hH6 := hH5.below hg' hH5.lt
                    have hK6 := hK5.below hg' hK5.lt
                    have hbl6 : Below w.heap.size w w6 := hbl5.trans (hg'.mono hlw5)
                    clear hg hg' hh sz s12 s16 s17 hV5 hrow5 hH5 hK5 hbl5 hlw5
                    simp only [List.drop_succ_cons, List.drop_zero]
                    obtain rfl := HA.out
                    simp only [Act.put, List.setIfInBounds_toArray, List.set_cons_succ, List.set_cons_zero]
                    go_wp2
                    go_roundw
                    case rel =>
                      go_light
                      have key : RB3 w WS x g hb kb (.slice (some ⟨x1, 0, none⟩) 8 8) (.int .i64 (↑k + 1)) w6 := by
                        refine ⟨k + 1, x1, 8, by omega, by go_num, rfl, ⟨[], ?_⟩, hnew, hrow6, hH6, hK6, hbl6⟩
                        rw [List.append_nil, rounds, ← HY.out, ← EK.out, ← EW.out, round, ← EP.out, ← EQ.out]
                        exact hx1
                      first | exact key | ((repeat apply Exists.intro); exact ⟨key, rfl⟩)
                    case measure => simp [intOf]; omega
            · obtain rfl : k = 64 := by omega
              clear hlt hk
              have hgh : gv ≠ hb := by have := hH.lt; omega
              obtain ⟨z, hz⟩ : ∃ z, z = rounds KC WS x 64 := ⟨_, rfl⟩
              rw [← hz] at hV
              have HZ := Lib.hid hz
              clear hz hKr hrow
              have hst : RB4 w x z gv hb (.int .i64 0) wr := ⟨0, by omega, rfl, hV, hHr, hbl⟩
              have HST := Lib.hid hst
              clear hst hV hHr hbl hlw
              go_wp2_with fail
              go_loopw [18] (fun i wr => RB4 w x z gv hb i wr) (fun i _ => 8 - (intOf i).toNat)
              case atStart => exact HST.out
              case round =>
                clear HST
                obtain ⟨k, hk, rfl, hV, hHr, hbl⟩ := hrel
                have hlw := hbl.size
                by_cases hlt : k < 8
                · obtain ⟨xk, exk⟩ : ∃ xk, xk = x.list.getD k 0 := ⟨_, rfl⟩
                  obtain ⟨zk, ezk⟩ : ∃ zk, zk = z.list.getD k 0 := ⟨_, rfl⟩
                  have cH : wr.cell? ⟨hb, k, none⟩ = some (.int .u32 xk.toNat) := hHr.cell k _ (by rw [exk, S8.cells_list, List.getElem?_map, List.getD_eq_getElem?_getD, List.getElem?_eq_getElem (by simpa [S8.list] using hlt)]; rfl)
                  have cV : wr.cell? ⟨gv, k, none⟩ = some (.int .u32 zk.toNat) := hV.cell k _ (by rw [ezk, List.getElem?_map, mixL_at x z k hlt]; rfl)
                  have hfz : wr.frozen? ⟨gv, k, none⟩ = false := by obtain ⟨r, h⟩ := hV; exact h.frozen k
                  have EX := Lib.hid exk
                  have EZ := Lib.hid ezk
                  clear exk ezk
                  have i0' : (0 : Int) ≤ (k : Int) := by omega
                  have i1' : (k : Int) < 8 := by omega
                  go_wp2_with fail
                  generalize ha : Act.mk _ _ = a
                  have sz : a.tmps.size = 225 := by rw [← ha]; rfl
                  have s0 : a.tmps[0]'(by omega) = .slice (some ⟨hb, 0, none⟩) 8 hc := by subst ha; rfl
                  have s12 : a.tmps[12]'(by omega) = .slice (some ⟨gv, 0, none⟩) 8 cv := by subst ha; rfl
                  have s18 : a.tmps[18]'(by omega) = .int .i64 k := by subst ha; rfl
                  have HA := Lib.hid ha
                  clear ha
                  refine Free.wp_region_free 12 [] (fun w2 => w2.cell? ⟨hb, k, none⟩ = some (.int .u32 xk.toNat) ∧ w2.cell? ⟨gv, k, none⟩ = some (.int .u32 zk.toNat)) (by kernel_rfl) (by kernel_rfl) ?_ ⟨cH, cV⟩ (fun _ _ h g => ⟨cell_grow h.1 g, cell_grow h.2 g⟩) ?_
                  · intro j mk r hf
                    simp only [Free.find] at hf
                    cases hf
                  · simp only [List.take_succ_cons, List.take_zero]
                    clear cH cV
                    iterate 12 (apply Free.chain_still rfl rfl; (intro w' ⟨q0, q1⟩ hA; clear hA; go_light; go_simp <;> rfl))
                    apply Free.chain_nil
                    intro w4 hB4 hg _
                    have hg' := grow_drew hg
                    have hV4 := hV.below hg' hV.lt
                    have hH4 := hHr.below hg' hHr.lt
                    have hbl4 : Below w.heap.size w w4 := hbl.trans (hg'.mono hlw)
                    have hfz : w4.frozen? ⟨gv, k, none⟩ = false := by obtain ⟨r, h⟩ := hV4; exact h.frozen k
                    have cV4 := hB4.2
                    clear hg hg' sz s0 s12 s18 hV hHr hbl hlw
                    simp only [List.drop_succ_cons, List.drop_zero]
                    obtain rfl := HA.out
                    simp only [Act.put, List.setIfInBounds_toArray, List.set_cons_succ, List.set_cons_zero]
                    go_wp2
                    go_roundw
                    case rel =>
                      go_light
                      have key : RB4 w x z gv hb (.int .i64 (↑k + 1)) (w4.setCell ⟨gv, k, none⟩ (.int .u32 (xk + zk).toNat)) := by
                        refine ⟨k + 1, by omega, by go_num, ?_, hH4.set_ne hgh _, hbl4.setCell hgv _⟩
                        rw [← mixL_set x z k hlt, List.map_set, ← EX.out, ← EZ.out]
                        exact hV4.set k _ (by rw [List.length_map, mixL_len _ _ _ (by omega)]; exact hlt)
                      rw [UInt32.add_comm, ← add_w] at key
                      first | exact key | ((repeat apply Exists.intro); exact ⟨key, rfl⟩)
                    case measure => simp [intOf]; omega
                · obtain rfl : k = 8 := by omega
                  clear hlt hk
                  go_wp2
                  go_ret
                  refine ⟨gv, cv, rfl, ?_, hgv, hbl⟩
                  rw [mixS, ← HWS.out, ← HZ.out]
                  exact hV
end Go.Proofs.YtekfoaenomgjgaaGreatDoor

namespace Go.Proofs.YtekfoaenomgjgaaGreatDoor
open Go.RowKit Go.W32 Go.Blk

theorem refPad_len (L : List UInt8) : 64 * ((refPadL L).length / 64) = (refPadL L).length ∧ (refPadL L).length ≤ L.length + 128 := by
  have h : (refPadL L).length = L.length + 1 + (119 - L.length % 64) % 64 + 8 := by simp [refPadL, be8_len]; omega
  rw [h]; omega
/-- The padded text as bytes. -/
def refP (t : ByteArray) : ByteArray := ⟨(refPadL t.data.toList).toArray⟩
theorem refP_size (t : ByteArray) : (refP t).size = (refPadL t.data.toList).length := by simp [refP, ByteArray.size]
theorem ext_at (P : ByteArray) (k j : Nat) (hj : j < 64) (h : 64 * k + 64 ≤ P.size) : (P.extract (64 * k) (64 * k + 64)).data.getD j 0 = P.data.toList.getD (64 * k + j) 0 := by
  have hP : P.size = P.data.size := rfl
  rw [ByteArray.data_extract, Array.getD_eq_getD_getElem?, Array.getElem?_extract, if_pos (by omega), List.getD_eq_getElem?_getD, Array.getElem?_toList]
theorem own_cap {w : World} {base n cap g : Nat} {T : TypeId} {xs : List Value} (h : w.ownsRow base T 1 (.slice (some ⟨g, 0, none⟩) n cap) n xs) : n ≤ cap := by
  obtain ⟨_, h | ⟨g', cap', cur, e, h⟩⟩ := h
  · cases h.1
  · cases e
    omega
def RW (w : World) (t : ByteArray) (gb kb : Nat) (h i : Value) (wr : World) : Prop :=
  ∃ k gv cv : Nat, k ≤ (refP t).size / 64 ∧ i = .int .i64 ((64 * k : Nat) : Int) ∧ h = .slice (some ⟨gv, 0, none⟩) 8 cv ∧ RowAt wr gv (blocks KC (refP t) H0 k).cells 149 ∧ (∀ j, j < (refP t).size → wr.cell? ⟨gb, j, none⟩ = some (.int .u8 ((refP t).data.toList.getD j 0).toNat)) ∧ RowAt wr kb (KC.map W) 149 ∧ Below w.heap.size w wr
attribute [local go_sem] evs evn psz
set_option maxRecDepth 100000 in
set_option maxHeartbeats 1000000 in
theorem words_any (t : ByteArray) (w : World) (ht : t.size ≤ 1000000000) :
    Calls Tryz.prog 84 #[.string t] w fun e w' => ∃ g cap, e = .returned (.slice (some ⟨g, 0, none⟩) 8 cap) ∧ RowAt w' g (blocks KC (refP t) H0 ((refP t).size / 64)).cells 149 ∧ Below w.heap.size w w' := by
  go_enter Tryz.func84, Tryz.ntmps84
  go_wp2_with fail
  refine (refpad_any t _ ht).mono ?_
  rintro e w1 ⟨gb, cb, rfl, hown, hbl⟩
  have hrow := RowAt.of_own hown
  have hcap := own_cap hown
  obtain ⟨h64, hle⟩ := refPad_len t.data.toList
  have hcells : ∀ j, j < (refP t).size → w1.cell? ⟨gb, j, none⟩ = some (.int .u8 ((refP t).data.toList.getD j 0).toNat) := fun j hj => hrow.cell j _ (by
    rw [refP_size] at hj
    rw [List.getElem?_map, List.getElem?_eq_getElem hj]; simp [refP, C8, List.getD_eq_getElem?_getD, hj])
  have htl : t.data.toList.length = t.size := Array.length_toList
  rw [← refP_size] at h64 hle hcap ⊢
  rw [htl] at hle
  obtain ⟨q, hq⟩ : ∃ q, q = (refP t).size / 64 := ⟨_, rfl⟩
  rw [← hq] at h64
  obtain ⟨n, hn⟩ : ∃ n, n = (refP t).size := ⟨_, rfl⟩
  rw [← hn] at h64 hle hcap hcells ⊢
  have HQ := Lib.hid hq
  have HN := Lib.hid hn
  have HC := Lib.hid hcells
  have h1 : w1.heap.size ≥ w.heap.size + 1 := by simpa using hbl.size
  clear hown hrow hq hn hcells htl
  go_wp2_with fail
  refine (constants_any _).mono ?_
  rintro e w2 ⟨rfl, hKB, hbl2⟩
  have hst : RW w t gb w1.heap.size (.slice (some ⟨w.heap.size, 0, none⟩) 8 8) (.int .i64 0) w2 := by
    have hbl1 : Below (w.heap.size + 1) w1 w2 := hbl2.mono h1
    have hb0 : Blk (w.alloc (.cells #[.int .u32 1779033703, .int .u32 3144134277, .int .u32 1013904242, .int .u32 2773480762, .int .u32 1359893119, .int .u32 2600822924, .int .u32 528734635, .int .u32 1541459225] 149)) w.heap.size H0.cells 149 := Blk.made rfl rfl
    have hb1 : Blk w1 w.heap.size H0.cells 149 := hb0.below hbl (by simp)
    have hbw : Below w.heap.size w w1 := ((Below.refl _ _).alloc (Nat.le_refl _) _).trans (hbl.mono (by simp))
    refine ⟨0, w.heap.size, 8, Nat.zero_le _, rfl, rfl, ⟨[], ?_⟩, ?_, ⟨[], by rw [List.append_nil]; exact hKB⟩, hbw.trans (hbl2.mono (by omega))⟩
    · rw [List.append_nil]; exact hb1.below hbl2 (by omega)
    · intro j hj
      have h := HC.out j (by rw [HN.out]; exact hj)
      rw [hbl2.cell (p := ⟨gb, j, none⟩) (World.block_lt_of_cell? w1 _ h)]; exact h
  have HST := Lib.hid hst
  clear hst hKB hbl2 hbl
  go_wp2_with fail
  go_loopw [3, 6] (fun h i wr => RW w t gb w1.heap.size h i wr) (fun _ i _ => n - (intOf i).toNat)
  case atStart => exact HST.out
  case round =>
    clear HST
    obtain ⟨k, gv, cv, hk, rfl, rfl, hV, hcells, hKr, hbl⟩ := hrel
    have hlw := hbl.size
    rw [← HN.out] at hcells
    rw [← HQ.out] at hk
    by_cases hlt : k < q
    · have HCC := Lib.hid hcells
      clear hcells
      have i0 : (64 * (k : Int)) < (n : Int) := by omega
      have i1 : (64 * (k : Int)) + 64 ≤ (cb : Int) := by omega
      have i2 : IntKind.i64.wrap (64 * (k : Int) + 64) = 64 * (k : Int) + 64 := IntWalk.i64_in _ (by omega)
      have i3 : (64 * (k : Int)).toNat = 64 * k := by omega
      have i4 : (64 * (k : Int) + 64).toNat = 64 * k + 64 := by omega
      go_wp2_with fail
      have hsz : 64 * k + 64 ≤ (refP t).size := by rw [← HN.out]; omega
      refine (block_any (blocks KC (refP t) H0 k) ((refP t).extract (64 * k) (64 * k + 64)) wr gv cv gb (64 * k) _ w1.heap.size 64 (by rw [ByteArray.size_extract]; omega) hV (fun j hj => by rw [ext_at _ _ _ hj hsz]; exact HCC.out _ (by omega)) hKr).mono ?_
      rintro e w3 ⟨g3, c3, rfl, hV3, _, hbl3⟩
      have key : RW w t gb w1.heap.size (.slice (some ⟨g3, 0, none⟩) 8 c3) (.int .i64 ((64 * (k + 1) : Nat) : Int)) w3 := by
        refine ⟨k + 1, g3, c3, by rw [← HQ.out]; omega, rfl, rfl, hV3, ?_, hKr.below hbl3 hKr.lt, hbl.trans (hbl3.mono hlw)⟩
        intro j hj
        have h := HCC.out j (by rw [HN.out]; exact hj)
        rw [hbl3.cell (p := ⟨gb, j, none⟩) (World.block_lt_of_cell? wr _ h)]; exact h
      have e64 : ((64 * (k + 1) : Nat) : Int) = 64 * (k : Int) + 64 := by omega
      rw [e64] at key
      have KEY := Lib.hid key
      clear key e64 hV3 hbl3
      go_wp2
      go_roundw
      case rel =>
        go_light
        have key := KEY.out
        first | exact key | ((repeat apply Exists.intro); exact ⟨key, rfl⟩)
      case measure => simp [intOf]; omega
    · obtain rfl : k = q := by omega
      have hin : ¬ (64 * (k : Int)) < (n : Int) := by omega
      go_wp2
      go_ret
      refine ⟨gv, ⟨cv, rfl⟩, ?_, hbl⟩
      rw [← HQ.out]; exact hV
end Go.Proofs.YtekfoaenomgjgaaGreatDoor

namespace Go.Proofs.YtekfoaenomgjgaaGreatDoor
open Go.RowKit Go.W32 Go.Blk

theorem blocks_congr (K : List UInt32) (t t' : ByteArray) (x : S8) : ∀ k, (∀ j, j < k → t.extract (64 * j) (64 * j + 64) = t'.extract (64 * j) (64 * j + 64)) → blocks K t x k = blocks K t' x k
  | 0, _ => rfl
  | k + 1, h => by rw [blocks, blocks, blocks_congr K t t' x k (fun j hj => h j (by omega)), h k (by omega)]
theorem blocks_split (K : List UInt32) (T p : ByteArray) (x : S8) (n : Nat) : ∀ m, (∀ j, j < m → T.extract (64 * (n + j)) (64 * (n + j) + 64) = p.extract (64 * j) (64 * j + 64)) → blocks K T x (n + m) = blocks K p (blocks K T x n) m
  | 0, _ => rfl
  | m + 1, h => by rw [← Nat.add_assoc, blocks, blocks, blocks_split K T p x n m (fun j hj => h j (by omega)), h m (by omega)]
theorem repeat_zero : ∀ n, Lib.repeatL [(0 : UInt8)] n = List.replicate n 0
  | 0 => rfl
  | n + 1 => by rw [List.replicate_succ, ← repeat_zero n]; rfl
theorem refP_eq (t : ByteArray) : refP t = t.extract 0 (64 * (t.size / 64)) ++ padB (t.extract (64 * (t.size / 64)) t.size) t.size := by
  have hs : (t.extract (64 * (t.size / 64)) t.size).size = t.size % 64 := by rw [ByteArray.size_extract]; omega
  have h0 : t.extract 0 (64 * (t.size / 64)) ++ t.extract (64 * (t.size / 64)) t.size = t := by
    rw [ByteArray.extract_append_extract]
    have : min 0 (64 * (t.size / 64)) = 0 := by omega
    have h2 : max (64 * (t.size / 64)) t.size = t.size := by omega
    rw [this, h2, ByteArray.extract_zero_size]
  unfold padB
  rw [hs, repeat_zero, ← ByteArray.append_assoc, ← ByteArray.append_assoc, ← ByteArray.append_assoc, h0]
  have e1 : (119 - t.size % 64) % 64 = (119 - t.data.toList.length % 64) % 64 := by rw [show t.data.toList.length = t.size from Array.length_toList]
  apply ByteArray.ext
  simp only [ByteArray.data_append]
  rw [show (refP t).data = (refPadL t.data.toList).toArray from rfl]
  apply Array.toList_inj.1
  rw [refPadL, show t.data.toList.length = t.size from Array.length_toList]
  simp
theorem split_lo (A p t : ByteArray) (n k : Nat) (hA : A = t.extract 0 (64 * n)) (hn : 64 * n ≤ t.size) (hk : k < n) : (A ++ p).extract (64 * k) (64 * k + 64) = t.extract (64 * k) (64 * k + 64) := by
  have ht : t.size = t.data.size := rfl
  apply ByteArray.ext
  subst hA
  simp only [ByteArray.data_extract, ByteArray.data_append]
  apply Array.ext_getElem?
  intro i
  simp only [Array.getElem?_extract, Array.getElem?_append, Array.size_append, Array.size_extract]
  by_cases hi : i < 64
  · rw [if_pos (by omega), if_pos (by omega), if_pos (by omega), if_pos (by omega)]; congr 1; omega
  · rw [if_neg (by omega), if_neg (by omega)]
theorem split_hi (A p : ByteArray) (n j : Nat) (hA : A.size = 64 * n) : (A ++ p).extract (64 * (n + j)) (64 * (n + j) + 64) = p.extract (64 * j) (64 * j + 64) := by
  have ht : A.size = A.data.size := rfl
  apply ByteArray.ext
  simp only [ByteArray.data_extract, ByteArray.data_append]
  apply Array.ext_getElem?
  intro i
  simp only [Array.getElem?_extract, Array.getElem?_append, Array.size_append]
  by_cases hi : i < min (64 * (n + j) + 64) (A.data.size + p.data.size) - 64 * (n + j)
  · rw [if_pos hi, if_neg (by omega), if_pos (by omega)]; congr 1; omega
  · rw [if_neg hi, if_neg (by omega)]
theorem ref_blocks (K : List UInt32) (t : ByteArray) : blocks K (refP t) H0 ((refP t).size / 64) = blocks K (padB (t.extract (64 * (t.size / 64)) t.size) t.size) (blocks K t H0 (t.size / 64)) ((padB (t.extract (64 * (t.size / 64)) t.size) t.size).size / 64) := by
  have hA : (t.extract 0 (64 * (t.size / 64))).size = 64 * (t.size / 64) := by rw [ByteArray.size_extract]; omega
  rw [refP_eq]
  generalize hp : padB (t.extract (64 * (t.size / 64)) t.size) t.size = p
  have e : (t.extract 0 (64 * (t.size / 64)) ++ p).size / 64 = t.size / 64 + p.size / 64 := by rw [ByteArray.size_append, hA]; omega
  rw [e, blocks_split K _ p H0 (t.size / 64) _ (fun j _ => split_hi _ p _ j hA)]
  congr 1
  exact blocks_congr K _ t H0 _ (fun j hj => split_lo _ p t (t.size / 64) j rfl (by omega) hj)
/-- The digest's words. -/
def wordsOf (K : List UInt32) (t : ByteArray) : S8 := blocks K (padB (t.extract (64 * (t.size / 64)) t.size) t.size) (blocks K t H0 (t.size / 64)) ((padB (t.extract (64 * (t.size / 64)) t.size) t.size).size / 64)
theorem sumB_words (K : List UInt32) (t : ByteArray) : sumB K t = ⟨(hexOf (wordsOf K t)).toArray⟩ := rfl
end Go.Proofs.YtekfoaenomgjgaaGreatDoor

namespace Go.Proofs.YtekfoaenomgjgaaGreatDoor
open Go.RowKit Go.W32 Go.Blk

theorem hex_lo (q : Nat) (h : q < 10) : (.int .u8 (48 + (q : Int)) : Value) = C8 (hexS.getD q 0) := by
  match q, h with
  | 0, _ => rfl
  | 1, _ => rfl
  | 2, _ => rfl
  | 3, _ => rfl
  | 4, _ => rfl
  | 5, _ => rfl
  | 6, _ => rfl
  | 7, _ => rfl
  | 8, _ => rfl
  | 9, _ => rfl
theorem hex_hi (q : Nat) (h : q < 16) (h2 : 10 ≤ q) : (.int .u8 (97 + (q : Int) - 10) : Value) = C8 (hexS.getD q 0) := by
  obtain ⟨r, rfl⟩ : ∃ r, q = 10 + r := ⟨q - 10, by omega⟩
  have hr : r < 6 := by omega
  match r, hr with
  | 0, _ => rfl
  | 1, _ => rfl
  | 2, _ => rfl
  | 3, _ => rfl
  | 4, _ => rfl
  | 5, _ => rfl
def RG (w : World) (x : S8) (g : Nat) (v i : Value) (wr : World) : Prop :=
  ∃ j : Nat, j ≤ 8 ∧ i = .int .i64 j ∧ wr.ownsRow w.heap.size 5 1 v (8 * j) (((x.list.take j).flatMap digs).map C8) ∧ RowAt wr g x.cells 149 ∧ Below w.heap.size w wr
def RGI (w : World) (x : S8) (g : Nat) (j : Nat) (bs : List UInt8) (y : UInt32) (v i : Value) (wr : World) : Prop :=
  ∃ m : Nat, m ≤ 8 ∧ i = .int .i64 (7 - (m : Int)) ∧ wr.ownsRow w.heap.size 5 1 v (8 * j + m) ((bs ++ (digs y).take m).map C8) ∧ RowAt wr g x.cells 149 ∧ Below w.heap.size w wr
attribute [local go_sem] evs evn psz
set_option maxRecDepth 100000 in
set_option maxHeartbeats 1000000 in
theorem refsum_any (t : ByteArray) (w : World) (ht : t.size ≤ 1000000000) :
    Calls Tryz.prog 50 #[.string t] w fun e w' => e = .returned (.string (sumB KC t)) ∧ Below w.heap.size w w' := by
  obtain ⟨i0, hi0, hz0, hz1, hz2⟩ := info_parts info5
  have HI := Lib.hid hi0
  have HZ0 := Lib.hid hz0
  have HZ1 := Lib.hid hz1
  have HZ2 := Lib.hid hz2
  clear hi0 hz0 hz1 hz2
  go_enter Tryz.func50, Tryz.ntmps50
  go_wp2_with fail
  refine (words_any t _ ht).mono ?_
  rintro e w1 ⟨g, cap, rfl, hrow, hbl⟩
  rw [ref_blocks] at hrow
  change RowAt w1 g (wordsOf KC t).cells 149 at hrow
  obtain ⟨x, hx⟩ : ∃ x, x = wordsOf KC t := ⟨_, rfl⟩
  rw [← hx] at hrow
  have HX := Lib.hid hx
  clear hx
  have hst : RG w1 x g (.slice none 0 0) (.int .i64 0) w1 := ⟨0, by omega, rfl, World.ownsRow_nil _ _ _ _, hrow, Below.refl _ _⟩
  have hgl := hrow.lt
  have HBL := Lib.hid hbl
  have HST := Lib.hid hst
  clear hst hrow hbl
  go_wp2_with fail
  go_loopw [4, 5] (fun v i wr => RG w1 x g v i wr) (fun _ i _ => 8 - (intOf i).toNat)
  case atStart => exact HST.out
  case round =>
    clear HST
    obtain ⟨j, hj, rfl, hown, hrow, hbl⟩ := hrel
    by_cases hlt : j < 8
    · obtain ⟨y, ey⟩ : ∃ y, y = x.list.getD j 0 := ⟨_, rfl⟩
      obtain ⟨bs, ebs⟩ : ∃ bs, bs = (x.list.take j).flatMap digs := ⟨_, rfl⟩
      rw [← ebs] at hown
      have hst : RGI w1 x g j bs y u4 (.int .i64 7) wr := ⟨0, by omega, rfl, by rw [List.take_zero, List.append_nil]; exact hown, hrow, hbl⟩
      have HST := Lib.hid hst
      have EY := Lib.hid ey
      have EBS := Lib.hid ebs
      clear hst ey ebs hown hrow hbl
      have hjd : decide ((j : Int) < 8) = true := by simp; omega
      go_wp2_with fail
      go_loopw [4, 6] (fun v i wr => RGI w1 x g j bs y v i wr) (fun _ i _ => (intOf i + 1).toNat)
      case atStart => exact HST.out
      case round =>
        clear HST
        obtain ⟨m, hm, rfl, hown, hrow, hbl⟩ := hrel
        have hlw := hbl.size
        by_cases hml : m < 8
        · have cy : wr.cell? ⟨g, j, none⟩ = some (.int .u32 y.toNat) := hrow.cell j _ (by rw [EY.out, S8.cells_list, List.getElem?_map, List.getD_eq_getElem?_getD, List.getElem?_eq_getElem (by simpa [S8.list] using hlt)]; rfl)
          have j0 : (0 : Int) ≤ (j : Int) := by omega
          have i1 : (j : Int) < 8 := by omega
          have i2 : (0 : Int) ≤ 7 - (m : Int) := by omega
          obtain ⟨q, eq⟩ : ∃ q, q = nib y m := ⟨_, rfl⟩
          have hq : bits BinOp.and IntKind.u32 ((y.toNat : Int) / 2 ^ (4 * (7 - m))) 15 = (q : Int) := by
            rw [eq]
            exact nib_val y m _ (by rw [show 4 * (7 - m) = 28 - 4 * m by omega]; norm_cast)
          have hq16 : q < 16 := by rw [eq]; exact nib_lt y m
          have EQ := Lib.hid eq
          clear eq
          by_cases hq10 : q < 10
          · have hq9 : (q : Int) < 10 := by omega
            have hc : (.int .u8 (48 + (q : Int)) : Value) = C8 (hexS.getD q 0) := hex_lo q hq10
            have HC := Lib.hid hc
            clear hc
            obtain ⟨cs, ecs⟩ : ∃ cs, cs = (bs ++ (digs y).take m).map C8 := ⟨_, rfl⟩
            rw [← ecs] at hown
            have HCS := Lib.hid ecs
            clear ecs
            go_wp2_with (at_builtin; refine wpList_append_lies _ rfl _ _ 153 rfl w1.heap.size 5 i0 (.int .u8 0) 1 1 Tryz.underlying153 HI.out HZ0.out HZ1.out HZ2.out rfl (by omega) _ (8 * j + m) cs rfl (hown.alloc _) ⟨wr.heap.size, 0, none⟩ 1 1 [.int .u8 (48 + (q : Int))] rfl rfl ?c1 ?c2 (by omega) ?c3 ?c4 ?c5 (wr.heap.size + 1) (by simp) ?_)
            case c1 => exact cell_one_new _ _ _
            case c2 => simp [Value.oneCell']
            case c3 => unfold maxLen; omega
            case c4 => omega
            case c5 => simp; omega
            intro g3 cap3 w3 hown3 hgr3 _ _
            rw [HC.out, HCS.out, EQ.out, digs_next bs y m hml] at hown3
            have key : RGI w1 x g j bs y (.slice (some ⟨g3, 0, none⟩) (8 * j + m + 1) cap3) (.int .i64 (7 - (m : Int) - 1)) w3 := by
              refine ⟨m + 1, by omega, by congr 1; omega, hown3, ?_, (hbl.alloc hlw _).grown hgr3 (by simp; omega) (fun q hq => (hown.lt q hq).1)⟩
              refine RowAt.grown (by obtain ⟨r, h⟩ := hrow; exact ⟨r, h.alloc _⟩) hgr3 ?_
              intro e
              have := (hown.lt g e.symm).1
              omega
            have KEY := Lib.hid key
            clear key hown3
            go_wp2
            go_roundw
            case rel =>
              go_light
              have key := KEY.out
              first | exact key | ((repeat apply Exists.intro); exact ⟨key, rfl⟩)
            case measure => simp [intOf]; omega
          · have hq9 : ¬ (q : Int) < 10 := by omega
            have hc : (.int .u8 (97 + (q : Int) - 10) : Value) = C8 (hexS.getD q 0) := hex_hi q hq16 (by omega)
            have HC := Lib.hid hc
            clear hc
            obtain ⟨cs, ecs⟩ : ∃ cs, cs = (bs ++ (digs y).take m).map C8 := ⟨_, rfl⟩
            rw [← ecs] at hown
            have HCS := Lib.hid ecs
            clear ecs
            go_wp2_with (at_builtin; refine wpList_append_lies _ rfl _ _ 153 rfl w1.heap.size 5 i0 (.int .u8 0) 1 1 Tryz.underlying153 HI.out HZ0.out HZ1.out HZ2.out rfl (by omega) _ (8 * j + m) cs rfl (hown.alloc _) ⟨wr.heap.size, 0, none⟩ 1 1 [.int .u8 (97 + (q : Int) - 10)] rfl rfl ?d1 ?d2 (by omega) ?d3 ?d4 ?d5 (wr.heap.size + 1) (by simp) ?_)
            case d2 => simp [Value.oneCell']
            case d3 => unfold maxLen; omega
            case d4 => omega
            case d5 => first | omega | (simp; omega)
            intro g3 cap3 w3 hown3 hgr3 _ _
            rw [HC.out, HCS.out, EQ.out, digs_next bs y m hml] at hown3
            have key : RGI w1 x g j bs y (.slice (some ⟨g3, 0, none⟩) (8 * j + m + 1) cap3) (.int .i64 (7 - (m : Int) - 1)) w3 := by
              refine ⟨m + 1, by omega, by congr 1; omega, hown3, ?_, (hbl.alloc hlw _).grown hgr3 (by simp; omega) (fun q hq => (hown.lt q hq).1)⟩
              refine RowAt.grown (by obtain ⟨r, h⟩ := hrow; exact ⟨r, h.alloc _⟩) hgr3 ?_
              intro e
              have := (hown.lt g e.symm).1
              omega
            have KEY := Lib.hid key
            clear key hown3
            go_wp2
            go_roundw
            case rel =>
              go_light
              have key := KEY.out
              first | exact key | ((repeat apply Exists.intro); exact ⟨key, rfl⟩)
            case measure => simp [intOf]; omega
        · obtain rfl : m = 8 := by omega
          clear hml hm
          have key : RG w1 x g u4 (.int .i64 (↑j + 1)) wr := by
            refine ⟨j + 1, by omega, by go_num, ?_, hrow, hbl⟩
            have e : (x.list.take (j + 1)).flatMap digs = bs ++ (digs y).take 8 := by
              have hl : j < x.list.length := by simpa [S8.list] using hlt
              rw [List.take_succ_eq_append_getElem hl, List.flatMap_append, ← EBS.out, List.take_of_length_le (by rw [digs_len]; omega)]
              have e2 : y = x.list[j] := by rw [EY.out, List.getD_eq_getElem?_getD, List.getElem?_eq_getElem hl]; rfl
              rw [e2]; simp
            rw [e]; exact hown
          have KEY := Lib.hid key
          clear key hown hrow hbl hlw
          go_wp2
          go_roundw
          case rel =>
            go_light
            have key := KEY.out
            first | exact key | ((repeat apply Exists.intro); exact ⟨key, rfl⟩)
          case measure => simp [intOf]; omega
    · obtain rfl : j = 8 := by omega
      clear hlt hj
      have hL : x.list.take 8 = x.list := rfl
      rw [hL] at hown
      have hlen : (hexOf x).length = 64 := by simp [hexOf, S8.list, digs_len]
      obtain ⟨_, hown2⟩ := hown
      rcases hown2 with ⟨_, h1⟩ | ⟨R, cap2, cur, h1, _, hcur, _, _, _, htk⟩
      · omega
      · have hcv' : (convert 153 9 (.slice (some ⟨R, 0, none⟩) 64 cap2)).run Tryz.prog wr = .ok (.string ⟨(hexOf x).toArray⟩) wr := by
          have := conv_bytes (P := Tryz.prog) (cap := cap2) (hexOf x) Tryz.underlying153 Tryz.underlying5 Tryz.underlying9 (show Blk wr R cur.toList 5 by unfold Blk; simpa using hcur) (fun j hj => by
            have h2 : (cur.toList.take (8 * 8 * 1))[j]? = ((hexOf x).map C8)[j]? := by rw [htk]; rfl
            rw [List.getElem?_take_of_lt (by omega), List.getElem?_map, List.getElem?_eq_getElem hj] at h2
            exact h2)
          rw [hlen] at this
          exact this
        subst h1
        have hfin : Below w.heap.size w wr := HBL.out.trans (hbl.mono HBL.out.size)
        clear hcur htk hL hlen hrow hbl
        go_wp2
        go_ret
        exact ⟨by rw [sumB_words, ← HX.out]; rfl, hfin⟩
end Go.Proofs.YtekfoaenomgjgaaGreatDoor
