/- The reference's words (layer 28): the eight words of a text's digest. -/
import Derived.Test.YtamiaalfjmppaaaDoorRefB
import Derived.Test.YtamiaalfjmppaaaDoorRefC
namespace Go.Proofs.YtamiaalfjmppaaaDoor
open Go.RowKit Go.W32 Go.Blk

theorem refPad_len (L : List UInt8) : 64 * ((refPadL L).length / 64) = (refPadL L).length ∧ (refPadL L).length ≤ L.length + 128 := by
  have h : (refPadL L).length = L.length + 1 + (119 - L.length % 64) % 64 + 8 := by simp [refPadL, be8_len]; omega
  rw [h]; omega
/-- The padded text as bytes. -/
def refP (t : ByteArray) : ByteArray := ⟨(refPadL t.data.toList).toArray⟩
theorem refP_size (t : ByteArray) : (refP t).size = (refPadL t.data.toList).length := by simp [refP, ByteArray.size]
theorem ext_at (P : ByteArray) (k j : Nat) (hj : j < 64) (h : 64 * k + 64 ≤ P.size) : (P.extract (64 * k) (64 * k + 64)).data.getD j 0 = P.data.toList.getD (64 * k + j) 0 := by
  have hP : P.size = P.data.size := rfl
  rw [ByteArray.data_extract, Array.getD_eq_getD_getElem?, Array.getElem?_extract, if_pos (by omega), List.getD_eq_getElem?_getD, Array.getElem?_toList]
theorem own_cap {w : World} {base n cap g : Nat} {T : TypeId} {xs : List Value} (h : w.ownsRow base T 1 (.slice (some ⟨g, 0, none⟩) n cap) n xs) : n ≤ cap := by
  obtain ⟨_, h | ⟨g', cap', cur, e, h⟩⟩ := h
  · cases h.1
  · cases e
    omega
def RW (w : World) (t : ByteArray) (gb kb : Nat) (h i : Value) (wr : World) : Prop :=
  ∃ k gv cv : Nat, k ≤ (refP t).size / 64 ∧ i = .int .i64 ((64 * k : Nat) : Int) ∧ h = .slice (some ⟨gv, 0, none⟩) 8 cv ∧ RowAt wr gv (blocks KC (refP t) H0 k).cells 86 ∧ (∀ j, j < (refP t).size → wr.cell? ⟨gb, j, none⟩ = some (.int .u8 ((refP t).data.toList.getD j 0).toNat)) ∧ RowAt wr kb (KC.map W) 86 ∧ Below w.heap.size w wr
attribute [local go_sem] evs evn psz
set_option maxRecDepth 100000 in
set_option maxHeartbeats 1000000 in
theorem words_any (t : ByteArray) (w : World) (ht : t.size ≤ 1000000000) :
    Calls Tryd.prog 54 #[.string t] w fun e w' => ∃ g cap, e = .returned (.slice (some ⟨g, 0, none⟩) 8 cap) ∧ RowAt w' g (blocks KC (refP t) H0 ((refP t).size / 64)).cells 86 ∧ Below w.heap.size w w' := by
  go_enter Tryd.func54, Tryd.ntmps54
  go_wp2_with fail
  refine (refpad_any t _ ht).mono ?_
  rintro e w1 ⟨gb, cb, rfl, hown, hbl⟩
  have hrow := RowAt.of_own hown
  have hcap := own_cap hown
  obtain ⟨h64, hle⟩ := refPad_len t.data.toList
  have hcells : ∀ j, j < (refP t).size → w1.cell? ⟨gb, j, none⟩ = some (.int .u8 ((refP t).data.toList.getD j 0).toNat) := fun j hj => hrow.cell j _ (by
    rw [refP_size] at hj
    rw [List.getElem?_map, List.getElem?_eq_getElem hj]; simp [refP, C8, List.getD_eq_getElem?_getD, hj])
  have htl : t.data.toList.length = t.size := Array.length_toList
  rw [← refP_size] at h64 hle hcap ⊢
  rw [htl] at hle
  obtain ⟨q, hq⟩ : ∃ q, q = (refP t).size / 64 := ⟨_, rfl⟩
  rw [← hq] at h64
  obtain ⟨n, hn⟩ : ∃ n, n = (refP t).size := ⟨_, rfl⟩
  rw [← hn] at h64 hle hcap hcells ⊢
  have HQ := Lib.hid hq
  have HN := Lib.hid hn
  have HC := Lib.hid hcells
  have h1 : w1.heap.size ≥ w.heap.size + 1 := by simpa using hbl.size
  clear hown hrow hq hn hcells htl
  go_wp2_with fail
  refine (constants_any _).mono ?_
  rintro e w2 ⟨rfl, hKB, hbl2⟩
  have hst : RW w t gb w1.heap.size (.slice (some ⟨w.heap.size, 0, none⟩) 8 8) (.int .i64 0) w2 := by
    have hbl1 : Below (w.heap.size + 1) w1 w2 := hbl2.mono h1
    have hb0 : Blk (w.alloc (.cells #[.int .u32 1779033703, .int .u32 3144134277, .int .u32 1013904242, .int .u32 2773480762, .int .u32 1359893119, .int .u32 2600822924, .int .u32 528734635, .int .u32 1541459225] 86)) w.heap.size H0.cells 86 := Blk.made rfl rfl
    have hb1 : Blk w1 w.heap.size H0.cells 86 := hb0.below hbl (by simp)
    have hbw : Below w.heap.size w w1 := ((Below.refl _ _).alloc (Nat.le_refl _) _).trans (hbl.mono (by simp))
    refine ⟨0, w.heap.size, 8, Nat.zero_le _, rfl, rfl, ⟨[], ?_⟩, ?_, ⟨[], by rw [List.append_nil]; exact hKB⟩, hbw.trans (hbl2.mono (by omega))⟩
    · rw [List.append_nil]; exact hb1.below hbl2 (by omega)
    · intro j hj
      have h := HC.out j (by rw [HN.out]; exact hj)
      rw [hbl2.cell (p := ⟨gb, j, none⟩) (World.block_lt_of_cell? w1 _ h)]; exact h
  have HST := Lib.hid hst
  clear hst hKB hbl2 hbl
  go_wp2_with fail
  go_loopw [3, 6] (fun h i wr => RW w t gb w1.heap.size h i wr) (fun _ i _ => n - (intOf i).toNat)
  case atStart => exact HST.out
  case round =>
    clear HST
    obtain ⟨k, gv, cv, hk, rfl, rfl, hV, hcells, hKr, hbl⟩ := hrel
    have hlw := hbl.size
    rw [← HN.out] at hcells
    rw [← HQ.out] at hk
    by_cases hlt : k < q
    · have HCC := Lib.hid hcells
      clear hcells
      have i0 : (64 * (k : Int)) < (n : Int) := by omega
      have i1 : (64 * (k : Int)) + 64 ≤ (cb : Int) := by omega
      have i2 : IntKind.i64.wrap (64 * (k : Int) + 64) = 64 * (k : Int) + 64 := IntWalk.i64_in _ (by omega)
      have i3 : (64 * (k : Int)).toNat = 64 * k := by omega
      have i4 : (64 * (k : Int) + 64).toNat = 64 * k + 64 := by omega
      go_wp2_with fail
      have hsz : 64 * k + 64 ≤ (refP t).size := by rw [← HN.out]; omega
      refine (block_any (blocks KC (refP t) H0 k) ((refP t).extract (64 * k) (64 * k + 64)) wr gv cv gb (64 * k) _ w1.heap.size 64 (by rw [ByteArray.size_extract]; omega) hV (fun j hj => by rw [ext_at _ _ _ hj hsz]; exact HCC.out _ (by omega)) hKr).mono ?_
      rintro e w3 ⟨g3, c3, rfl, hV3, _, hbl3⟩
      have key : RW w t gb w1.heap.size (.slice (some ⟨g3, 0, none⟩) 8 c3) (.int .i64 ((64 * (k + 1) : Nat) : Int)) w3 := by
        refine ⟨k + 1, g3, c3, by rw [← HQ.out]; omega, rfl, rfl, hV3, ?_, hKr.below hbl3 hKr.lt, hbl.trans (hbl3.mono hlw)⟩
        intro j hj
        have h := HCC.out j (by rw [HN.out]; exact hj)
        rw [hbl3.cell (p := ⟨gb, j, none⟩) (World.block_lt_of_cell? wr _ h)]; exact h
      have e64 : ((64 * (k + 1) : Nat) : Int) = 64 * (k : Int) + 64 := by omega
      rw [e64] at key
      have KEY := Lib.hid key
      clear key e64 hV3 hbl3
      go_wp2
      go_roundw
      case rel =>
        go_light
        have key := KEY.out
        first | exact key | ((repeat apply Exists.intro); exact ⟨key, rfl⟩)
      case measure => simp [intOf]; omega
    · obtain rfl : k = q := by omega
      have hin : ¬ (64 * (k : Int)) < (n : Int) := by omega
      go_wp2
      go_ret
      refine ⟨gv, ⟨cv, rfl⟩, ?_, hbl⟩
      rw [← HQ.out]; exact hV
end Go.Proofs.YtamiaalfjmppaaaDoor
