/- The walk of digest.Number, for texts below 2^47 bytes and every integer. -/
import Derived.Test.YtamiaalfjmppaaaDoorSum
namespace Go.Proofs.YtamiaalfjmppaaaDoor
open Go.RowKit Go.W32 Go.Blk

def IsHex (c : UInt8) : Prop := (48 ≤ c.toNat ∧ c.toNat ≤ 57) ∨ (97 ≤ c.toNat ∧ c.toNat ≤ 102)
def hv (c : UInt8) : Nat := if 97 ≤ c.toNat then c.toNat - 87 else c.toNat - 48
def num (l : List UInt8) : Nat := l.foldl (fun n c => n * 16 + hv c) 0
theorem hexS_hex (q : Nat) (h : q < 16) : IsHex (hexS.getD q 0) := by
  have : ∀ q, q < 16 → IsHex (hexS.getD q 0) := by unfold IsHex; decide
  exact this q h
theorem hexOf_hex (x : S8) : ∀ c ∈ hexOf x, IsHex c := by
  intro c hc
  unfold hexOf at hc
  obtain ⟨y, _, hy⟩ := List.mem_flatMap.1 hc
  unfold digs at hy
  obtain ⟨m, _, rfl⟩ := List.mem_map.1 hy
  exact hexS_hex _ (nib_lt y m)
theorem hexOf_len (x : S8) : (hexOf x).length = 64 := by simp [hexOf, S8.list, digs_len]
theorem hv_lt {c : UInt8} (h : IsHex c) : hv c < 16 := by
  unfold hv; unfold IsHex at h; split <;> omega
theorem num_snoc (l : List UInt8) (k : Nat) (h : k < l.length) : num (l.take (k + 1)) = num (l.take k) * 16 + hv l[k] := by
  rw [List.take_succ_eq_append_getElem h, num, List.foldl_append]; rfl
theorem num_lt (l : List UInt8) (h : ∀ c ∈ l, IsHex c) (k : Nat) (hk : k ≤ l.length) : num (l.take k) < 16 ^ k := by
  induction k with
  | zero => simp [num]
  | succ k ih =>
    have := ih (by omega)
    have h2 := hv_lt (h l[k] (List.getElem_mem _))
    rw [num_snoc l k (by omega), Nat.pow_succ]; omega
/-- The digits of the digest. -/
def sumL (K : List UInt32) (t : ByteArray) : List UInt8 := (sumB K t).data.toList
theorem sumL_ex (K : List UInt32) (t : ByteArray) : ∃ x, sumL K t = hexOf x := ⟨_, by unfold sumL sumB; rfl⟩
theorem sumB_eq (K : List UInt32) (t : ByteArray) : sumB K t = ⟨(sumL K t).toArray⟩ := by unfold sumL; simp
theorem sumL_len (K : List UInt32) (t : ByteArray) : (sumL K t).length = 64 := by obtain ⟨x, h⟩ := sumL_ex K t; rw [h, hexOf_len]
theorem sumL_hex (K : List UInt32) (t : ByteArray) : ∀ c ∈ sumL K t, IsHex c := by obtain ⟨x, h⟩ := sumL_ex K t; rw [h]; exact hexOf_hex x
def number (K : List UInt32) (t : ByteArray) (m : Int) : Int := if m < 1 then 0 else (num ((sumL K t).take 15) : Int) % m

theorem bytes15 (s : ByteArray) (w : World) (h : 15 ≤ s.size) : ∃ cp ob, (convert 9 85 (.string (s.extract 0 15))).run Tryd.prog w = .ok (.slice (some ⟨w.heap.size, 0, none⟩) 15 cp) (w.drew.alloc ob) ∧
    ∀ k, k < 15 → (w.alloc ob).cell? ⟨w.heap.size, k, none⟩ = some (.int .u8 (s.data.toList.getD k 0).toNat) := by
  have hcv := run_bytes_of_string (P := Tryd.prog) w 9 85 5 (s.extract 0 15) Tryd.underlying9 Tryd.underlying85 Tryd.underlying5
  have hl15 : (s.extract 0 15).size = 15 := by simp; omega
  rw [hl15] at hcv
  refine ⟨_, _, hcv, fun k hk => ?_⟩
  rw [World.cell?_alloc_mark, bytesRow, Array.getElem?_append_left (by simp; omega), Array.getElem?_map]
  have hk2 : k < s.data.size := by show k < s.size; omega
  simp [Array.getElem?_extract]
  exact ⟨s.data[k], ⟨by show k < min 15 s.data.size; omega, by simp⟩, by rw [Array.getElem?_eq_getElem hk2]; rfl⟩
set_option maxRecDepth 100000 in
set_option maxHeartbeats 1000000 in
theorem number_any (K : List UInt32) (t : ByteArray) (m : Int) (w : World) (ht : t.size < 140737488355328) (hm : m ≤ 9223372036854775807) (hK : ∀ i, i < 64 → w.cell? ⟨0, i, none⟩ = some (.int .u32 (K.getD i 0).toNat)) :
    Calls Tryd.prog 70 #[.string t, .int .i64 m] w fun r w' => r = .returned (.int .i64 (number K t m)) ∧ Below w.heap.size w w' := by
  by_cases h1 : m < 1
  · go_enter Tryd.func70, Tryd.ntmps70
    go_wp2_with fail
    go_ret
    exact ⟨by rw [number, if_pos h1]; rfl, Below.refl _ _⟩
  · have hsum := sum_any K t w ht hK
    clear hK
    have hlen := sumL_len K t
    have hsz : (sumB K t).size = 64 := by rw [sumB_eq]; show (sumL K t).toArray.size = 64; simp [hlen]
    obtain ⟨s, hs⟩ : ∃ s, s = sumB K t := ⟨_, rfl⟩
    have hsz1 : 64 ≤ s.size := by rw [hs]; omega
    have hsz2 : s.size ≤ 64 := by rw [hs]; omega
    rw [← hs] at hsum
    have HSUM := Lib.hid hsum
    have HS := Lib.hid hs
    have HLEN := Lib.hid hlen
    clear hsz hlen hs hsum
    have hs15 : (15 : Int) ≤ (s.size : Int) := by omega
    have hm1 : 1 ≤ m := by omega
    go_enter Tryd.func70, Tryd.ntmps70
    go_wp2_with fail
    refine HSUM.out.mono ?_
    rintro e w1 ⟨rfl, hb1⟩
    obtain ⟨cp, ob, hcv, hcell⟩ := bytes15 s w1 (by omega)
    have HCL := Lib.hid hcell
    clear hcell
    go_wp2_with fail
    have hL : s.data.toList = sumL K t := by rw [HS.out]; rfl
    rw [hL] at HCL
    obtain ⟨L, eL⟩ : ∃ L, L = sumL K t := ⟨_, rfl⟩
    have hex := sumL_hex K t
    rw [← eL] at HCL hex HLEN
    have HL := Lib.hid eL
    have HX := Lib.hid hex
    clear hL eL hex
    go_loop [5, 16] (fun n i => ∃ k : Nat, k ≤ 15 ∧ i = .int .i64 k ∧ n = .int .i64 (num (L.take k) : Nat)) (fun _ i => 15 - (intOf i).toNat)
    case atStart => exact ⟨0, by omega, rfl, rfl⟩
    case round =>
      obtain ⟨k, hk, rfl, rfl⟩ := hrel
      by_cases hlt : k < 15
      · have hc := HCL.out k hlt
        have hkl : k < L.length := by have := HLEN.out; omega
        have hx := HX.out L[k] (List.getElem_mem _)
        have hsn := num_snoc L k hkl
        have hnl := num_lt L HX.out k (by omega)
        have hnp : 16 ^ k ≤ 16 ^ 14 := Nat.pow_le_pow_right (by omega) (by omega)
        have hgd : L.getD k 0 = L[k] := by rw [List.getD_eq_getElem?_getD, List.getElem?_eq_getElem hkl]; rfl
        rw [hgd] at hc
        obtain ⟨c, ec⟩ : ∃ c, c = L[k] := ⟨_, rfl⟩
        rw [← ec] at hc hx hsn
        obtain ⟨n, en⟩ : ∃ n, n = num (L.take k) := ⟨_, rfl⟩
        rw [← en] at hsn hnl ⊢
        have hn1 : n < 72057594037927936 := by have : (16 : Nat) ^ 14 = 72057594037927936 := by decide
                                               omega
        have HSN := Lib.hid hsn
        clear ec en hsn hgd hnl hnp hkl
        unfold IsHex at hx
        have hcb : c.toNat < 256 := c.toNat_lt
        by_cases h97 : 97 ≤ c.toNat
        · have hhv : hv c = c.toNat - 87 := by unfold hv; rw [if_pos h97]
          have HHV := Lib.hid hhv
          clear hhv
          have hc2 : c.toNat ≤ 102 := by omega
          clear hx
          go_wp2
          go_round
          case rel => exact ⟨k + 1, by omega, by go_num, by rw [HSN.out, HHV.out]; congr 1; omega⟩
          case measure => simp [intOf]; omega
        · have hhv : hv c = c.toNat - 48 := by unfold hv; rw [if_neg h97]
          have HHV := Lib.hid hhv
          clear hhv
          have hc2 : c.toNat ≤ 57 := by omega
          have hc3 : 48 ≤ c.toNat := by omega
          clear hx
          go_wp2
          go_round
          case rel => exact ⟨k + 1, by omega, by go_num, by rw [HSN.out, HHV.out]; congr 1; omega⟩
          case measure => simp [intOf]; omega
      · obtain rfl : k = 15 := by omega
        go_wp2
        go_ret
        refine ⟨?_, ?_⟩
        · rw [number, if_neg (by omega), ← HL.out]; rfl
        · exact (hb1.alloc hb1.size ob).drew
end Go.Proofs.YtamiaalfjmppaaaDoor
