/- The reference's Room; law 45's fill. Condition: the slice reads as a list. -/
import Derived.Test.YthfjaaigncjhlaaDoorZ45C
namespace Go.Proofs.YthfjaaigncjhlaaDoor
open Go.RowKit Go.Blk Go.Jn Go.Dk Go.Mp Go.Rf Go.Shelf Go.Apl Go.Opn

def roomM (l : List ByteArray) : Nat := min (roomL (recsOf l)) 1000001
theorem roomM_take {l : List ByteArray} {k : Nat} {x : ByteArray} (h : l[k]? = some x) : roomM (l.take (k + 1)) = min (roomM (l.take k) + 4 + x.size) 1000001 := by
  unfold roomM
  rw [roomL_take h]
  omega
def RRm (l : List ByteArray) (n i : Value) : Prop := ∃ k : Nat, k ≤ l.length ∧ i = .int .i64 k ∧ n = .int .i64 (roomM (l.take k) : Int)
set_option maxRecDepth 100000 in
set_option maxHeartbeats 400000 in
theorem room45_any (A : Option Addr) (c : Nat) (l : List ByteArray) (w : World) (h : SL w 1 encS A l) (hl : l.length ≤ 4611686018427387903) (hz : ∀ x ∈ l, x.size ≤ 1000000000) :
    Calls Tryd.prog 19 #[.slice A l.length c] w fun e w' => e = .returned (.int .i64 (roomM l : Int)) ∧ w = w' := by
  have HS := Lib.hid h
  have HZ := Lib.hid hz
  have HST : Hid (RRm l (.int .i64 0) (.int .i64 0)) := ⟨0, Nat.zero_le _, rfl, rfl⟩
  clear h hz
  go_enter Tryd.func19, Tryd.ntmps19
  go_wp2_with fail
  go_loop [3, 4] (fun n i => RRm l n i) (fun _ i => l.length - (intOf i).toNat)
  case atStart => exact HST.out
  case round =>
    clear HST
    obtain ⟨k, hk, rfl, rfl⟩ := hrel
    by_cases hlt : k < l.length
    · obtain ⟨x, hx⟩ : ∃ x, l[k]? = some x := ⟨_, List.getElem?_eq_getElem hlt⟩
      obtain ⟨b1, o1, e1, hc1⟩ := HS.out.at_ hx
      have d1 : w.cell? ⟨b1, o1 + k, none⟩ = some (.string x) := by have := hc1 0 _ rfl; simpa using this
      subst e1
      have hki : (k : Int) < (l.length : Int) := by omega
      have k0 : (0 : Int) ≤ (k : Int) := by omega
      have hxz := HZ.out x (List.mem_of_getElem? hx)
      have hm := roomM_take hx
      obtain ⟨s, es⟩ : ∃ s, s = roomM (l.take k) := ⟨_, rfl⟩
      obtain ⟨t, et⟩ : ∃ t, t = roomM (l.take (k + 1)) := ⟨_, rfl⟩
      have hs : s ≤ 1000001 := by rw [es]; unfold roomM; omega
      rw [← es, ← et] at hm
      rw [← es]
      obtain ⟨s4, e4⟩ : ∃ s4, s4 = s + 4 := ⟨_, rfl⟩
      obtain ⟨s5, e5⟩ : ∃ s5, s5 = s4 + x.size := ⟨_, rfl⟩
      have w4 : IntKind.i64.wrap ((s : Int) + 4) = (s4 : Int) := by rw [IntWalk.i64_left, IntWalk.wrap64_in _ ⟨by omega, by omega⟩]; omega
      have w5 : IntKind.i64.wrap ((s4 : Int) + (x.size : Int)) = (s5 : Int) := by rw [IntWalk.i64_left, IntWalk.wrap64_in _ ⟨by omega, by omega⟩]; omega
      have KEY : Hid (RRm l (.int .i64 (t : Int)) (.int .i64 ((k : Int) + 1))) := ⟨k + 1, by omega, by go_num, by rw [et]⟩
      have HM := Lib.hid hm
      have E45 : Hid ((s5 : Int) = (s : Int) + 4 + (x.size : Int)) := by show _ = _; omega
      clear hc1 hx es et hm e4 e5
      go_wp2_with fail
      have ht : min (s5 : Int) 1000001 = (t : Int) := by have h1 := E45.out; have h2 := HM.out; omega
      rw [ht]
      exact ⟨KEY.out, by simp [intOf]; omega⟩
    · obtain rfl : k = l.length := by omega
      rw [List.take_length]
      go_wp2_with fail
      go_ret
      exact ⟨rfl, rfl⟩
/-- A text of 32 bytes, begun by another. -/
def fillB (t : ByteArray) : ByteArray := tx (t.data.toList ++ List.replicate (32 - t.size) 0 |>.take 32)
theorem fillB_size (t : ByteArray) : (fillB t).size = 32 := by
  unfold fillB
  rw [tx_size, List.length_take, List.length_append, List.length_replicate]
  have : t.data.toList.length = t.size := by simp
  omega
def RFl (t : ByteArray) (v : Value) : Prop := ∃ k : Nat, k ≤ 32 - t.size ∧ v = .string (tx (t.data.toList ++ List.replicate k 0))
def strLen (v : Value) : Nat := match v with | .string s => s.size | _ => 0
set_option maxRecDepth 100000 in
set_option maxHeartbeats 400000 in
theorem fill_any (t : ByteArray) (w : World) (ht : t.size ≤ 9223372036854775807) :
    Calls Tryd.prog 21 #[.string t] w fun e w' => e = .returned (.string (fillB t)) ∧ w = w' := by
  have HST : Hid (RFl t (.string t)) := ⟨0, Nat.zero_le _, by rw [List.replicate_zero, List.append_nil, tx_of]⟩
  go_enter Tryd.func21, Tryd.ntmps21
  go_wp2_with fail
  go_loop [0] (fun v => RFl t v) (fun v => 32 - strLen v)
  case atStart => exact HST.out
  case round =>
    clear HST
    obtain ⟨k, hk, rfl⟩ := hrel
    obtain ⟨x, ex⟩ : ∃ x, x = tx (t.data.toList ++ List.replicate k 0) := ⟨_, rfl⟩
    have hxs : x.size = t.size + k := by rw [ex, tx_size, List.length_append, List.length_replicate]; simp
    have EX := Lib.hid ex
    rw [← ex]
    clear ex
    by_cases h32 : x.size < 32
    · have hd : decide ((x.size : Int) < 32) = true := decide_eq_true (by omega)
      go_wp2_with fail
      refine ⟨⟨k + 1, by omega, ?_⟩, ?_⟩
      · rw [EX.out]
        congr 1
        apply ByteArray.ext
        rw [List.replicate_succ']
        simp [tx, ByteArray.data_append]
      · have : (x ++ (⟨#[0]⟩ : ByteArray)).size = x.size + 1 := by rw [ByteArray.size_append]; rfl
        unfold strLen
        simp only
        omega
    · have hd : decide ((x.size : Int) < 32) = false := decide_eq_false (by omega)
      have hle : 32 ≤ x.size := by omega
      go_wp2_with fail
      go_ret
      refine ⟨?_, rfl⟩
      have hk2 : k = 32 - t.size := by omega
      have hx : x.extract 0 32 = fillB t := by
        rw [EX.out, hk2]
        apply ByteArray.ext
        unfold fillB
        simp [tx]
      show Ending.returned (.string (x.extract 0 32)) = _
      rw [hx]
end Go.Proofs.YthfjaaigncjhlaaDoor
