/- The reference's journal: number, size, blank, value, digits, zero. No condition. The reference's journal: value, content. Condition: the disk lies in memory and is on. The reference's journal: content. Condition: the disk lies in memory and is on. The reference's journal: records, frames. No condition. The reference's journal in memory; put. Condition: the journal lies in memory. A store as writes of the pieces of one text, plain. No condition. The reference's journal: store. Condition: the journal lies in memory, its disk is on. -/
import Derived.Test.YthfjaaigncjhlaaGreatDoorY1
namespace Go.Jn
open Go Go.Dk
/-- The last digits of a number. -/
def dgsL : Nat → Nat → List UInt8
  | 0, _ => []
  | k + 1, n => dgsL k (n / 10) ++ [UInt8.ofNat (48 + n % 10)]
theorem dgsL_pad : ∀ (k n : Nat), 1 ≤ k → n < 10 ^ k → dgsL k n = padL k n
  | 0, _, h, _ => by omega
  | 1, n, _, h => by
    have h10 : n < 10 := by simpa using h
    unfold padL
    rw [Lib.decDigits_one h10]
    show [] ++ [UInt8.ofNat (48 + n % 10)] = List.replicate 0 48 ++ [UInt8.ofNat (48 + n)]
    rw [Nat.mod_eq_of_lt h10]; rfl
  | k + 2, n, _, h => by
    have h2 : n / 10 < 10 ^ (k + 1) := by rw [Nat.div_lt_iff_lt_mul (by decide)]; rw [Nat.pow_succ] at h; exact h
    show dgsL (k + 1) (n / 10) ++ [UInt8.ofNat (48 + n % 10)] = _
    rw [dgsL_pad (k + 1) (n / 10) (by omega) h2]
    unfold padL
    by_cases h10 : n < 10
    · rw [Nat.div_eq_of_lt h10, Lib.decDigits_one h10, Lib.decDigits_one (show 0 < 10 by decide), Nat.mod_eq_of_lt h10]
      show (List.replicate (k + 1 - 1) 48 ++ [UInt8.ofNat (48 + 0)]) ++ [UInt8.ofNat (48 + n)] = List.replicate (k + 2 - 1) 48 ++ [UInt8.ofNat (48 + n)]
      rw [show k + 2 - 1 = (k + 1 - 1) + 1 by omega, List.replicate_succ']
      rfl
    · have hd : Lib.decDigits n = Lib.decDigits (n / 10) ++ [UInt8.ofNat (48 + n % 10)] := by
        conv => lhs; rw [Lib.decDigits, dif_neg h10]
      rw [hd, List.length_append, List.length_cons, List.length_nil, show k + 2 - ((Lib.decDigits (n / 10)).length + (0 + 1)) = k + 1 - (Lib.decDigits (n / 10)).length by omega, List.append_assoc]
end Go.Jn
namespace Go.Proofs.YthfjaaigncjhlaaGreatDoor
open Go.RowKit Go.Blk Go.Jn Go.Dk Go.Mp Go.Rf Go.Shelf Go.Apl Go.Opn

set_option maxRecDepth 100000 in
theorem rnumber_any (t : ByteArray) (w : World) (ht : t.size ≤ 16) : Calls Tryz.prog 67 #[.string t] w (DigPost (digsL t.data.toList) w) := by
  obtain ⟨R, eR⟩ : ∃ R, R = DigPost (digsL t.data.toList) w := ⟨_, rfl⟩
  rw [← eR]
  have hsz : t.data.toList.length = t.size := by simp
  have FN : Hid (digsL t.data.toList = none → R (.returned (.tuple #[.int .i64 0, .bool false])) w) := fun h => by rw [eR, h]; exact ⟨rfl, .inl ⟨rfl, rfl⟩⟩
  have FS : Hid (∀ n : Nat, digsL t.data.toList = some n → R (.returned (.tuple #[.int .i64 (n : Int), .bool true])) w) := fun n h => by rw [eR, h]; exact ⟨rfl, .inr ⟨n, rfl, rfl⟩⟩
  obtain ⟨s, es⟩ : ∃ s, s = t.data.toList := ⟨_, rfl⟩
  have HST : Hid (RDi s (.int .i64 0) (.int .i64 0)) := ⟨0, 0, Nat.zero_le _, rfl, rfl, by decide, rfl⟩
  rw [← es] at FN FS hsz
  have HS := Lib.hid hsz
  have ES := Lib.hid es
  clear eR es hsz
  go_enter Tryz.func67, Tryz.ntmps67
  go_wp2_with fail
  go_loop [4, 5] (fun a i => RDi s a i) (fun _ i => t.size - (intOf i).toNat)
  case atStart => exact HST.out
  case round =>
    clear HST
    obtain ⟨k, m, hk, rfl, rfl, hm, hd⟩ := hrel
    have HD := Lib.hid hd
    have HM := Lib.hid hm
    rw [HS.out] at hk
    clear hd hm
    by_cases hlt : k < t.size
    · have hb := byte_get t
      have hki : (k : Int) < (t.size : Int) := by omega
      have hk0 : (0 : Int) ≤ (k : Int) := by omega
      have hm15 : m < 1000000000000000 := Nat.lt_of_lt_of_le HM.out (Nat.pow_le_pow_right (n := 10) (by decide) (show k ≤ 15 by omega))
      obtain ⟨c, hc⟩ : ∃ c, s[k]? = some c := ⟨_, List.getElem?_eq_getElem (by rw [HS.out]; exact hlt)⟩
      have hbt : byteN t k = (c.toNat : Int) := by
        rw [← hb k hlt]
        have : s[k]? = some (t[k]'hlt) := by rw [ES.out]; simp [hlt]; rfl
        rw [this] at hc; cases hc; rfl
      have hdr : s.drop k = c :: s.drop (k + 1) := by
        obtain ⟨h1, h2⟩ := List.getElem?_eq_some_iff.1 hc
        rw [List.drop_eq_getElem_cons h1, h2]
      have NX := HD.out
      rw [hdr] at NX
      unfold digsGo at NX
      have hc8 : c.toNat ≤ 255 := by have := c.toNat_lt; omega
      obtain ⟨q, eq⟩ : ∃ q, q = c.toNat := ⟨_, rfl⟩
      rw [← eq] at hbt NX hc8
      clear hc hdr eq
      by_cases hq1 : 48 ≤ q
      · by_cases hq2 : q ≤ 57
        · rw [if_pos ⟨hq1, hq2⟩] at NX
          have NXT := Lib.hid NX
          clear NX
          have t1 : decide ((q : Int) < 48) = false := by simp; omega
          have t2 : decide ((57 : Int) < (q : Int)) = false := by simp; omega
          have w1 : IntKind.u8.wrap ((q : Int) - 48) = ((q - 48 : Nat) : Int) := by rw [IntKind.wrap_u8]; omega
          have w2 : IntKind.i64.wrap (((q - 48 : Nat) : Int)) = ((q - 48 : Nat) : Int) := by rw [IntWalk.i64_left]; exact IntWalk.wrap64_in _ ⟨by omega, by omega⟩
          have w3 : IntKind.i64.wrap (10 * (m : Int)) = ((10 * m : Nat) : Int) := by rw [IntWalk.i64_left, IntWalk.wrap64_in _ ⟨by omega, by omega⟩]; omega
          have w4 : IntKind.i64.wrap (((10 * m : Nat) : Int) + ((q - 48 : Nat) : Int)) = ((10 * m + (q - 48) : Nat) : Int) := by rw [IntWalk.i64_left, IntWalk.wrap64_in _ ⟨by omega, by omega⟩]; omega
          have w5 : IntKind.i64.wrap ((k : Int) + 1) = ((k + 1 : Nat) : Int) := by rw [IntWalk.i64_left, IntWalk.wrap64_in _ ⟨by omega, by omega⟩]; omega
          have REL : Hid (RDi s (.int .i64 ((10 * m + (q - 48) : Nat) : Int)) (.int .i64 ((k + 1 : Nat) : Int))) := ⟨k + 1, _, by rw [HS.out]; omega, rfl, rfl, by have := HM.out; rw [Nat.pow_succ]; omega, NXT.out⟩
          go_wp2_with fail
          have e1 : (10 * (m : Int) + ((q - 48 : Nat) : Int)) = ((10 * m + (q - 48) : Nat) : Int) := by omega
          have e2 : ((k : Int) + 1) = ((k + 1 : Nat) : Int) := by omega
          rw [e1, e2]
          refine ⟨REL.out, ?_⟩
          show t.size - (((k + 1 : Nat) : Int)).toNat < t.size - ((k : Nat) : Int).toNat
          omega
        · rw [if_neg (by omega)] at NX
          have F := Lib.hid (FN.out NX)
          clear NX
          have t1 : decide ((q : Int) < 48) = false := by simp; omega
          have t2 : decide ((57 : Int) < (q : Int)) = true := by simp; omega
          go_wp2_with fail
          exact F.out
      · rw [if_neg (by omega)] at NX
        have F := Lib.hid (FN.out NX)
        clear NX
        have t1 : decide ((q : Int) < 48) = true := by simp; omega
        go_wp2_with fail
        exact F.out
    · have hke : k = t.size := by omega
      have F : Hid (R (.returned (.tuple #[.int .i64 (m : Int), .bool true])) w) := FS.out m (by rw [HD.out, List.drop_eq_nil_of_le (by rw [HS.out]; omega)]; rfl)
      subst hke
      go_wp2_with fail
      exact F.out
theorem rsize_any (n : Nat) (w : World) (h : 4 ≤ n) (h2 : n ≤ 4000) : Calls Tryz.prog 68 #[.int .i64 (n : Int)] w fun e w' => e = .returned (.int .i64 (((n - 2) / 2 : Nat) : Int)) ∧ w = w' := by
  obtain ⟨q, eq⟩ : ∃ q, q = (n - 2) / 2 := ⟨_, rfl⟩
  rw [← eq]
  have q1 : IntKind.i64.wrap ((n : Int) - 2) = (n : Int) - 2 := by rw [IntWalk.i64_left, IntWalk.wrap64_in _ ⟨by omega, by omega⟩]
  have q2 : Int.tdiv ((n : Int) - 2) 2 = (q : Int) := by rw [Int.tdiv_eq_ediv_of_nonneg (by omega)]; omega
  have q4 : IntKind.i64.wrap (q : Int) = (q : Int) := by rw [IntWalk.i64_left, IntWalk.wrap64_in _ ⟨by omega, by omega⟩]
  go_enter Tryz.func68, Tryz.ntmps68
  go_wp2_with fail
  go_ret
  exact ⟨congrArg (fun z => Ending.returned (Value.int .i64 z)) (by omega), rfl⟩
def RBl (t : ByteArray) (i : Value) : Prop := ∃ k : Nat, i = .int .i64 (k : Int) ∧ k ≤ t.size ∧ ∀ j, j < k → t.data.toList[j]? = some 0
set_option maxRecDepth 100000 in
theorem rblank_any (t : ByteArray) (w : World) (ht : t.size ≤ 1000) : Calls Tryz.prog 39 #[.string t] w fun e w' => e = .returned (.bool (decide (t.data.toList = List.replicate t.size 0))) ∧ w = w' := by
  have hsz : t.data.toList.length = t.size := by simp
  have HST : Hid (RBl t (.int .i64 0)) := ⟨0, rfl, Nat.zero_le _, fun j h => by omega⟩
  have HS := Lib.hid hsz
  go_enter Tryz.func39, Tryz.ntmps39
  go_wp2_with fail
  go_loop [3] (fun i => RBl t i) (fun i => t.size - (intOf i).toNat)
  case atStart => exact HST.out
  case round =>
    clear HST
    obtain ⟨k, rfl, hk, hz⟩ := hrel
    have HZ := Lib.hid hz
    clear hz
    by_cases hlt : k < t.size
    · have hb := byte_get t
      have hki : (k : Int) < (t.size : Int) := by omega
      have hk0 : (0 : Int) ≤ (k : Int) := by omega
      obtain ⟨c, hc⟩ : ∃ c, t.data.toList[k]? = some c := ⟨_, List.getElem?_eq_getElem (by rw [hsz]; exact hlt)⟩
      have hbt : byteN t k = (c.toNat : Int) := by
        rw [← hb k hlt]
        have : t.data.toList[k]? = some (t[k]'hlt) := by simp [hlt]; rfl
        rw [this] at hc; cases hc; rfl
      by_cases h0 : c.toNat = 0
      · have hc0 : c = 0 := by rw [← UInt8.toNat_inj]; exact h0
        have KEY : Hid (RBl t (.int .i64 ((k : Int) + 1))) := ⟨k + 1, by go_num, by omega, fun j hj => by
          by_cases e : j = k
          · rw [e, hc, hc0]
          · exact HZ.out j (by omega)⟩
        rw [h0] at hbt
        clear hc hc0 h0 hsz
        go_wp2_with fail
        exact ⟨KEY.out, by simp [intOf]; omega⟩
      · have hneg : t.data.toList ≠ List.replicate t.size 0 := fun e => by
          rw [e, List.getElem?_replicate, if_pos hlt] at hc
          cases hc; exact h0 rfl
        have E : decide (t.data.toList = List.replicate t.size 0) = false := decide_eq_false hneg
        obtain ⟨q, eq⟩ : ∃ q, q = c.toNat := ⟨_, rfl⟩
        rw [← eq] at hbt h0
        have hq : ((q : Int) == 0) = false := by simpa using h0
        have hq2 : ¬ (q : Int) = 0 := by omega
        have F : Hid (Ending.returned (.bool false) = .returned (.bool (decide (t.data.toList = List.replicate t.size 0)))) := by rw [E]; exact rfl
        clear hc hsz hneg E eq
        go_wp2_with fail
        go_ret
        exact ⟨F.out, rfl⟩
    · obtain rfl : k = t.size := by omega
      have E : decide (t.data.toList = List.replicate t.size 0) = true := decide_eq_true (by
        apply List.ext_getElem?
        intro j
        by_cases hj : j < t.size
        · rw [HZ.out j hj, List.getElem?_replicate, if_pos hj]
        · rw [List.getElem?_eq_none (by rw [hsz]; omega), List.getElem?_eq_none (by simp; omega)])
      have F : Hid (Ending.returned (.bool true) = .returned (.bool (decide (t.data.toList = List.replicate t.size 0)))) := by rw [E]; exact rfl
      clear E hsz
      go_wp2_with fail
      go_ret
      exact ⟨F.out, rfl⟩
def RZe2 (v i : Value) : Prop := ∃ k : Nat, k ≤ 32 ∧ i = .int .i64 (k : Int) ∧ v = .string (tx (List.replicate k 0))
set_option maxRecDepth 100000 in
theorem rzero45_any (w : World) : Calls Tryz.prog 79 #[] w fun e w' => e = .returned (.string (tx (List.replicate 32 0))) ∧ w = w' := by
  have HST : Hid (RZe2 (.string ⟨#[]⟩) (.int .i64 0)) := ⟨0, by omega, rfl, rfl⟩
  go_enter Tryz.func79, Tryz.ntmps79
  go_wp2_with fail
  go_loop [1, 2] (fun v i => RZe2 v i) (fun _ i => 32 - (intOf i).toNat)
  case atStart => exact HST.out
  case round =>
    clear HST
    obtain ⟨k, hk, rfl, rfl⟩ := hrel
    by_cases hlt : k < 32
    · have hki : (k : Int) < 32 := by omega
      have hx : tx (List.replicate k 0) ++ (⟨#[0]⟩ : ByteArray) = tx (List.replicate (k + 1) 0) := by rw [tx_push, List.replicate_succ']
      have KEY : Hid (RZe2 (.string (tx (List.replicate k 0) ++ (⟨#[0]⟩ : ByteArray))) (.int .i64 ((k : Int) + 1))) := ⟨k + 1, by omega, by go_num, by rw [hx]⟩
      clear hx
      obtain ⟨t, et⟩ : ∃ t, t = tx (List.replicate k 0) := ⟨_, rfl⟩
      have hts : t.size = k := by rw [et, tx_size]; simp
      rw [← et] at KEY ⊢
      clear et
      go_wp2_with fail
      exact ⟨KEY.out, by simp [intOf]; omega⟩
    · obtain rfl : k = 32 := by omega
      go_wp2_with fail
      go_ret
      exact ⟨rfl, rfl⟩
theorem ten_cut (r : Nat) (hr : r < 10) : (⟨#[48, 49, 50, 51, 52, 53, 54, 55, 56, 57]⟩ : ByteArray).extract r (r + 1) = ⟨#[UInt8.ofNat (48 + r)]⟩ := by
  have : r = 0 ∨ r = 1 ∨ r = 2 ∨ r = 3 ∨ r = 4 ∨ r = 5 ∨ r = 6 ∨ r = 7 ∨ r = 8 ∨ r = 9 := by omega
  rcases this with rfl | rfl | rfl | rfl | rfl | rfl | rfl | rfl | rfl | rfl <;> rfl
def RDs (k n : Nat) (vn v i : Value) : Prop := ∃ (j m : Nat) (t : List UInt8), j ≤ k ∧ i = .int .i64 (j : Int) ∧ vn = .int .i64 (m : Int) ∧ v = .string (tx t) ∧ m ≤ n ∧ dgsL k n = dgsL (k - j) m ++ t ∧ t.length = j
set_option maxRecDepth 100000 in
set_option maxHeartbeats 1000000 in
theorem rdigits_any (k n : Nat) (w : World) (h1 : 1 ≤ k) (hk : k ≤ 9) (hn : n < 10 ^ k) (hn2 : n ≤ 1000000000) : Calls Tryz.prog 48 #[.int .i64 (n : Int), .int .i64 (k : Int)] w fun e w' => e = .returned (.string (tx (padL k n))) ∧ w = w' := by
  have HST : Hid (RDs k n (.int .i64 (n : Int)) (.string ⟨#[]⟩) (.int .i64 0)) := ⟨0, n, [], Nat.zero_le _, rfl, rfl, rfl, Nat.le_refl _, by simp, rfl⟩
  have EP := Lib.hid (dgsL_pad k n h1 hn)
  clear hn
  go_enter Tryz.func48, Tryz.ntmps48
  go_wp2_with fail
  go_loop [0, 5, 6] (fun vn v i => RDs k n vn v i) (fun _ _ i => k - (intOf i).toNat)
  case atStart => exact HST.out
  case round =>
    clear HST
    obtain ⟨j, m, t, hj, rfl, rfl, rfl, hm, hd, ht⟩ := hrel
    by_cases hlt : j < k
    · have hji : (j : Int) < (k : Int) := by omega
      obtain ⟨q, eq⟩ : ∃ q, q = m / 10 := ⟨_, rfl⟩
      obtain ⟨r, er⟩ : ∃ r, r = m % 10 := ⟨_, rfl⟩
      have hr10 : r < 10 := by omega
      have t1 : Int.tmod (m : Int) 10 = (r : Int) := by rw [Int.tmod_eq_emod_of_nonneg (by omega)]; omega
      have t2 : Int.tdiv (m : Int) 10 = (q : Int) := by rw [Int.tdiv_eq_ediv_of_nonneg (by omega)]; omega
      have t3 : IntKind.i64.wrap (q : Int) = (q : Int) := by rw [IntWalk.i64_left, IntWalk.wrap64_in _ ⟨by omega, by omega⟩]
      have t4 : IntKind.i64.wrap (r : Int) = (r : Int) := by rw [IntWalk.i64_left, IntWalk.wrap64_in _ ⟨by omega, by omega⟩]
      have t5 : IntKind.i64.wrap ((r : Int) + 1) = ((r + 1 : Nat) : Int) := by rw [IntWalk.i64_left, IntWalk.wrap64_in _ ⟨by omega, by omega⟩]; omega
      have r0 : (0 : Int) ≤ (r : Int) := by omega
      have r1 : (r : Int) ≤ ((r + 1 : Nat) : Int) := by omega
      have r2 : ((r + 1 : Nat) : Int) ≤ 10 := by omega
      have hts : (tx t).size = j := by rw [tx_size]; exact ht
      have hnew : (⟨#[48, 49, 50, 51, 52, 53, 54, 55, 56, 57]⟩ : ByteArray).extract r (r + 1) ++ tx t = tx (UInt8.ofNat (48 + m % 10) :: t) := by
        rw [ten_cut r hr10, er]
        apply ByteArray.ext
        simp [tx, ByteArray.data_append]
      have hd2 : dgsL k n = dgsL (k - (j + 1)) q ++ (UInt8.ofNat (48 + m % 10) :: t) := by
        rw [hd, show k - j = (k - (j + 1)) + 1 by omega, eq]
        show (dgsL (k - (j + 1)) (m / 10) ++ [UInt8.ofNat (48 + m % 10)]) ++ t = _
        rw [List.append_assoc]; rfl
      have KEY : Hid (RDs k n (.int .i64 (q : Int)) (.string ((⟨#[48, 49, 50, 51, 52, 53, 54, 55, 56, 57]⟩ : ByteArray).extract r (r + 1) ++ tx t)) (.int .i64 ((j : Int) + 1))) := ⟨j + 1, q, _, by omega, by go_num, rfl, by rw [hnew], by omega, hd2, by rw [List.length_cons, ht]⟩
      obtain ⟨T, eT⟩ : ∃ T, T = tx t := ⟨_, rfl⟩
      rw [← eT] at KEY hts ⊢
      clear hnew hd2 hd ht eq er eT
      go_wp2_with fail
      exact ⟨KEY.out, by simp [intOf]; omega⟩
    · obtain rfl : j = k := by omega
      have hji : ¬ (j : Int) < (j : Int) := by omega
      have E : tx t = tx (padL j n) := by
        rw [← EP.out, hd, Nat.sub_self]; rfl
      rw [E]
      obtain ⟨T, eT⟩ : ∃ T, T = tx (padL j n) := ⟨_, rfl⟩
      have ET := Lib.hid eT
      rw [← eT]
      clear eT hd ht E
      go_wp2_with fail
      go_ret
      exact ⟨by rw [ET.out]; rfl, rfl⟩
end Go.Proofs.YthfjaaigncjhlaaGreatDoor

namespace Go.Jn
open Go Go.Dk
theorem val_plain {s : List UInt8} {room m1 m2 m3 : Nat} {E o1 o2 o3 : Bool} (hs : s.length = 32) (hE : E = decide (s.take 16 = s.drop 16))
    (h1 : (o1 = true ∧ digsL (s.take 9) = some m1) ∨ (o1 = false ∧ digsL (s.take 9) = none))
    (h2 : (o2 = true ∧ digsL ((s.take 10).drop 9) = some m2) ∨ (o2 = false ∧ digsL ((s.take 10).drop 9) = none))
    (h3 : (o3 = true ∧ digsL ((s.take 16).drop 10) = some m3) ∨ (o3 = false ∧ digsL ((s.take 16).drop 10) = none)) :
    ((E && o1 && o2 && o3 && decide (m2 < 2) && decide (m3 ≤ room)) = true → parseV s room = some (m1, m2, m3)) ∧ ((E && o1 && o2 && o3 && decide (m2 < 2) && decide (m3 ≤ room)) = false → parseV s room = none) := by
  unfold parseV
  cases E with
  | false =>
    have : ¬ (s.take 16 = s.drop 16) := fun h => by rw [h] at hE; simp at hE
    rw [if_neg (fun h => this h.2)]
    exact ⟨fun h => by simp at h, fun _ => rfl⟩
  | true =>
    have : s.take 16 = s.drop 16 := of_decide_eq_true hE.symm
    rw [if_pos ⟨hs, this⟩]
    rcases h1 with ⟨rfl, e1⟩ | ⟨rfl, e1⟩
    · rw [e1]
      simp only
      rcases h2 with ⟨rfl, e2⟩ | ⟨rfl, e2⟩
      · rw [e2]
        simp only
        rcases h3 with ⟨rfl, e3⟩ | ⟨rfl, e3⟩
        · rw [e3]
          simp only
          by_cases hb : m2 < 2
          · rw [if_pos (show m2 ≤ 1 by omega)]
            by_cases hc : m3 ≤ room
            · rw [if_pos hc]; exact ⟨fun _ => rfl, fun h => by simp [hb, hc] at h⟩
            · rw [if_neg hc]; exact ⟨fun h => by simp [hc] at h, fun _ => rfl⟩
          · rw [if_neg (show ¬ m2 ≤ 1 by omega)]; exact ⟨fun h => by simp [hb] at h, fun _ => rfl⟩
        · rw [e3]
          simp only
          exact ⟨fun h => by simp at h, fun _ => by split <;> rfl⟩
      · rw [e2]; exact ⟨fun h => by simp at h, fun _ => rfl⟩
    · rw [e1]; exact ⟨fun h => by simp at h, fun _ => rfl⟩
theorem eff_more {l : List UInt8} {o m : Nat} : (l.drop o).take (32 * (m + 1)) = (l.drop o).take (32 * m) ++ (l.drop (o + 32 * m)).take 32 := by
  rw [show 32 * (m + 1) = 32 * m + 32 by omega, List.take_add, List.drop_drop]
end Go.Jn
namespace Go.Proofs.YthfjaaigncjhlaaGreatDoor
open Go.RowKit Go.Blk Go.Jn Go.Dk Go.Mp Go.Rf Go.Shelf Go.Apl Go.Opn

theorem rnumber_gen (t : ByteArray) (s : List UInt8) (hs : t.data.toList = s) (w : World) (ht : t.size ≤ 16) : Calls Tryz.prog 67 #[.string t] w fun e w' => ∃ (m : Nat) (o : Bool), e = .returned (.tuple #[.int .i64 (m : Int), .bool o]) ∧ ((o = true ∧ digsL s = some m) ∨ (o = false ∧ digsL s = none)) ∧ w = w' := by
  refine (rnumber_any t w ht).mono ?_
  rintro e w' ⟨rfl, ⟨h1, rfl⟩ | ⟨m, h1, rfl⟩⟩
  · exact ⟨0, false, rfl, .inr ⟨rfl, by rw [← hs]; exact h1⟩, rfl⟩
  · exact ⟨m, true, rfl, .inl ⟨rfl, by rw [← hs]; exact h1⟩, rfl⟩
def RvPost (r : Option (Nat × Nat × Nat)) (w : World) (e : Ending) (w' : World) : Prop :=
  Below w.heap.size w w' ∧ ∃ (a b c : Nat) (ok : Bool), e = .returned (.tuple #[.int .i64 (a : Int), .int .i64 (b : Int), .int .i64 (c : Int), .bool ok]) ∧ ((ok = true ∧ r = some (a, b, c)) ∨ (ok = false ∧ r = none))
set_option maxRecDepth 100000 in
set_option maxHeartbeats 2000000 in
theorem rvalue_any (t : ByteArray) (n : Nat) (w : World) (h32 : t.size = 32) (hn : 4 ≤ n) (hn2 : n ≤ 4000) :
    Calls Tryz.prog 38 #[.string t, .int .i64 (n : Int)] w (RvPost (parseV t.data.toList (32 * ((n - 2) / 2))) w) := by
  obtain ⟨R, eR⟩ : ∃ R, R = RvPost (parseV t.data.toList (32 * ((n - 2) / 2))) w := ⟨_, rfl⟩
  rw [← eR]
  have ER := Lib.hid eR
  obtain ⟨s, es⟩ : ∃ s, s = t.data.toList := ⟨_, rfl⟩
  have hsl : s.length = 32 := by rw [es]; simp; exact h32
  obtain ⟨E, eE⟩ : ∃ E, E = ((t.extract 0 16).toList == (t.extract 16 32).toList) := ⟨_, rfl⟩
  have hE : E = decide (s.take 16 = s.drop 16) := by
    rw [eE, ByteArray.toList_eq, ByteArray.toList_eq]
    have e1 : (t.extract 0 16).data.toList = s.take 16 := by rw [es]; simp
    have e2 : (t.extract 16 32).data.toList = s.drop 16 := by rw [es]; simp; exact List.take_of_length_le (by simp; omega)
    rw [e1, e2, Bool.eq_iff_iff]; simp
  have N1 := Lib.hid (rnumber_gen (t.extract 0 9) (s.take 9) (by rw [es]; simp) w (by rw [ByteArray.size_extract]; omega))
  have N2 := Lib.hid (rnumber_gen (t.extract 9 10) ((s.take 10).drop 9) (by rw [es]; simp [List.drop_take]) w (by rw [ByteArray.size_extract]; omega))
  have N3 := Lib.hid (rnumber_gen (t.extract 10 16) ((s.take 16).drop 10) (by rw [es]; simp [List.drop_take]) w (by rw [ByteArray.size_extract]; omega))
  have SZ := Lib.hid (fun w => rsize_any n w hn hn2)
  obtain ⟨q, eq⟩ : ∃ q, q = (n - 2) / 2 := ⟨_, rfl⟩
  rw [← eq] at SZ ER
  rw [← es] at ER
  have hq : q ≤ 2000 := by omega
  have EE := Lib.hid eE
  have HE := Lib.hid hE
  have HSL := Lib.hid hsl
  clear eR es eE hE hsl eq
  go_enter Tryz.func38, Tryz.ntmps38
  go_wp2_with fail
  refine N1.out.mono ?_
  rintro e w' ⟨m1, o1, rfl, h1, rfl⟩
  go_wp2_with fail
  refine N2.out.mono ?_
  rintro e w' ⟨m2, o2, rfl, h2, rfl⟩
  go_wp2_with fail
  refine N3.out.mono ?_
  rintro e w' ⟨m3, o3, rfl, h3, rfl⟩
  have VP := val_plain (room := 32 * q) HSL.out HE.out h1 h2 h3
  have FIN : Hid (∀ ok : Bool, (E && o1 && o2 && o3 && decide (m2 < 2) && decide (m3 ≤ 32 * q)) = ok → ∀ w', Below w.heap.size w w' → R (.returned (.tuple #[.int .i64 (m1 : Int), .int .i64 (m2 : Int), .int .i64 (m3 : Int), .bool ok])) w') := fun ok h w' hb => by
    rw [ER.out]
    refine ⟨hb, m1, m2, m3, ok, rfl, ?_⟩
    cases ok with
    | true => exact .inl ⟨rfl, VP.1 h⟩
    | false => exact .inr ⟨rfl, VP.2 h⟩
  have H3 : Hid (m3 < 1000000 ∨ o3 = false) := by
    rcases h3 with ⟨e, h⟩ | ⟨e, h⟩
    · refine .inl ?_
      have := digsGo_lt _ 0 m3 0 h (by decide)
      have hl : ((s.take 16).drop 10).length = 6 := by simp [HSL.out]
      rw [hl] at this; exact this
    · exact .inr e
  clear N1 N2 N3 VP h1 h2 h3 HE HSL ER
  go_wp2_with fail
  cases E with
  | false =>
    refine Free.wp_region_free 26 [] (fun y => Below w.heap.size w y ∧ True) (by kernel_rfl) (by kernel_rfl) (Free.mono_det (fun j mk r hf => by simp only [Free.find] at hf; repeat' (first | cases hf | split at hf))) ⟨(Below.refl _ _).drew, trivial⟩ (fun _ _ h g => ⟨h.1.trans (Below.mono g h.1.size), trivial⟩) ?_
    simp only [List.take_succ_cons, List.take_zero]
    iterate 5 (apply Free.chain_still (by first | exact Free.wanted_of rfl rfl rfl | rfl) rfl; (intro w' hB hA; obtain ⟨qB, _⟩ := hB; clear hA  qB; go_light; go_simp <;> rfl); (try simp only [Act.put, List.setIfInBounds_toArray, List.set_cons_succ, List.set_cons_zero]))
    rw [← EE.out]
    iterate 1 (apply Free.chain_still (by first | exact Free.wanted_of rfl rfl rfl | rfl) rfl; (intro w' hB hA; obtain ⟨qB, _⟩ := hB; clear hA  qB; go_light; go_simp <;> rfl); (try simp only [Act.put, List.setIfInBounds_toArray, List.set_cons_succ, List.set_cons_zero]))
    iterate 1 (apply Free.chain_skip (by exact unwanted2 rfl rfl rfl rfl); simp only [Act.put, List.setIfInBounds_toArray, List.set_cons_succ, List.set_cons_zero])
    iterate 2 (apply Free.chain_still (by first | exact Free.wanted_of rfl rfl rfl | rfl) rfl; (intro w' hB hA; obtain ⟨qB, _⟩ := hB; clear hA  qB; go_light; go_simp <;> rfl); (try simp only [Act.put, List.setIfInBounds_toArray, List.set_cons_succ, List.set_cons_zero]))
    iterate 1 (apply Free.chain_skip (by exact unwanted2 rfl rfl rfl rfl); simp only [Act.put, List.setIfInBounds_toArray, List.set_cons_succ, List.set_cons_zero])
    iterate 2 (apply Free.chain_still (by first | exact Free.wanted_of rfl rfl rfl | rfl) rfl; (intro w' hB hA; obtain ⟨qB, _⟩ := hB; clear hA  qB; go_light; go_simp <;> rfl); (try simp only [Act.put, List.setIfInBounds_toArray, List.set_cons_succ, List.set_cons_zero]))
    iterate 1 (apply Free.chain_skip (by exact unwanted2 rfl rfl rfl rfl); simp only [Act.put, List.setIfInBounds_toArray, List.set_cons_succ, List.set_cons_zero])
    iterate 2 (apply Free.chain_still (by first | exact Free.wanted_of rfl rfl rfl | rfl) rfl; (intro w' hB hA; obtain ⟨qB, _⟩ := hB; clear hA  qB; go_light; go_simp <;> rfl); (try simp only [Act.put, List.setIfInBounds_toArray, List.set_cons_succ, List.set_cons_zero]))
    iterate 2 (apply Free.chain_skip (by exact unwanted2 rfl rfl rfl rfl); simp only [Act.put, List.setIfInBounds_toArray, List.set_cons_succ, List.set_cons_zero])
    iterate 2 (apply Free.chain_still (by first | exact Free.wanted_of rfl rfl rfl | rfl) rfl; (intro w' hB hA; obtain ⟨qB, _⟩ := hB; clear hA  qB; go_light; go_simp <;> rfl); (try simp only [Act.put, List.setIfInBounds_toArray, List.set_cons_succ, List.set_cons_zero]))
    iterate 5 (apply Free.chain_skip (by exact unwanted2 rfl rfl rfl rfl); simp only [Act.put, List.setIfInBounds_toArray, List.set_cons_succ, List.set_cons_zero])
    iterate 2 (apply Free.chain_still (by first | exact Free.wanted_of rfl rfl rfl | rfl) rfl; (intro w' hB hA; obtain ⟨qB, _⟩ := hB; clear hA  qB; go_light; go_simp <;> rfl); (try simp only [Act.put, List.setIfInBounds_toArray, List.set_cons_succ, List.set_cons_zero]))
    apply Free.chain_nil
    intro wz hBz _ _
    simp only [List.drop_succ_cons, List.drop_zero]
    have G := Lib.hid (FIN.out false (by simp) wz hBz.1)
    clear hBz FIN
    go_wp2_with fail
    exact bodyPost_ret (v := .tuple #[.int .i64 (m1 : Int), .int .i64 (m2 : Int), .int .i64 (m3 : Int), .bool false]) (by simp [results, Tryz.results38, go_sem] <;> assumption) rfl G.out
  | true =>
    cases o1 with
    | false =>
      refine Free.wp_region_free 26 [] (fun y => Below w.heap.size w y ∧ True) (by kernel_rfl) (by kernel_rfl) (Free.mono_det (fun j mk r hf => by simp only [Free.find] at hf; repeat' (first | cases hf | split at hf))) ⟨(Below.refl _ _).drew, trivial⟩ (fun _ _ h g => ⟨h.1.trans (Below.mono g h.1.size), trivial⟩) ?_
      simp only [List.take_succ_cons, List.take_zero]
      iterate 5 (apply Free.chain_still (by first | exact Free.wanted_of rfl rfl rfl | rfl) rfl; (intro w' hB hA; obtain ⟨qB, _⟩ := hB; clear hA  qB; go_light; go_simp <;> rfl); (try simp only [Act.put, List.setIfInBounds_toArray, List.set_cons_succ, List.set_cons_zero]))
      rw [← EE.out]
      iterate 4 (apply Free.chain_still (by first | exact Free.wanted_of rfl rfl rfl | rfl) rfl; (intro w' hB hA; obtain ⟨qB, _⟩ := hB; clear hA  qB; go_light; go_simp <;> rfl); (try simp only [Act.put, List.setIfInBounds_toArray, List.set_cons_succ, List.set_cons_zero]))
      iterate 1 (apply Free.chain_skip (by exact unwanted2 rfl rfl rfl rfl); simp only [Act.put, List.setIfInBounds_toArray, List.set_cons_succ, List.set_cons_zero])
      iterate 2 (apply Free.chain_still (by first | exact Free.wanted_of rfl rfl rfl | rfl) rfl; (intro w' hB hA; obtain ⟨qB, _⟩ := hB; clear hA  qB; go_light; go_simp <;> rfl); (try simp only [Act.put, List.setIfInBounds_toArray, List.set_cons_succ, List.set_cons_zero]))
      iterate 1 (apply Free.chain_skip (by exact unwanted2 rfl rfl rfl rfl); simp only [Act.put, List.setIfInBounds_toArray, List.set_cons_succ, List.set_cons_zero])
      iterate 2 (apply Free.chain_still (by first | exact Free.wanted_of rfl rfl rfl | rfl) rfl; (intro w' hB hA; obtain ⟨qB, _⟩ := hB; clear hA  qB; go_light; go_simp <;> rfl); (try simp only [Act.put, List.setIfInBounds_toArray, List.set_cons_succ, List.set_cons_zero]))
      iterate 2 (apply Free.chain_skip (by exact unwanted2 rfl rfl rfl rfl); simp only [Act.put, List.setIfInBounds_toArray, List.set_cons_succ, List.set_cons_zero])
      iterate 2 (apply Free.chain_still (by first | exact Free.wanted_of rfl rfl rfl | rfl) rfl; (intro w' hB hA; obtain ⟨qB, _⟩ := hB; clear hA  qB; go_light; go_simp <;> rfl); (try simp only [Act.put, List.setIfInBounds_toArray, List.set_cons_succ, List.set_cons_zero]))
      iterate 5 (apply Free.chain_skip (by exact unwanted2 rfl rfl rfl rfl); simp only [Act.put, List.setIfInBounds_toArray, List.set_cons_succ, List.set_cons_zero])
      iterate 2 (apply Free.chain_still (by first | exact Free.wanted_of rfl rfl rfl | rfl) rfl; (intro w' hB hA; obtain ⟨qB, _⟩ := hB; clear hA  qB; go_light; go_simp <;> rfl); (try simp only [Act.put, List.setIfInBounds_toArray, List.set_cons_succ, List.set_cons_zero]))
      apply Free.chain_nil
      intro wz hBz _ _
      simp only [List.drop_succ_cons, List.drop_zero]
      have G := Lib.hid (FIN.out false (by simp) wz hBz.1)
      clear hBz FIN
      go_wp2_with fail
      exact bodyPost_ret (v := .tuple #[.int .i64 (m1 : Int), .int .i64 (m2 : Int), .int .i64 (m3 : Int), .bool false]) (by simp [results, Tryz.results38, go_sem] <;> assumption) rfl G.out
    | true =>
      cases o2 with
      | false =>
        refine Free.wp_region_free 26 [] (fun y => Below w.heap.size w y ∧ True) (by kernel_rfl) (by kernel_rfl) (Free.mono_det (fun j mk r hf => by simp only [Free.find] at hf; repeat' (first | cases hf | split at hf))) ⟨(Below.refl _ _).drew, trivial⟩ (fun _ _ h g => ⟨h.1.trans (Below.mono g h.1.size), trivial⟩) ?_
        simp only [List.take_succ_cons, List.take_zero]
        iterate 5 (apply Free.chain_still (by first | exact Free.wanted_of rfl rfl rfl | rfl) rfl; (intro w' hB hA; obtain ⟨qB, _⟩ := hB; clear hA  qB; go_light; go_simp <;> rfl); (try simp only [Act.put, List.setIfInBounds_toArray, List.set_cons_succ, List.set_cons_zero]))
        rw [← EE.out]
        iterate 7 (apply Free.chain_still (by first | exact Free.wanted_of rfl rfl rfl | rfl) rfl; (intro w' hB hA; obtain ⟨qB, _⟩ := hB; clear hA  qB; go_light; go_simp <;> rfl); (try simp only [Act.put, List.setIfInBounds_toArray, List.set_cons_succ, List.set_cons_zero]))
        iterate 1 (apply Free.chain_skip (by exact unwanted2 rfl rfl rfl rfl); simp only [Act.put, List.setIfInBounds_toArray, List.set_cons_succ, List.set_cons_zero])
        iterate 2 (apply Free.chain_still (by first | exact Free.wanted_of rfl rfl rfl | rfl) rfl; (intro w' hB hA; obtain ⟨qB, _⟩ := hB; clear hA  qB; go_light; go_simp <;> rfl); (try simp only [Act.put, List.setIfInBounds_toArray, List.set_cons_succ, List.set_cons_zero]))
        iterate 2 (apply Free.chain_skip (by exact unwanted2 rfl rfl rfl rfl); simp only [Act.put, List.setIfInBounds_toArray, List.set_cons_succ, List.set_cons_zero])
        iterate 2 (apply Free.chain_still (by first | exact Free.wanted_of rfl rfl rfl | rfl) rfl; (intro w' hB hA; obtain ⟨qB, _⟩ := hB; clear hA  qB; go_light; go_simp <;> rfl); (try simp only [Act.put, List.setIfInBounds_toArray, List.set_cons_succ, List.set_cons_zero]))
        iterate 5 (apply Free.chain_skip (by exact unwanted2 rfl rfl rfl rfl); simp only [Act.put, List.setIfInBounds_toArray, List.set_cons_succ, List.set_cons_zero])
        iterate 2 (apply Free.chain_still (by first | exact Free.wanted_of rfl rfl rfl | rfl) rfl; (intro w' hB hA; obtain ⟨qB, _⟩ := hB; clear hA  qB; go_light; go_simp <;> rfl); (try simp only [Act.put, List.setIfInBounds_toArray, List.set_cons_succ, List.set_cons_zero]))
        apply Free.chain_nil
        intro wz hBz _ _
        simp only [List.drop_succ_cons, List.drop_zero]
        have G := Lib.hid (FIN.out false (by simp) wz hBz.1)
        clear hBz FIN
        go_wp2_with fail
        exact bodyPost_ret (v := .tuple #[.int .i64 (m1 : Int), .int .i64 (m2 : Int), .int .i64 (m3 : Int), .bool false]) (by simp [results, Tryz.results38, go_sem] <;> assumption) rfl G.out
      | true =>
        cases o3 with
        | false =>
          refine Free.wp_region_free 26 [] (fun y => Below w.heap.size w y ∧ True) (by kernel_rfl) (by kernel_rfl) (Free.mono_det (fun j mk r hf => by simp only [Free.find] at hf; repeat' (first | cases hf | split at hf))) ⟨(Below.refl _ _).drew, trivial⟩ (fun _ _ h g => ⟨h.1.trans (Below.mono g h.1.size), trivial⟩) ?_
          simp only [List.take_succ_cons, List.take_zero]
          iterate 5 (apply Free.chain_still (by first | exact Free.wanted_of rfl rfl rfl | rfl) rfl; (intro w' hB hA; obtain ⟨qB, _⟩ := hB; clear hA  qB; go_light; go_simp <;> rfl); (try simp only [Act.put, List.setIfInBounds_toArray, List.set_cons_succ, List.set_cons_zero]))
          rw [← EE.out]
          iterate 10 (apply Free.chain_still (by first | exact Free.wanted_of rfl rfl rfl | rfl) rfl; (intro w' hB hA; obtain ⟨qB, _⟩ := hB; clear hA  qB; go_light; go_simp <;> rfl); (try simp only [Act.put, List.setIfInBounds_toArray, List.set_cons_succ, List.set_cons_zero]))
          iterate 2 (apply Free.chain_skip (by exact unwanted2 rfl rfl rfl rfl); simp only [Act.put, List.setIfInBounds_toArray, List.set_cons_succ, List.set_cons_zero])
          iterate 2 (apply Free.chain_still (by first | exact Free.wanted_of rfl rfl rfl | rfl) rfl; (intro w' hB hA; obtain ⟨qB, _⟩ := hB; clear hA  qB; go_light; go_simp <;> rfl); (try simp only [Act.put, List.setIfInBounds_toArray, List.set_cons_succ, List.set_cons_zero]))
          iterate 5 (apply Free.chain_skip (by exact unwanted2 rfl rfl rfl rfl); simp only [Act.put, List.setIfInBounds_toArray, List.set_cons_succ, List.set_cons_zero])
          iterate 2 (apply Free.chain_still (by first | exact Free.wanted_of rfl rfl rfl | rfl) rfl; (intro w' hB hA; obtain ⟨qB, _⟩ := hB; clear hA  qB; go_light; go_simp <;> rfl); (try simp only [Act.put, List.setIfInBounds_toArray, List.set_cons_succ, List.set_cons_zero]))
          apply Free.chain_nil
          intro wz hBz _ _
          simp only [List.drop_succ_cons, List.drop_zero]
          have G := Lib.hid (FIN.out false (by simp) wz hBz.1)
          clear hBz FIN
          go_wp2_with fail
          exact bodyPost_ret (v := .tuple #[.int .i64 (m1 : Int), .int .i64 (m2 : Int), .int .i64 (m3 : Int), .bool false]) (by simp [results, Tryz.results38, go_sem] <;> assumption) rfl G.out
        | true =>
          have hm3 : m3 < 1000000 := H3.out.elim id (fun h => by cases h)
          by_cases hb2 : m2 < 2
          · have hb2i : (m2 : Int) < 2 := by omega
            have wq : IntKind.i64.wrap (32 * (q : Int)) = 32 * (q : Int) := by rw [IntWalk.i64_left, IntWalk.wrap64_in _ ⟨by omega, by omega⟩]
            obtain ⟨ok, eok⟩ : ∃ ok, decide ((m3 : Int) ≤ 32 * (q : Int)) = ok := ⟨_, rfl⟩
            have eok2 : decide (m3 ≤ 32 * q) = ok := by rw [← eok]; exact decide_eq_decide.2 (by omega)
            have SZB : Hid (∀ w', Calls Tryz.prog 68 #[.int .i64 (n : Int)] w' fun e w2 => e = .returned (.int .i64 (q : Int)) ∧ Below w'.heap.size w' w2) := fun w' => (SZ.out w').mono fun e w2 h => ⟨h.1, by rw [← h.2]; exact Below.refl _ _⟩
            refine Free.wp_region_free 26 [(21, .det (.int .i64 (q : Int)))] (fun y => Below w.heap.size w y ∧ True) (by kernel_rfl) (by kernel_rfl) (Free.mono_det (fun j mk r hf => by simp only [Free.find] at hf; repeat' (first | cases hf | split at hf))) ⟨(Below.refl _ _).drew, trivial⟩ (fun _ _ h g => ⟨h.1.trans (Below.mono g h.1.size), trivial⟩) ?_
            simp only [List.take_succ_cons, List.take_zero]
            iterate 5 (apply Free.chain_still (by first | exact Free.wanted_of rfl rfl rfl | rfl) rfl; (intro w' hB hA; obtain ⟨qB, _⟩ := hB; clear hA  qB; go_light; go_simp <;> rfl); (try simp only [Act.put, List.setIfInBounds_toArray, List.set_cons_succ, List.set_cons_zero]))
            rw [← EE.out]
            iterate 16 (apply Free.chain_still (by first | exact Free.wanted_of rfl rfl rfl | rfl) rfl; (intro w' hB hA; obtain ⟨qB, _⟩ := hB; clear hA  qB; go_light; go_simp <;> rfl); (try simp only [Act.put, List.setIfInBounds_toArray, List.set_cons_succ, List.set_cons_zero]))
            apply Free.chain_det (by first | exact Free.wanted_of rfl rfl rfl | rfl) rfl
            · intro w' hB hA
              refine Free.opRun_call (f := 68) (args := #[.int .i64 (n : Int)]) (by clear hB hA; go_simp <;> rfl) ?_
              refine (SZB.out w').mono ?_
              rintro e w3 ⟨rfl, hb3⟩
              exact ⟨_, rfl, hb3, rfl⟩
            simp only [Act.put, List.setIfInBounds_toArray, List.set_cons_succ, List.set_cons_zero]
            iterate 4 (apply Free.chain_still (by first | exact Free.wanted_of rfl rfl rfl | rfl) rfl; (intro w' hB hA; obtain ⟨qB, _⟩ := hB; clear hA  qB; go_light; go_simp <;> rfl); (try simp only [Act.put, List.setIfInBounds_toArray, List.set_cons_succ, List.set_cons_zero]))
            apply Free.chain_nil
            intro wz hBz _ _
            simp only [List.drop_succ_cons, List.drop_zero]
            have G := Lib.hid (FIN.out ok (by simp [hb2, eok2]) wz hBz.1)
            clear hBz FIN
            go_wp2_with fail
            exact bodyPost_ret (v := .tuple #[.int .i64 (m1 : Int), .int .i64 (m2 : Int), .int .i64 (m3 : Int), .bool ok]) (by simp [results, Tryz.results38, go_sem] <;> assumption) rfl G.out
          · have hb2i : ¬ (m2 : Int) < 2 := by omega
            refine Free.wp_region_free 26 [] (fun y => Below w.heap.size w y ∧ True) (by kernel_rfl) (by kernel_rfl) (Free.mono_det (fun j mk r hf => by simp only [Free.find] at hf; repeat' (first | cases hf | split at hf))) ⟨(Below.refl _ _).drew, trivial⟩ (fun _ _ h g => ⟨h.1.trans (Below.mono g h.1.size), trivial⟩) ?_
            simp only [List.take_succ_cons, List.take_zero]
            iterate 5 (apply Free.chain_still (by first | exact Free.wanted_of rfl rfl rfl | rfl) rfl; (intro w' hB hA; obtain ⟨qB, _⟩ := hB; clear hA  qB; go_light; go_simp <;> rfl); (try simp only [Act.put, List.setIfInBounds_toArray, List.set_cons_succ, List.set_cons_zero]))
            rw [← EE.out]
            iterate 14 (apply Free.chain_still (by first | exact Free.wanted_of rfl rfl rfl | rfl) rfl; (intro w' hB hA; obtain ⟨qB, _⟩ := hB; clear hA  qB; go_light; go_simp <;> rfl); (try simp only [Act.put, List.setIfInBounds_toArray, List.set_cons_succ, List.set_cons_zero]))
            iterate 5 (apply Free.chain_skip (by exact unwanted2 rfl rfl rfl rfl); simp only [Act.put, List.setIfInBounds_toArray, List.set_cons_succ, List.set_cons_zero])
            iterate 2 (apply Free.chain_still (by first | exact Free.wanted_of rfl rfl rfl | rfl) rfl; (intro w' hB hA; obtain ⟨qB, _⟩ := hB; clear hA  qB; go_light; go_simp <;> rfl); (try simp only [Act.put, List.setIfInBounds_toArray, List.set_cons_succ, List.set_cons_zero]))
            apply Free.chain_nil
            intro wz hBz _ _
            simp only [List.drop_succ_cons, List.drop_zero]
            have G := Lib.hid (FIN.out false (by simp [hb2]) wz hBz.1)
            clear hBz FIN
            go_wp2_with fail
            exact bodyPost_ret (v := .tuple #[.int .i64 (m1 : Int), .int .i64 (m2 : Int), .int .i64 (m3 : Int), .bool false]) (by simp [results, Tryz.results38, go_sem] <;> assumption) rfl G.out
end Go.Proofs.YthfjaaigncjhlaaGreatDoor

namespace Go.Proofs.YthfjaaigncjhlaaGreatDoor
open Go.RowKit Go.Blk Go.Jn Go.Dk Go.Mp Go.Rf Go.Shelf Go.Apl Go.Opn

def RCt (base from_ : Nat) (d : DD) (v i : Value) (m : Nat) : Prop := ∃ j : Nat, j ≤ m ∧ i = .int .i64 ((from_ + j : Nat) : Int) ∧ v = .string (tx (((eff d).drop (32 * (base + from_))).take (32 * j)))
set_option maxRecDepth 100000 in
set_option maxHeartbeats 1000000 in
theorem rcontent_any {w : World} {b bs cp n : Nat} {pv : Value} {d : DD} (h : RDAt w b bs cp pv d n) (hon : d.on = true) (hn : 4 ≤ n) (hf from_ m : Nat) (hh : hf ≤ 1) (hm : from_ + m ≤ (n - 2) / 2) :
    Calls Tryz.prog 41 #[.pointer (some ⟨b, 0, none⟩), .int .i64 (n : Int), .int .i64 (hf : Int), .int .i64 (from_ : Int), .int .i64 ((from_ + m : Nat) : Int)] w fun e w' => e = .returned (.string (tx (((eff d).drop (32 * (2 + hf * ((n - 2) / 2) + from_))).take (32 * m)))) ∧ w = w' := by
  have hn2 := h.ok.n2
  have SZ := Lib.hid (rsize_any n w hn hn2)
  obtain ⟨q, eq⟩ : ∃ q, q = (n - 2) / 2 := ⟨_, rfl⟩
  rw [← eq] at SZ hm ⊢
  have hhq : hf * q ≤ q := by
    have : hf = 0 ∨ hf = 1 := by omega
    rcases this with rfl | rfl <;> simp
  obtain ⟨p, ep⟩ : ∃ p, p = hf * q := ⟨_, rfl⟩
  rw [← ep] at hhq ⊢
  have w1 : IntKind.i64.wrap ((hf : Int) * (q : Int)) = (p : Int) := by
    rw [IntWalk.i64_left, IntWalk.wrap64_in _ (by rw [← Int.natCast_mul, ← ep]; exact ⟨by omega, by omega⟩), ← Int.natCast_mul, ← ep]
  have w2 : IntKind.i64.wrap (2 + (p : Int)) = 2 + (p : Int) := by rw [IntWalk.i64_left, IntWalk.wrap64_in _ ⟨by omega, by omega⟩]
  have HST : Hid (RCt (2 + p) from_ d (.string ⟨#[]⟩) (.int .i64 (from_ : Int)) m) := ⟨0, Nat.zero_le _, rfl, by rw [Nat.mul_zero, List.take_zero]; rfl⟩
  have EL := Lib.hid (eff_len h.ok)
  have RD := Lib.hid (fun (k : Nat) (hk : k < n) => by have := rread_any h (k : Int); rw [read_eff h.ok hon hk] at this; exact this)
  have HQ : Hid (2 + 2 * q ≤ n) := by show _ ≤ _; omega
  obtain ⟨base, eb⟩ : ∃ base, base = 2 + p := ⟨_, rfl⟩
  obtain ⟨tq, etq⟩ : ∃ tq, tq = from_ + m := ⟨_, rfl⟩
  rw [← etq]
  rw [← eb] at HST ⊢
  have EB := Lib.hid eb
  have hp4 : p ≤ 4000 := by omega
  have HBS : Hid (base + tq ≤ n) := by show _ ≤ _; omega
  have hb4 : base ≤ 4000 := by omega
  have htq : tq ≤ 4000 := by omega
  have ETQ := Lib.hid etq
  clear h hon ep eb etq hhq hm eq
  go_enter Tryz.func41, Tryz.ntmps41
  go_wp2_with fail
  go_loop [11, 12] (fun v i => RCt base from_ d v i m) (fun _ i => tq - (intOf i).toNat)
  case atStart => exact HST.out
  case round =>
    clear HST
    obtain ⟨j, hj, rfl, rfl⟩ := hrel
    obtain ⟨k, ek⟩ : ∃ k, k = from_ + j := ⟨_, rfl⟩
    rw [← ek]
    have EK := Lib.hid ek
    clear ek
    by_cases hlt : j < m
    · have hkt : k < tq := by have := EK.out; have := ETQ.out; omega
      have hki : (k : Int) < (tq : Int) := by omega
      have hk4 : k ≤ 4000 := by omega
      have w3 : IntKind.i64.wrap (2 + (p : Int) + (k : Int)) = 2 + (p : Int) + (k : Int) := by rw [IntWalk.i64_left, IntWalk.wrap64_in _ ⟨by omega, by omega⟩]
      have RK := RD.out (base + k) (by have := HBS.out; omega)
      obtain ⟨sv, esv⟩ : ∃ sv, sv = sec (eff d) (base + k) := ⟨_, rfl⟩
      rw [← esv, show ((base + k : Nat) : Int) = 2 + (p : Int) + (k : Int) by have := EB.out; omega] at RK
      have hsv : sv.length = 32 := by rw [esv]; exact sec_len (by rw [EL.out]; have := HBS.out; omega)
      have hstep : ((eff d).drop (32 * (base + from_))).take (32 * (j + 1)) = ((eff d).drop (32 * (base + from_))).take (32 * j) ++ sv := by
        rw [eff_more, esv]
        unfold sec
        rw [show 32 * (base + from_) + 32 * j = 32 * (base + k) by have := EK.out; omega]
      obtain ⟨T, eT⟩ : ∃ T, T = tx (((eff d).drop (32 * (base + from_))).take (32 * j)) := ⟨_, rfl⟩
      have hTs : T.size ≤ 128000 := by
        rw [eT, tx_size, List.length_take, List.length_drop, EL.out]; omega
      obtain ⟨S, eS⟩ : ∃ S : ByteArray, S = ⟨sv.toArray⟩ := ⟨_, rfl⟩
      have hSs : S.size = 32 := by rw [eS]; exact (tx_size sv).trans hsv
      have hTS : T ++ S = tx (((eff d).drop (32 * (base + from_))).take (32 * (j + 1))) := by
        rw [hstep, eT, eS]
        apply ByteArray.ext
        simp [tx, ByteArray.data_append]
      have KEY : Hid (RCt base from_ d (.string (T ++ S)) (.int .i64 ((k : Int) + 1)) m) := ⟨j + 1, by omega, by have := EK.out; go_num, by rw [hTS]⟩
      rw [← eT]
      rw [← eS] at RK
      have RKH := Lib.hid RK
      clear hTS hstep eT eS esv hsv RK
      go_wp2_with fail
      refine SZ.out.mono ?_
      rintro e w' ⟨rfl, rfl⟩
      go_wp2_with fail
      refine RKH.out.mono ?_
      rintro e w' ⟨rfl, rfl⟩
      go_wp2_with fail
      exact ⟨KEY.out, by simp [intOf]; omega⟩
    · obtain rfl : j = m := by omega
      have hkt : k = tq := by have := EK.out; have := ETQ.out; omega
      subst hkt
      have hki : ¬ (k : Int) < (k : Int) := by omega
      obtain ⟨T, eT⟩ : ∃ T, T = tx (((eff d).drop (32 * (base + from_))).take (32 * j)) := ⟨_, rfl⟩
      have ET := Lib.hid eT
      rw [← eT]
      clear eT
      go_wp2_with fail
      go_ret
      exact ⟨by rw [ET.out]; rfl, rfl⟩
end Go.Proofs.YthfjaaigncjhlaaGreatDoor

namespace Go.Proofs.YthfjaaigncjhlaaGreatDoor
open Go.RowKit Go.Blk Go.Jn Go.Dk Go.Mp Go.Rf Go.Shelf Go.Apl Go.Opn

set_option maxHeartbeats 4000000 in
set_option maxRecDepth 100000 in
theorem rrecords_any (t : ByteArray) (w : World) (ht : t.size ≤ 1000000) : Calls Tryz.prog 40 #[.string t] w (SplPost (splitL t.data.toList) w) := by
  obtain ⟨R, eR⟩ : ∃ R, R = SplPost (splitL t.data.toList) w := ⟨_, rfl⟩
  rw [← eR]
  have hsz : t.data.toList.length = t.size := by simp
  have FN : Hid (splitL t.data.toList = none → ∀ w', Below w.heap.size w w' → R (.returned (.tuple #[.slice none 0 0, .bool false])) w') := fun h w' hb => by rw [eR, h]; exact ⟨hb, .inl ⟨rfl, rfl⟩⟩
  have FS : Hid (∀ (p : List ByteArray) (v : Value) (w' : World), splitL t.data.toList = some (bys p) → Below w.heap.size w w' → w'.ownsRow w.heap.size 9 1 v p.length (p.flatMap encS) → R (.returned (.tuple #[v, .bool true])) w') := fun p v w' h hb ho => by rw [eR, h]; exact ⟨hb, .inr ⟨p, v, rfl, rfl, ho⟩⟩
  obtain ⟨s, es⟩ : ∃ s, s = t.data.toList := ⟨_, rfl⟩
  have HST : Hid (RSp w s (.string t) (.slice none 0 0) w) := ⟨t, [], rfl, Below.refl _ _, ⟨by simp, .inl ⟨rfl, rfl⟩⟩, by rw [es]; simp [bys], by rw [es, hsz]; simp⟩
  rw [← es] at FN FS hsz
  have HS : Hid (s.length ≤ 1000000) := by show _ ≤ _; omega
  clear eR es hsz
  go_enter Tryz.func40, Tryz.ntmps40
  go_wp2_with fail
  go_loopw [0, 4] (fun x rv wr => RSp w s x rv wr) (fun x _ _ => sizeOf' x)
  case atStart => exact HST.out
  case round =>
    clear HST
    obtain ⟨x, p, rfl, hbr, hown, hsp, hlen⟩ := hrel
    have HBR := Lib.hid hbr
    have HOW := Lib.hid hown
    have HSP := Lib.hid hsp
    have HLN := Lib.hid hlen
    clear hbr hown hsp hlen
    have hx1m : x.size ≤ 1000000 := by have := HLN.out; have := HS.out; omega
    by_cases hx : x.size = 0
    · obtain rfl : x = ⟨#[]⟩ := by
        have h0 : x.data.toList = [] := List.length_eq_zero_iff.1 (by rw [show x.data.toList.length = x.size by simp]; exact hx)
        cases x; simpa using h0
      have F := Lib.hid (FS.out p u4 wr (by rw [HSP.out]; show (some ([] : List (List UInt8))).map _ = _; simp) HBR.out HOW.out)
      go_wp2_with fail
      exact F.out
    · have hne : x.data.toList ≠ [] := fun h => hx (by rw [← show x.data.toList.length = x.size by simp, h]; rfl)
      have hpos : (0 : Int) < (x.size : Int) := by omega
      have ST := split_step hne
      rw [show x.data.toList.length = x.size by simp] at ST
      by_cases h4 : x.size < 4
      · have F := Lib.hid (FN.out (by rw [HSP.out, ST, if_pos h4]; rfl) wr HBR.out)
        have c1 : (x.size : Int) < 4 := by omega
        clear ST
        go_wp2_with fail
        exact F.out
      · rw [if_neg h4] at ST
        have c1 : ¬ (x.size : Int) < 4 := by omega
        have z4 : (4 : Int) ≤ (x.size : Int) := by omega
        have e1 : (x.extract 0 4).data.toList = x.data.toList.take 4 := by simp
        have Q1 : Hid (∀ w, Calls Tryz.prog 67 #[.string (x.extract 0 4)] w (DigPost (digsL (x.data.toList.take 4)) w)) := fun w => by rw [← e1]; exact rnumber_any _ w (by rw [ByteArray.size_extract]; omega)
        have ST := Lib.hid ST
        clear e1
        go_wp2_with fail
        refine (Q1.out _).mono ?_
        rintro e w' ⟨rfl, ⟨h1, rfl⟩ | ⟨n, h1, rfl⟩⟩
        · have F := Lib.hid (FN.out (by rw [HSP.out, ST.out, h1]; rfl) wr HBR.out)
          go_wp2_with fail
          exact F.out
        · have ST2 := ST.out
          rw [h1] at ST2
          simp only at ST2
          have hn4 : n < 10000 := by
            have := digsGo_lt _ 0 n 0 h1 (by decide)
            have hl : (x.data.toList.take 4).length = 4 := by rw [List.length_take, show x.data.toList.length = x.size by simp]; omega
            rw [hl] at this; exact this
          have w4 : IntKind.i64.wrap (4 + (n : Int)) = 4 + (n : Int) := by rw [IntWalk.i64_left, IntWalk.wrap64_in _ ⟨by omega, by omega⟩]
          by_cases hn : n ≤ 2000
          · have c2 : ¬ (2000 : Int) < (n : Int) := by omega
            by_cases hm : n ≤ x.size - 4
            · have c3 : ¬ (x.size : Int) < 4 + (n : Int) := by omega
              have c5 : 4 + (n : Int) ≤ (x.size : Int) := by omega
              have c6 : (4 : Int) ≤ 4 + (n : Int) := by omega
              have c7 : (0 : Int) ≤ 4 + (n : Int) := by omega
              have c8 : (4 + (n : Int)).toNat = 4 + n := by omega
              rw [if_neg (by omega)] at ST2
              clear ST Q1 FN FS
              obtain ⟨i0, hi, hz0, hz1, hz2⟩ := info_parts infoStr
              have HI := Lib.hid hi
              have HZ0 := Lib.hid hz0
              have HZ1 := Lib.hid hz1
              have HZ2 := Lib.hid hz2
              have ST3 := Lib.hid ST2
              clear hi hz0 hz1 hz2 ST2
              go_wp2_with (at_builtin; refine wpList_append_list (ec := encS) rfl (.tmp 32) (.tmp 37) 30 rfl w.heap.size 9 i0 _ 16 Tryz.underlying30 HI.out HZ0.out HZ1.out HZ2.out rfl (by decide) encS_len encS_one u4 p.length (p.flatMap encS) rfl (HOW.out.alloc _) (some ⟨wr.heap.size, 0, none⟩) 1 [x.extract 4 (4 + n)] rfl (sl_of_cells encS_len (heap_alloc_new _ _) (fun j u hu => by simpa [encS] using hu)) (by have := HLN.out; have := HS.out; have : maxLen = 9223372036854775807 := rfl; simp; omega) (by have := HLN.out; have := HS.out; simp; omega) (by have := HBR.out.size; simp; omega) ?_)
              intro v2 w2 hown2 hg2 _
              have HB2 : Hid (Below w.heap.size w w2) := (HBR.out.alloc HBR.out.size _).grown hg2 (by have := HBR.out.size; simp; omega) (fun j e => (HOW.out.lt j e).1)
              have HOWN := Lib.hid hown2
              clear hown2 hg2
              go_wp2_with fail
              have zd : (x.extract (4 + n) x.size).data.toList = x.data.toList.drop (4 + n) := by
                rw [ext_list]; exact List.take_of_length_le (by simp)
              have zt : (x.extract 4 (4 + n)).data.toList = (x.data.toList.drop 4).take n := by rw [ext_list]; congr 1; omega
              have zs : (x.extract (4 + n) x.size).size = x.size - (4 + n) := by rw [ByteArray.size_extract]; omega
              refine ⟨⟨x.extract (4 + n) x.size, p ++ [x.extract 4 (4 + n)], rfl, HB2.out, ?_, ?_, ?_⟩, ?_⟩
              · rw [List.length_append, List.flatMap_append]; exact HOWN.out
              · rw [HSP.out, ST3.out, zd]
                cases splitL (x.data.toList.drop (4 + n)) with
                | none => rfl
                | some r => simp only [Option.map_some, bys, List.map_append, List.map_cons, List.map_nil, zt, List.append_assoc, List.cons_append, List.nil_append]
              · have := HLN.out
                rw [List.length_append, zs]; simp; omega
              · show (x.extract (4 + n) x.size).size < x.size
                rw [zs]; omega
            · have F := Lib.hid (FN.out (by rw [HSP.out, ST2, if_pos (by omega)]; rfl) wr HBR.out)
              have c3 : (x.size : Int) < 4 + (n : Int) := by omega
              clear ST2
              go_wp2_with fail
              exact F.out
          · have F := Lib.hid (FN.out (by rw [HSP.out, ST2, if_pos (by omega)]; rfl) wr HBR.out)
            have c2 : (2000 : Int) < (n : Int) := by omega
            clear ST2
            go_wp2_with fail
            exact F.out
theorem run_cat (s t : ByteArray) (h : s.size + t.size ≤ 9223372036854775807) (W : World) : (binOp .add 9 (.string s) (.string t)).run Tryz.prog W = .ok (.string (s ++ t)) W := by
  have h2 : ¬ 9223372036854775807 < s.size + t.size := by omega
  go_simp <;> rfl
theorem exec_cat {o : Oper} {ρ : Operand → Value} {w : World} {a b : Operand} {s t : ByteArray} (ho : o.op = .binOp .add 9 a b 9) (ha : ρ a = .string s) (hb : ρ b = .string t) (h : s.size + t.size ≤ 9223372036854775807) :
    (execOp ρ o).run Tryz.prog w = .ok (.value (.string (s ++ t))) w := by
  have hg : (eqGuard .add 9 a b (.string s) (.string t)).run Tryz.prog w = .ok () w := by
    unfold eqGuard
    simp
  unfold execOp
  simp only [ho, ha, hb, Sem.run_bind, hg, Result.andThen_ok, run_cat s t h, Sem.run_pure]
def RFm (w : World) (l : List ByteArray) (v i : Value) (wr : World) : Prop := ∃ k : Nat, k ≤ l.length ∧ i = .int .i64 (k : Int) ∧ v = .string (tx (framesL (recsOf (l.take k)))) ∧ Below w.heap.size w wr
set_option maxHeartbeats 1000000 in
set_option maxRecDepth 100000 in
theorem rframes_any (A : Option Addr) (c : Nat) (l : List ByteArray) (w : World) (h : SL w 1 encS A l) (hl : l.length ≤ 1000000) (hz : ∀ x ∈ l, x.size ≤ 2000) :
    Calls Tryz.prog 52 #[.slice A l.length c] w fun e w' => e = .returned (.string (tx (framesL (recsOf l)))) ∧ Below w.heap.size w w' := by
  have HST : Hid (RFm w l (.string ⟨#[]⟩) (.int .i64 0) w) := ⟨0, Nat.zero_le _, rfl, rfl, Below.refl _ _⟩
  have HS := Lib.hid h
  have HZ := Lib.hid hz
  have HLT : Hid (∀ k, (framesL (recsOf (l.take k))).length ≤ 2004 * l.length) := fun k => by
    have h1 := framesL_len (recsOf (l.take k)) (by
      intro b hb
      unfold recsOf at hb
      obtain ⟨y, hy, rfl⟩ := List.mem_map.1 hb
      have := hz y (List.mem_of_mem_take hy)
      simpa using this)
    have h2 := roomL_few (m := 2000) (recsOf (l.take k)) (by
      intro b hb
      unfold recsOf at hb
      obtain ⟨y, hy, rfl⟩ := List.mem_map.1 hb
      have := hz y (List.mem_of_mem_take hy)
      simpa using this)
    rw [recsOf_len, List.length_take] at h2
    omega
  clear h hz
  go_enter Tryz.func52, Tryz.ntmps52
  go_wp2_with fail
  go_loopw [3, 4] (fun v i wr => RFm w l v i wr) (fun _ i _ => l.length - (intOf i).toNat)
  case atStart => exact HST.out
  case round =>
    clear HST
    obtain ⟨k, hk, rfl, rfl, hb⟩ := hrel
    by_cases hlt : k < l.length
    · obtain ⟨x, hx⟩ : ∃ x, l[k]? = some x := ⟨_, List.getElem?_eq_getElem hlt⟩
      obtain ⟨b1, o1, rfl, hc⟩ := (HS.out.below hb (Nat.le_refl _)).at_ hx
      have d0 := hc 0 (.string x) rfl
      simp only [Nat.mul_one, Nat.add_zero] at d0
      have hxz := HZ.out x (List.mem_of_getElem? hx)
      have hki : (k : Int) < (l.length : Int) := by omega
      have k0 : (0 : Int) ≤ (k : Int) := by omega
      have DG := Lib.hid (fun w' => (rdigits_any 4 x.size w' (by decide) (by decide) (by omega) (by omega)).mono fun e w2 (h : e = .returned (.string (tx (padL 4 x.size))) ∧ w' = w2) => (⟨h.1, by rw [← h.2]; exact Below.refl _ _⟩ : e = .returned (.string (tx (padL 4 x.size))) ∧ Below w'.heap.size w' w2))
      have hfr := framesL_take hx
      have hlen0 := HLT.out k
      have hpl : (tx (padL 4 x.size)).size = 4 := by rw [tx_size]; exact padL_len (by decide) (by omega)
      obtain ⟨T, eT⟩ : ∃ T, T = tx (framesL (recsOf (l.take k))) := ⟨_, rfl⟩
      obtain ⟨P, eP⟩ : ∃ P, P = tx (padL 4 x.size) := ⟨_, rfl⟩
      have hTs : T.size ≤ 2004000000 := by rw [eT, tx_size]; omega
      have hnew : T ++ P ++ x = tx (framesL (recsOf (l.take (k + 1)))) := by
        rw [hfr, eT, eP]
        apply ByteArray.ext
        unfold frameL
        simp [tx, ByteArray.data_append]
      rw [← eP] at DG hpl
      rw [← eT]
      have KEY : Hid (∀ w', Below wr.heap.size wr w' → RFm w l (.string (T ++ P ++ x)) (.int .i64 ((k : Int) + 1)) w') := fun w' h => ⟨k + 1, by omega, by go_num, by rw [hnew], hb.trans (h.mono hb.size)⟩
      have HB := Lib.hid hb
      have hTP : (T ++ P).size = T.size + 4 := by rw [ByteArray.size_append, hpl]
      clear hfr hlen0 eT eP hnew hc hx hb
      go_wp2_with fail
      refine Free.wp_region_free 14 [(6, .det (.string P))] (fun y => Below wr.heap.size wr y ∧ y.cell? ⟨b1, o1 + k, none⟩ = some (.string x)) (by kernel_rfl) (by kernel_rfl) (Free.mono_det (fun j mk r hf => by simp only [Free.find] at hf; repeat' (first | cases hf | split at hf))) ⟨(Below.refl _ _).drew, d0⟩ (fun _ _ h g => ⟨h.1.trans (Below.mono g h.1.size), cell_grow' h.2 g⟩) ?_
      simp only [List.take_succ_cons, List.take_zero]
      clear d0
      iterate 6 (apply Free.chain_still (by first | exact Free.wanted_of rfl rfl rfl | rfl) rfl; (intro w' hB hA; obtain ⟨qB, q0⟩ := hB; clear hA  qB; go_light; go_simp <;> rfl); (try simp only [Act.put, List.setIfInBounds_toArray, List.set_cons_succ, List.set_cons_zero]))
      apply Free.chain_det (by first | exact Free.wanted_of rfl rfl rfl | rfl) rfl
      · intro w' hB hA
        refine Free.opRun_call (f := 48) (args := #[.int .i64 (x.size : Int), .int .i64 4]) (by clear hB hA; go_simp <;> rfl) ?_
        refine (DG.out w').mono ?_
        rintro e w3 ⟨rfl, hb3⟩
        exact ⟨_, rfl, hb3, rfl⟩
      simp only [Act.put, List.setIfInBounds_toArray, List.set_cons_succ, List.set_cons_zero]
      apply Free.chain_still (by first | exact Free.wanted_of rfl rfl rfl | rfl) rfl
      · intro w' hB hA
        exact exec_cat rfl rfl rfl (by omega)
      simp only [Act.put, List.setIfInBounds_toArray, List.set_cons_succ, List.set_cons_zero]
      iterate 4 (apply Free.chain_still (by first | exact Free.wanted_of rfl rfl rfl | rfl) rfl; (intro w' hB hA; obtain ⟨qB, q0⟩ := hB; clear hA  qB; go_light; go_simp <;> rfl); (try simp only [Act.put, List.setIfInBounds_toArray, List.set_cons_succ, List.set_cons_zero]))
      apply Free.chain_still (by first | exact Free.wanted_of rfl rfl rfl | rfl) rfl
      · intro w' hB hA
        exact exec_cat rfl rfl rfl (by rw [hTP]; omega)
      simp only [Act.put, List.setIfInBounds_toArray, List.set_cons_succ, List.set_cons_zero]
      iterate 1 (apply Free.chain_still (by first | exact Free.wanted_of rfl rfl rfl | rfl) rfl; (intro w' hB hA; obtain ⟨qB, q0⟩ := hB; clear hA  qB; go_light; go_simp <;> rfl); (try simp only [Act.put, List.setIfInBounds_toArray, List.set_cons_succ, List.set_cons_zero]))
      apply Free.chain_nil
      intro wy hBz _ _
      simp only [List.drop_succ_cons, List.drop_zero]
      have KEY := Lib.hid (KEY.out wy hBz.1)
      clear hBz DG
      go_wp2_with fail
      go_roundw
      case rel =>
        go_light
        have key := KEY.out
        first | exact key | ((repeat apply Exists.intro); exact ⟨key, rfl⟩)
      case measure => simp [intOf]; omega
    · obtain rfl : k = l.length := by omega
      have hki : ¬ (l.length : Int) < (l.length : Int) := by omega
      rw [List.take_length]
      obtain ⟨T, eT⟩ : ∃ T, T = tx (framesL (recsOf l)) := ⟨_, rfl⟩
      have ET := Lib.hid eT
      have HB := Lib.hid hb
      rw [← eT]
      clear eT hb
      go_wp2_with fail
      go_ret
      exact ⟨by rw [ET.out]; rfl, HB.out⟩
end Go.Proofs.YthfjaaigncjhlaaGreatDoor

namespace Go.Proofs.YthfjaaigncjhlaaGreatDoor
open Go.RowKit Go.Blk Go.Jn Go.Dk Go.Mp Go.Rf Go.Shelf Go.Apl Go.Opn

def cellsK (v : Nat × Nat × Nat) (a n b : Nat) (rv : Value) (br : Bool) : List Value :=
  [.pointer (some ⟨b, 0, none⟩), .int .i64 (n : Int), .int .i64 (a : Int), .int .i64 (v.1 : Int), .int .i64 (v.2.1 : Int), .int .i64 (v.2.2 : Int), rv, .bool br]
section
variable {w w' : World} {rb b bs cp n : Nat} {pv rv : Value} {d d1 d2 : DD}
/-- No block of the reference's disk is a block of another type. -/
theorem rnotFp {x : Nat} {cs : List Value} {T : TypeId} (h : RDAt w b bs cp pv d n) (hx : Blk w x cs T) (h1 : T ≠ 57) (h2 : T ≠ 9) (h3 : T ≠ 89) : ¬ RFp b bs pv x := by
  rintro (rfl | rfl | e)
  · have := h.blk.symm.trans hx
    simp at this
    exact h1 this.2.symm
  · obtain ⟨cs2, h4⟩ := h.bsblk
    have := h4.symm.trans hx
    simp at this
    exact h2 this.2.symm
  · exact row_ne h.pend hx (Ne.symm h3) e
/-- From a world on, the reference's disk, and other blocks as they were. -/
def RkTo (w : World) (b bs cp n : Nat) (pv : Value) (d : DD) (w' : World) : Prop :=
  ∃ pv', RDAt w' b bs cp pv' d n ∧ Keep (RFp b bs pv) w w' ∧ (∀ k, pv'.ownBlock = some k → pv.ownBlock = some k ∨ w.heap.size ≤ k)
theorem RkTo.refl (h : RDAt w b bs cp pv d n) : RkTo w b bs cp n pv d w := ⟨pv, h, Keep.refl _ _, fun _ h => .inl h⟩
theorem RkTo.next {w1 w2 : World} {pv1 v : Value} {e : Ending} (h : Keep (RFp b bs pv) w w1) (hv : ∀ k, pv1.ownBlock = some k → pv.ownBlock = some k ∨ w.heap.size ≤ k) (p : RkPost w1 b bs cp n pv1 d v e w2) : e = .returned v ∧ RkTo w b bs cp n pv d w2 := by
  obtain ⟨h1, pv2, h2, h3, h4⟩ := p
  refine ⟨h1, pv2, h2, h.trans h3 ?_, fun k e => ?_⟩
  · rintro k hk (rfl | rfl | e)
    · exact .inl rfl
    · exact .inr (.inl rfl)
    · exact (hv k e).elim (fun h => .inr (.inr h)) (fun h => by omega)
  · rcases h4 k e with h | h
    · exact hv k h
    · exact .inr (Nat.le_trans (by assumption : Keep (RFp b bs pv) w w1).size h)
theorem RkTo.below {w1 : World} (h : RkTo w b bs cp n pv d w1) (hb : Below w1.heap.size w1 w') : RkTo w b bs cp n pv d w' := by
  obtain ⟨pv1, h1, h2, h3⟩ := h
  exact ⟨pv1, h1.below hb, h2.trans (Keep.of_below (F := fun _ => False) hb) (fun _ _ f => f.elim), h3⟩
theorem RkTo.blk {w1 : World} {x : Nat} {cs : List Value} {T : TypeId} (h : RkTo w b bs cp n pv d1 w1) (hd : RDAt w b bs cp pv d n) (hx : Blk w x cs T) (h1 : T ≠ 57) (h2 : T ≠ 9) (h3 : T ≠ 89) : Blk w1 x cs T := by
  obtain ⟨_, _, hk, _⟩ := h
  exact hx.keepB (hk.block x hx.lt (rnotFp hd hx h1 h2 h3))
theorem RkTo.size {w1 : World} (h : RkTo w b bs cp n pv d w1) : w.heap.size ≤ w1.heap.size := by obtain ⟨_, _, hk, _⟩ := h; exact hk.size
theorem rk_write {w1 : World} (h : RkTo w b bs cp n pv d w1) (s : Int) (t : ByteArray) (hf : d.pend.length < 1000000) : Calls Tryz.prog 25 #[.pointer (some ⟨b, 0, none⟩), .int .i64 s, .string t] w1 fun e w' => e = .returned (.int .i64 (DD.write n d s t.data.toList).2) ∧ RkTo w b bs cp n pv (DD.write n d s t.data.toList).1 w' := by
  obtain ⟨pv1, h1, h2, h3⟩ := h
  exact (rwrite_any h1 s t hf).mono fun e w' p => RkTo.next h2 h3 p
theorem rk_sync {w1 : World} (h : RkTo w b bs cp n pv d w1) : Calls Tryz.prog 27 #[.pointer (some ⟨b, 0, none⟩)] w1 fun e w' => e = .returned (.int .i64 d.sync.2) ∧ RkTo w b bs cp n pv d.sync.1 w' := by
  obtain ⟨pv1, h1, h2, h3⟩ := h
  exact (rsync_any h1).mono fun e w' p => RkTo.next h2 h3 p
set_option maxRecDepth 100000 in
set_option maxHeartbeats 1000000 in
theorem rput_any {a : Nat} {v : Nat × Nat × Nat} {br : Bool} (hd : RDAt w b bs cp pv d n) {w1 : World} (h : RkTo w b bs cp n pv d1 w1) (hj : Blk w rb (cellsK v a n b rv br) 73) (ha : a ≤ 1) (t : List UInt8) (hf : d1.pend.length < 1000000) :
    Calls Tryz.prog 78 #[.pointer (some ⟨rb, 0, none⟩), .string (tx t)] w1 fun e w' => e = .returned (.int .i64 (putD n (1 - a) t d1).2) ∧ RkTo w b bs cp n pv (putD n (1 - a) t d1).1 w' := by
  obtain ⟨R, eR⟩ : ∃ R : Ending → World → Prop, R = fun e w' => e = .returned (.int .i64 (putD n (1 - a) t d1).2) ∧ RkTo w b bs cp n pv (putD n (1 - a) t d1).1 w' := ⟨_, rfl⟩
  rw [← eR]
  have hb1 := h.blk hd hj (by decide) (by decide) (by decide)
  have c0 := hb1.cellD 0 _ rfl
  have c2 := hb1.cellD 2 _ rfl
  obtain ⟨q, eq⟩ : ∃ q, q = 1 - a := ⟨_, rfl⟩
  have w2 : IntKind.i64.wrap (1 - (a : Int)) = (q : Int) := by rw [IntWalk.i64_left, IntWalk.wrap64_in _ ⟨by omega, by omega⟩]; omega
  rw [← eq] at eR
  have WR := Lib.hid (fun (w' : World) (hb : Below w1.heap.size w1 w') => rk_write (h.below hb) (q : Int) (tx t) hf)
  have CJ : Hid (∀ w' d', RkTo w b bs cp n pv d' w' → w'.cell? ⟨rb, 0, none⟩ = some (.pointer (some ⟨b, 0, none⟩))) := fun w' d' h' => (h'.blk hd hj (by decide) (by decide) (by decide)).cellD 0 _ rfl
  have htx : (tx t).data.toList = t := by simp [tx]
  rw [htx] at WR
  have ER := Lib.hid eR
  obtain ⟨T, eT⟩ : ∃ T, T = tx t := ⟨_, rfl⟩
  rw [← eT] at WR ⊢
  obtain ⟨r, er⟩ : ∃ r, r = DD.write n d1 (q : Int) t := ⟨_, rfl⟩
  rw [← er] at WR
  have hP : putD n q t d1 = if r.2 = 0 then r.1.sync else r := by rw [er]; rfl
  rw [hP] at ER
  clear eR hb1 eq htx eT er hP hd hj h
  go_enter Tryz.func78, Tryz.ntmps78
  go_wp2_with fail
  refine Free.wp_region_free 10 [] (fun y => Below w1.heap.size w1 y ∧ y.cell? ⟨rb, 0, none⟩ = some (.pointer (some ⟨b, 0, none⟩)) ∧ y.cell? ⟨rb, 2, none⟩ = some (.int .i64 (a : Int))) (by kernel_rfl) (by kernel_rfl) (Free.mono_det (fun j mk r hf => by simp only [Free.find] at hf; repeat' (first | cases hf | split at hf))) ⟨(Below.refl _ _).drew, c0, c2⟩ (fun _ _ h g => ⟨h.1.trans (Below.mono g h.1.size), cell_grow' h.2.1 g, cell_grow' h.2.2 g⟩) ?_
  simp only [List.take_succ_cons, List.take_zero]
  clear c0 c2
  iterate 10 (apply Free.chain_still (by first | exact Free.wanted_of rfl rfl rfl | rfl) rfl; (intro w' hB hA; obtain ⟨qB, r0, r2⟩ := hB; clear hA  qB; go_light; go_simp <;> rfl); (try simp only [Act.put, List.setIfInBounds_toArray, List.set_cons_succ, List.set_cons_zero]))
  apply Free.chain_nil
  intro wy hBz _ _
  simp only [List.drop_succ_cons, List.drop_zero]
  have WRH := Lib.hid (WR.out wy hBz.1)
  clear WR hBz
  go_wp2_with fail
  refine WRH.out.mono ?_
  rintro e w3 ⟨rfl, h3⟩
  have c0 := CJ.out w3 _ h3
  by_cases hc : r.2 = 0
  · have hc1 : (r.2 == 0) = true := by simpa using hc
    have SY := Lib.hid (rk_sync h3)
    rw [if_pos hc] at ER
    clear WRH h3
    go_wp2_with fail
    refine SY.out.mono ?_
    rintro e w4 ⟨rfl, h4⟩
    have G : Hid (R (.returned (.int .i64 r.1.sync.2)) w4) := by rw [ER.out]; exact ⟨rfl, h4⟩
    clear SY h4
    go_wp2_with fail
    first
      | exact G.out
      | (go_ret; exact G.out)
  · have hc1 : (r.2 == 0) = false := by simpa using hc
    rw [if_neg hc] at ER
    have G : Hid (R (.returned (.int .i64 r.2)) w3) := by rw [ER.out]; exact ⟨rfl, h3⟩
    clear WRH h3
    go_wp2_with fail
    first
      | exact G.out
      | (go_ret; exact G.out)
end
end Go.Proofs.YthfjaaigncjhlaaGreatDoor

namespace Go.Jn
open Go Go.Dk
/-- Writes, and then a Sync. -/
def wrGo (n : Nat) : List (Nat × List UInt8) → DD → DD × Int
  | [], d => d.sync
  | x :: r, d => if (DD.write n d (x.1 : Int) x.2).2 = 0 then wrGo n r (DD.write n d (x.1 : Int) x.2).1 else DD.write n d (x.1 : Int) x.2
theorem write_zero {n s : Nat} {d : DD} {t : List UInt8} (hon : d.on = true) (hs : s < n) (ht : t.length = 32) (h : (DD.write n d (s : Int) t).2 = 0) : (DD.write n d (s : Int) t).1.on = true ∧ (DD.write n d (s : Int) t).1.pend = d.pend ++ [(s, t)] ∧ (DD.write n d (s : Int) t).1.st = d.st := by
  have hw : DD.write n d (s : Int) t = if d.failsB then ((d.push s t).fail d.writes d.bytes, 21) else ((d.push s t).tick, 0) := by
    unfold DD.write
    rw [if_pos hon, if_pos ⟨has_yes hs, ht⟩]
  rw [hw] at h ⊢
  cases hf : d.failsB with
  | true => rw [hf] at h; exact absurd h (by simp)
  | false =>
    rw [if_neg (by simp)]
    have h1 : (d.push (s : Int) t).tick.pend = (d.push (s : Int) t).pend := by unfold DD.tick; split <;> rfl
    have h2 : (d.push (s : Int) t).tick.st = d.st := by unfold DD.tick; split <;> rfl
    have h3 : (d.push (s : Int) t).tick.on = d.on := by unfold DD.tick; split <;> rfl
    refine ⟨h3.trans hon, ?_, h2⟩
    show (d.push (s : Int) t).tick.pend = _
    rw [h1]
    unfold DD.push
    rw [Int.toNat_natCast]
theorem storeGo_wr {n base off : Nat} {text : List UInt8} : ∀ (ks : List Nat) (d d0 : DD), d.Ok n → d0.Ok n → d.on = true → d0.on = true → ks.Nodup → (∀ k ∈ ks, base + k < n) → (∀ k ∈ ks, sec (eff d) (base + k) = sec (eff d0) (base + k)) → d.pend.length + ks.length < 1000000 →
    storeGo n base off text ks d = wrGo n (ks.map (fun k => (base + k, patch (sec (eff d0) (base + k)) (32 * k) off text))) d
  | [], d, d0, _, _, _, _, _, _, _, _ => rfl
  | k :: r, d, d0, hok, hok0, hon, hon0, hnd, hks, hsec, hf => by
    have hk : base + k < n := hks k (by simp)
    have hr := read_eff hok hon hk
    obtain ⟨hn1, hn2⟩ := List.nodup_cons.1 hnd
    simp only [List.length_cons] at hf
    unfold storeGo
    rw [List.map_cons]
    unfold wrGo
    rw [hr, hsec k (by simp)]
    simp only [if_true]
    obtain ⟨t, et⟩ : ∃ t, t = patch (sec (eff d0) (base + k)) (32 * k) off text := ⟨_, rfl⟩
    have htl : t.length = 32 := by rw [et, patch_len]; exact sec_len (by rw [eff_len hok0]; omega)
    rw [← et]
    by_cases hc : (DD.write n d ((base + k : Nat) : Int) t).2 = 0
    · rw [if_pos hc, if_pos hc]
      obtain ⟨h1, h2, h3⟩ := write_zero hon hk htl hc
      have hok2 : (DD.write n d ((base + k : Nat) : Int) t).1.Ok n := by
        unfold DD.write
        rw [if_pos hon, if_pos ⟨has_yes hk, htl⟩]
        split
        · exact (hok.push (has_yes hk) htl (by omega)).fail _ _
        · exact (hok.push (has_yes hk) htl (by omega)).tick
      refine storeGo_wr r _ d0 hok2 hok0 h1 hon0 hn2 (fun j hj => hks j (by simp [hj])) (fun j hj => ?_) (by rw [h2]; simp; omega)
      have hne : j ≠ k := fun e => hn1 (e ▸ hj)
      have hjn := hks j (by simp [hj])
      rw [← hsec j (by simp [hj])]
      unfold eff
      rw [h2, h3, allW_snoc]
      have hl := allW_len hok.len _ (DD.Ok.secs hok)
      exact sec_splice_other (by show 32 * (base + k) + t.length ≤ _; omega) (by show 32 * (base + j) + 32 ≤ 32 * (base + k) ∨ 32 * (base + k) + t.length ≤ 32 * (base + j); omega)
    · rw [if_neg hc, if_neg hc]
/-- The pieces of a text patched into the bytes of some sectors. -/
theorem piece {st text : List UInt8} {base from_ m off k : Nat} (hl : 32 * (base + from_ + m) ≤ st.length) (h1 : 32 * from_ ≤ off) (h2 : off + text.length ≤ 32 * (from_ + m)) (hk : k < m) :
    patch (sec st (base + (from_ + k))) (32 * (from_ + k)) off text = (((((st.drop (32 * (base + from_))).take (32 * m)).take (off - 32 * from_) ++ text) ++ ((st.drop (32 * (base + from_))).take (32 * m)).drop (off - 32 * from_ + text.length)).drop (32 * k)).take 32 := by
  have hA : ((st.drop (32 * (base + from_))).take (32 * m)).length = 32 * m := by rw [List.length_take, List.length_drop]; omega
  apply List.ext_getElem?
  intro i
  by_cases hi : i < 32
  · rw [patch_at _ _ _ _ _ (by rw [sec_len (by omega)]; exact hi), List.getElem?_take, if_pos hi, List.getElem?_drop]
    by_cases c1 : off ≤ 32 * (from_ + k) + i
    · by_cases c2 : 32 * (from_ + k) + i < off + text.length
      · rw [if_pos ⟨c1, c2⟩, List.getElem?_append_left (by rw [List.length_append, List.length_take, hA]; omega), List.getElem?_append_right (by rw [List.length_take, hA]; omega), List.length_take, hA]
        congr 1; omega
      · rw [if_neg (by omega), List.getElem?_append_right (by rw [List.length_append, List.length_take, hA]; omega), List.getElem?_drop, List.length_append, List.length_take, hA, List.getElem?_take, if_pos (by omega), List.getElem?_drop, sec_at hi]
        congr 1; omega
    · rw [if_neg (by omega), List.getElem?_append_left (by rw [List.length_append, List.length_take, hA]; omega), List.getElem?_append_left (by rw [List.length_take, hA]; omega), List.getElem?_take, if_pos (by omega), List.getElem?_take, if_pos (by omega), List.getElem?_drop, sec_at hi]
      congr 1; omega
  · rw [List.getElem?_eq_none (by rw [patch_len, sec_len (by omega)]; omega), List.getElem?_eq_none (by rw [List.length_take]; omega)]
/-- The text that is written, and its pieces. -/
def allL (st : List UInt8) (base from_ m off : Nat) (text : List UInt8) : List UInt8 := (((st.drop (32 * (base + from_))).take (32 * m)).take (off - 32 * from_) ++ text) ++ ((st.drop (32 * (base + from_))).take (32 * m)).drop (off - 32 * from_ + text.length)
def pieces (B : List UInt8) (b0 m : Nat) : List (Nat × List UInt8) := (List.range m).map (fun k => (b0 + k, (B.drop (32 * k)).take 32))
theorem allL_len {st text : List UInt8} {base from_ m off : Nat} (hl : 32 * (base + from_ + m) ≤ st.length) (h1 : 32 * from_ ≤ off) (h2 : off + text.length ≤ 32 * (from_ + m)) : (allL st base from_ m off text).length = 32 * m := by
  have hA : ((st.drop (32 * (base + from_))).take (32 * m)).length = 32 * m := by rw [List.length_take, List.length_drop]; omega
  unfold allL
  rw [List.length_append, List.length_append, List.length_take, List.length_drop, hA]; omega
theorem storeD_wr {n base off : Nat} {text : List UInt8} {d : DD} (hok : d.Ok n) (hon : d.on = true) (ht : text ≠ []) (hb : base + (off + text.length + 31) / 32 ≤ n) (hf : d.pend.length ≤ 900000) :
    storeD n base off text d = wrGo n (pieces (allL (eff d) base (off / 32) ((off + text.length + 31) / 32 - off / 32) off text) (base + off / 32) ((off + text.length + 31) / 32 - off / 32)) d := by
  have hn2 := hok.n2
  have hlen := eff_len hok
  have hpos := List.length_pos_iff.2 ht
  obtain ⟨f, ef⟩ : ∃ f, f = off / 32 := ⟨_, rfl⟩
  obtain ⟨m, em⟩ : ∃ m, m = (off + text.length + 31) / 32 - f := ⟨_, rfl⟩
  unfold storeD
  rw [if_neg ht]
  unfold ksOf
  rw [← ef, ← em]
  rw [storeGo_wr (List.range' f m) d d hok hok hon hon (List.nodup_range') (fun k hk => by rw [List.mem_range'_1] at hk; omega) (fun k hk => rfl) (by rw [List.length_range']; omega)]
  congr 1
  unfold pieces
  rw [List.range'_eq_map_range, List.map_map]
  apply List.map_congr_left
  intro k hk
  rw [List.mem_range] at hk
  show (base + (f + k), _) = (base + f + k, _)
  rw [piece (m := m) (by omega) (by omega) (by omega) hk, Nat.add_assoc]
  rfl
theorem pieces_at {B : List UInt8} {b0 m k : Nat} (h : k < m) : (pieces B b0 m).drop k = (b0 + k, (B.drop (32 * k)).take 32) :: (pieces B b0 m).drop (k + 1) := by
  have hl : (pieces B b0 m).length = m := by unfold pieces; simp
  rw [List.drop_eq_getElem_cons (by rw [hl]; exact h)]
  congr 1
  unfold pieces
  simp
theorem pieces_len {B : List UInt8} {b0 m : Nat} : (pieces B b0 m).length = m := by unfold pieces; simp
end Go.Jn

namespace Go.Proofs.YthfjaaigncjhlaaGreatDoor
open Go.RowKit Go.Blk Go.Jn Go.Dk Go.Mp Go.Rf Go.Shelf Go.Apl Go.Opn

theorem patch_text {AL text : List UInt8} {o M : Nat} (hA : AL.length = M) : (tx AL).extract 0 o ++ tx text ++ (tx AL).extract (o + text.length) M = tx ((AL.take o ++ text) ++ AL.drop (o + text.length)) := by
  apply ByteArray.ext
  apply Array.ext'
  simp only [tx, ByteArray.data_append, ByteArray.data_extract, Array.toList_append, Array.toList_extract, List.extract_eq_take_drop]
  simp only [List.drop_zero, Nat.sub_zero]
  congr 1
  exact List.take_of_length_le (by rw [List.length_drop]; omega)
def RSw (w : World) (b bs cp n m : Nat) (pv : Value) (d : DD) (L : List (Nat × List UInt8)) (vi : Value) (wr : World) : Prop :=
  ∃ (k : Nat) (d' : DD), vi = .int .i64 (k : Int) ∧ k ≤ m ∧ RkTo w b bs cp n pv d' wr ∧ d'.on = true ∧ d'.pend.length ≤ d.pend.length + k ∧ wrGo n (L.drop k) d' = wrGo n L d
set_option maxRecDepth 100000 in
set_option maxHeartbeats 1000000 in
theorem rstore_any {w : World} {rb b bs cp n a hf off : Nat} {pv rv : Value} {br : Bool} {v : Nat × Nat × Nat} {d : DD} {text : List UInt8} (hd : RDAt w b bs cp pv d n) (hon : d.on = true) (hn : 4 ≤ n) (hj : Blk w rb (cellsK v a n b rv br) 73)
    (hh : hf ≤ 1) (hroom : off + text.length ≤ 32 * ((n - 2) / 2)) (hpend : d.pend.length ≤ 900000) :
    Calls Tryz.prog 72 #[.pointer (some ⟨rb, 0, none⟩), .int .i64 (hf : Int), .int .i64 (off : Int), .string (tx text)] w fun e w' => e = .returned (.int .i64 (storeD n (2 + hf * ((n - 2) / 2)) off text d).2) ∧ RkTo w b bs cp n pv (storeD n (2 + hf * ((n - 2) / 2)) off text d).1 w' := by
  have hn2 := hd.ok.n2
  obtain ⟨R, eR⟩ : ∃ R : Ending → World → Prop, R = fun e w' => e = .returned (.int .i64 (storeD n (2 + hf * ((n - 2) / 2)) off text d).2) ∧ RkTo w b bs cp n pv (storeD n (2 + hf * ((n - 2) / 2)) off text d).1 w' := ⟨_, rfl⟩
  rw [← eR]
  by_cases ht : text = []
  · have F : Hid (R (.returned (.int .i64 0)) w) := by
      rw [eR]
      unfold storeD
      rw [if_pos ht]
      exact ⟨rfl, RkTo.refl hd⟩
    have q1 : ((tx text).toList == ([] : List UInt8)) = true := by rw [ht, ByteArray.toList_eq, tx_data]; rfl
    have q2 : (tx text).toList.isEmpty = true := by rw [ht, ByteArray.toList_eq, tx_data]; rfl
    obtain ⟨x, ex⟩ : ∃ x, x = tx text := ⟨_, rfl⟩
    rw [← ex] at q1 q2 ⊢
    clear eR ex ht hd hj
    go_enter Tryz.func72, Tryz.ntmps72
    go_wp2_with fail
    first
      | exact F.out
      | (go_ret; exact F.out)
  · have hne : (tx text).toList ≠ [] := by rw [ByteArray.toList_eq, tx_data]; exact ht
    have q1 : ((tx text).toList == ([] : List UInt8)) = false := by
      cases h : (tx text).toList with
      | nil => exact absurd h hne
      | cons _ _ => rfl
    have q2 : (tx text).toList.isEmpty = false := by
      cases h : (tx text).toList with
      | nil => exact absurd h hne
      | cons _ _ => rfl
    have q3 : ((tx text).toList = []) = False := eq_false hne
    have htl := tx_size text
    have hpos := List.length_pos_iff.2 ht
    obtain ⟨q, eq⟩ : ∃ q, q = (n - 2) / 2 := ⟨_, rfl⟩
    have SZ := Lib.hid (fun w' => (rsize_any n w' hn hn2).mono fun e w2 (h : e = .returned (.int .i64 (((n - 2) / 2 : Nat) : Int)) ∧ w' = w2) => (⟨by rw [eq]; exact h.1, by rw [← h.2]; exact Below.refl _ _⟩ : e = .returned (.int .i64 (q : Int)) ∧ Below w'.heap.size w' w2))
    obtain ⟨p, ep⟩ : ∃ p, p = hf * q := ⟨_, rfl⟩
    have hhq : p ≤ q := by
      have : hf = 0 ∨ hf = 1 := by omega
      rw [ep]
      rcases this with rfl | rfl <;> simp
    obtain ⟨f, ef⟩ : ∃ f, f = off / 32 := ⟨_, rfl⟩
    obtain ⟨fm, efm⟩ : ∃ fm, fm = (off + text.length + 31) / 32 := ⟨_, rfl⟩
    obtain ⟨m, em⟩ : ∃ m, m = fm - f := ⟨_, rfl⟩
    have hfm : fm = f + m := by omega
    rw [← eq] at hroom eR
    have hbase : 2 + p + fm ≤ n := by omega
    have SW := storeD_wr (base := 2 + p) (off := off) hd.ok hon ht (by rw [← efm]; exact hbase) hpend
    rw [← efm, ← ef, ← em] at SW
    rw [← ep, SW] at eR
    have hLL : (allL (eff d) (2 + p) f m off text).length = 32 * m := allL_len (by rw [eff_len hd.ok]; omega) (by omega) (by omega)
    have hAl : (((eff d).drop (32 * (2 + p + f))).take (32 * m)).length = 32 * m := by rw [List.length_take, List.length_drop, eff_len hd.ok]; omega
    have CO := Lib.hid (fun (w' : World) (hb : Below w.heap.size w w') => by
      have := rcontent_any (hd.below hb) hon hn hf f m hh (by rw [← eq]; omega)
      rw [← eq, ← ep, ← hfm] at this
      exact this)
    obtain ⟨A, eA⟩ : ∃ A, A = tx (((eff d).drop (32 * (2 + p + f))).take (32 * m)) := ⟨_, rfl⟩
    have hAs : A.size = 32 * m := by rw [eA, tx_size]; exact hAl
    rw [← eA] at CO
    obtain ⟨o, eo⟩ : ∃ o, o = off - 32 * f := ⟨_, rfl⟩
    obtain ⟨x, ex⟩ : ∃ x, x = tx text := ⟨_, rfl⟩
    have hB : A.extract 0 o ++ x ++ A.extract (o + x.size) (32 * m) = tx (allL (eff d) (2 + p) f m off text) := by
      unfold allL
      rw [eA, ex, tx_size, eo, patch_text hAl]
    rw [← ex] at q1 q2 q3 htl ⊢
    obtain ⟨LL, eLL⟩ : ∃ LL, LL = allL (eff d) (2 + p) f m off text := ⟨_, rfl⟩
    rw [← eLL] at hB hLL eR
    have EX := Lib.hid ex
    have ER := Lib.hid eR
    have HD := Lib.hid hd
    have HJ := Lib.hid hj
    have HLL := Lib.hid hLL
    have HB := Lib.hid hB
    have c0 := hj.cellD 0 _ rfl
    have c1 := hj.cellD 1 _ rfl
    have CJ : Hid (∀ w' d', RkTo w b bs cp n pv d' w' → w'.cell? ⟨rb, 0, none⟩ = some (.pointer (some ⟨b, 0, none⟩)) ∧ w'.cell? ⟨rb, 1, none⟩ = some (.int .i64 (n : Int))) := fun w' d' h' => by
      have hb := h'.blk hd hj (by decide) (by decide) (by decide)
      exact ⟨hb.cellD 0 _ rfl, hb.cellD 1 _ rfl⟩
    have hx1 : x.size ≤ 64000 := by omega
    have ho1 : off ≤ 64000 := by omega
    have hx0 : 1 ≤ x.size := by omega
    have hf4 : f ≤ 2000 := by omega
    have hfm4 : fm ≤ 2000 := by omega
    have hm4 : m ≤ 2000 := by omega
    have hq4 : q ≤ 2000 := by omega
    have hp4 : p ≤ 2000 := by omega
    have t1 : Int.tdiv (off : Int) 32 = (f : Int) := by rw [Int.tdiv_eq_ediv_of_nonneg (by omega)]; omega
    have t2 : (off : Int) / 32 = (f : Int) := by omega
    have t3 : Int.tdiv ((off : Int) + (x.size : Int) + 31) 32 = (fm : Int) := by rw [Int.tdiv_eq_ediv_of_nonneg (by omega)]; omega
    have t4 : ((off : Int) + (x.size : Int) + 31) / 32 = (fm : Int) := by omega
    have w1 : IntKind.i64.wrap ((hf : Int) * (q : Int)) = (p : Int) := by
      rw [IntWalk.i64_left, IntWalk.wrap64_in _ (by rw [← Int.natCast_mul, ← ep]; exact ⟨by omega, by omega⟩), ← Int.natCast_mul, ← ep]
    have u1 : IntKind.i64.wrap ((off : Int) + (x.size : Int)) = (off : Int) + (x.size : Int) := by rw [IntWalk.i64_left, IntWalk.wrap64_in _ ⟨by omega, by omega⟩]
    have u2 : IntKind.i64.wrap ((off : Int) + (x.size : Int) + 31) = (off : Int) + (x.size : Int) + 31 := by rw [IntWalk.i64_left, IntWalk.wrap64_in _ ⟨by omega, by omega⟩]
    have u3 : IntKind.i64.wrap (fm : Int) = (fm : Int) := by rw [IntWalk.i64_left, IntWalk.wrap64_in _ ⟨by omega, by omega⟩]
    have u4 : IntKind.i64.wrap (32 * (f : Int)) = 32 * (f : Int) := by rw [IntWalk.i64_left, IntWalk.wrap64_in _ ⟨by omega, by omega⟩]
    have u5 : IntKind.i64.wrap ((o : Int) + (x.size : Int)) = (o : Int) + (x.size : Int) := by rw [IntWalk.i64_left, IntWalk.wrap64_in _ ⟨by omega, by omega⟩]
    have u6 : ((o : Int) + (x.size : Int)).toNat = o + x.size := by omega
    have u7 : IntKind.i64.wrap (o : Int) = (o : Int) := by rw [IntWalk.i64_left, IntWalk.wrap64_in _ ⟨by omega, by omega⟩]
    have o0 : (0 : Int) ≤ (o : Int) := by omega
    have o1 : (0 : Int) ≤ (o : Int) + (x.size : Int) := by omega
    have v1 : IntKind.i64.wrap (2 + (p : Int)) = 2 + (p : Int) := by rw [IntWalk.i64_left, IntWalk.wrap64_in _ ⟨by omega, by omega⟩]
    have v2 : IntKind.i64.wrap (2 + (p : Int) + (f : Int)) = 2 + (p : Int) + (f : Int) := by rw [IntWalk.i64_left, IntWalk.wrap64_in _ ⟨by omega, by omega⟩]
    have w3 : IntKind.i64.wrap ((off : Int) - 32 * (f : Int)) = (o : Int) := by rw [IntWalk.i64_left, IntWalk.wrap64_in _ ⟨by omega, by omega⟩]; omega
    have w4 : (off : Int) - 32 * (f : Int) = (o : Int) := by omega
    have hob : o + x.size ≤ 32 * m := by omega
    have hoA : (o : Int) ≤ 32 * (m : Int) := by omega
    have hob2 : (o : Int) + (x.size : Int) ≤ 32 * (m : Int) := by omega
    have hsz1 : (A.extract 0 o).size = o := by rw [ByteArray.size_extract, hAs]; omega
    have hsz2 : (A.extract 0 o ++ x).size = o + x.size := by rw [ByteArray.size_append, hsz1]
    have hsz3 : (A.extract (o + x.size) (32 * m)).size ≤ 64000 := by rw [ByteArray.size_extract, hAs]; omega
    have HFMH := Lib.hid hfm
    have HBASE := Lib.hid hbase
    have EO := Lib.hid (And.intro eo (And.intro ef (And.intro htl (And.intro efm em))))
    have HON := Lib.hid hon
    have HPD := Lib.hid hpend
    clear hne ex eR hd ht hj eq ep ef efm em SW hLL hAl eA eo hB eLL hfm hbase hon hpend hroom htl hhq hpos hn2 hh
    go_enter Tryz.func72, Tryz.ntmps72
    go_wp2_with fail
    refine Free.wp_region_free 16 [] (fun y => Below w.heap.size w y ∧ y.cell? ⟨rb, 0, none⟩ = some (.pointer (some ⟨b, 0, none⟩)) ∧ y.cell? ⟨rb, 1, none⟩ = some (.int .i64 (n : Int))) (by kernel_rfl) (by kernel_rfl) (Free.mono_det (fun j mk r hf => by simp only [Free.find] at hf; repeat' (first | cases hf | split at hf))) ⟨(Below.refl _ _).drew, c0, c1⟩ (fun _ _ h g => ⟨h.1.trans (Below.mono g h.1.size), cell_grow' h.2.1 g, cell_grow' h.2.2 g⟩) ?_
    simp only [List.take_succ_cons, List.take_zero]
    clear c0 c1
    iterate 16 (apply Free.chain_still (by first | exact Free.wanted_of rfl rfl rfl | rfl) rfl; (intro w' hB hA; obtain ⟨qB, r0, r1⟩ := hB; clear hA  qB; go_light; go_simp <;> rfl); (try simp only [Act.put, List.setIfInBounds_toArray, List.set_cons_succ, List.set_cons_zero]))
    apply Free.chain_nil
    intro wy hBz _ _
    simp only [List.drop_succ_cons, List.drop_zero]
    have COH := Lib.hid (CO.out wy hBz.1)
    have HBZ := Lib.hid hBz.1
    clear CO hBz
    go_wp2_with fail
    try simp only [t3]
    refine COH.out.mono ?_
    rintro e w' ⟨rfl, rfl⟩
    clear COH
    go_wp2_with fail
    refine Free.wp_region_free 19 [] (fun y => Below wy.heap.size wy y ∧ True) (by kernel_rfl) (by kernel_rfl) (Free.mono_det (fun j mk r hf => by simp only [Free.find] at hf; repeat' (first | cases hf | split at hf))) ⟨(Below.refl _ _).drew, trivial⟩ (fun _ _ h g => ⟨h.1.trans (Below.mono g h.1.size), trivial⟩) ?_
    simp only [List.take_succ_cons, List.take_zero]
    iterate 7 (apply Free.chain_still (by first | exact Free.wanted_of rfl rfl rfl | rfl) rfl; (intro w' hB hA; obtain ⟨qB, _⟩ := hB; clear hA  qB; go_light; go_simp <;> rfl); (try simp only [Act.put, List.setIfInBounds_toArray, List.set_cons_succ, List.set_cons_zero]))
    apply Free.chain_still (by first | exact Free.wanted_of rfl rfl rfl | rfl) rfl
    · intro w' hB hA
      exact exec_cat rfl rfl rfl (by omega)
    simp only [Act.put, List.setIfInBounds_toArray, List.set_cons_succ, List.set_cons_zero]
    iterate 9 (apply Free.chain_still (by first | exact Free.wanted_of rfl rfl rfl | rfl) rfl; (intro w' hB hA; obtain ⟨qB, _⟩ := hB; clear hA  qB; go_light; go_simp <;> rfl); (try simp only [Act.put, List.setIfInBounds_toArray, List.set_cons_succ, List.set_cons_zero]))
    apply Free.chain_still (by first | exact Free.wanted_of rfl rfl rfl | rfl) rfl
    · intro w' hB hA
      exact exec_cat rfl rfl rfl (by omega)
    simp only [Act.put, List.setIfInBounds_toArray, List.set_cons_succ, List.set_cons_zero]
    iterate 1 (apply Free.chain_still (by first | exact Free.wanted_of rfl rfl rfl | rfl) rfl; (intro w' hB hA; obtain ⟨qB, _⟩ := hB; clear hA  qB; go_light; go_simp <;> rfl); (try simp only [Act.put, List.setIfInBounds_toArray, List.set_cons_succ, List.set_cons_zero]))
    apply Free.chain_nil
    intro wz hBz _ _
    simp only [List.drop_succ_cons, List.drop_zero]
    have hBB : A.extract 0 o ++ x ++ A.extract (o + x.size) (32 * m) = tx LL := HB.out
    try rw [hBB]
    obtain ⟨BB, eBB⟩ : ∃ BB, BB = tx LL := ⟨_, rfl⟩
    have hBs : BB.size = 32 * m := by rw [eBB, tx_size]; exact HLL.out
    rw [← eBB]
    have EBB := Lib.hid eBB
    obtain ⟨PC, ePC⟩ : ∃ PC, PC = pieces LL (2 + p + f) m := ⟨_, rfl⟩
    rw [← ePC] at ER
    have EPC := Lib.hid ePC
    have HBZ2 : Hid (Below w.heap.size w wz) := HBZ.out.trans (hBz.1.mono HBZ.out.size)
    have HST : Hid (RSw w b bs cp n m pv d PC (.int .i64 0) wz) := ⟨0, d, rfl, Nat.zero_le _, ⟨pv, HD.out.below HBZ2.out, Keep.of_below HBZ2.out, fun _ h => .inl h⟩, HON.out, Nat.le_refl _, by rw [List.drop_zero]⟩
    clear hBB eBB ePC hBz hsz1 hsz2 hsz3
    go_wp2_with fail
    clear t1 t2 t3 t4 w3 w4 u1 u2 u3 u4 u5 u6 u7 hoA hob2 o0 o1 q1 q2 q3 HBZ HB
    go_loopw [11] (fun i wr => RSw w b bs cp n m pv d PC i wr) (fun i _ => m - (intOf i).toNat)
    case atStart => exact HST.out
    case round =>
      clear HST
      obtain ⟨k, d', rfl, hk, hto, hon', hpe, hwr⟩ := hrel
      by_cases hlt : k < m
      · have hki : 32 * (k : Int) < 32 * (m : Int) := by omega
        have k4 : k ≤ 2000 := by omega
        have x1 : IntKind.i64.wrap (32 * (k : Int)) = 32 * (k : Int) := by rw [IntWalk.i64_left, IntWalk.wrap64_in _ ⟨by omega, by omega⟩]
        have x2 : IntKind.i64.wrap (32 * (k : Int) + 32) = 32 * (k : Int) + 32 := by rw [IntWalk.i64_left, IntWalk.wrap64_in _ ⟨by omega, by omega⟩]
        have x3 : IntKind.i64.wrap (2 + (p : Int) + (f : Int) + (k : Int)) = 2 + (p : Int) + (f : Int) + (k : Int) := by rw [IntWalk.i64_left, IntWalk.wrap64_in _ ⟨by omega, by omega⟩]
        have x4 : (32 * (k : Int)).toNat = 32 * k := by omega
        have x5 : (32 * (k : Int) + 32).toNat = 32 * k + 32 := by omega
        have x6 : (0 : Int) ≤ 32 * (k : Int) := by omega
        have x7 : 32 * (k : Int) ≤ 32 * (k : Int) + 32 := by omega
        have x8 : 32 * (k : Int) + 32 ≤ 32 * (m : Int) := by omega
        have x9 : (0 : Int) ≤ 32 * (k : Int) + 32 := by omega
        obtain ⟨j0, j1⟩ := CJ.out _ _ hto
        have hch : (BB.extract (32 * k) (32 * k + 32)).data.toList = (LL.drop (32 * k)).take 32 := by
          rw [ext_list, EBB.out]
          have : (tx LL).data.toList = LL := by simp [tx]
          rw [this]; congr 1; omega
        have hPC : PC.drop k = (2 + p + f + k, (LL.drop (32 * k)).take 32) :: PC.drop (k + 1) := by rw [EPC.out]; exact pieces_at hlt
        have WR := Lib.hid (fun (w' : World) (hb : Below wr.heap.size wr w') => by
          have := rk_write (hto.below hb) (2 + (p : Int) + (f : Int) + (k : Int)) (BB.extract (32 * k) (32 * k + 32)) (by have := HPD.out; omega)
          rw [hch] at this
          exact this)
        obtain ⟨ch, ech⟩ : ∃ ch, ch = BB.extract (32 * k) (32 * k + 32) := ⟨_, rfl⟩
        obtain ⟨tl, etl⟩ : ∃ tl, tl = (LL.drop (32 * k)).take 32 := ⟨_, rfl⟩
        rw [← etl] at WR hPC
        have hcast : (2 + (p : Int) + (f : Int) + (k : Int)) = ((2 + p + f + k : Nat) : Int) := by omega
        obtain ⟨r, er⟩ : ∃ r, r = DD.write n d' (2 + (p : Int) + (f : Int) + (k : Int)) tl := ⟨_, rfl⟩
        rw [← er] at WR
        have WG := hwr
        rw [hPC] at WG
        have hwg : wrGo n ((2 + p + f + k, tl) :: PC.drop (k + 1)) d' = if r.2 = 0 then wrGo n (PC.drop (k + 1)) r.1 else r := by
          rw [er, hcast]; rfl
        rw [hwg] at WG
        have WGH := Lib.hid WG
        have ONP : Hid (r.2 = 0 → r.1.on = true ∧ r.1.pend.length ≤ d.pend.length + (k + 1)) := fun h0 => by
          rw [er, hcast] at h0
          have htl32 : tl.length = 32 := by rw [etl, List.length_take, List.length_drop, HLL.out]; omega
          have := write_zero (n := n) (s := 2 + p + f + k) hon' (by have := HBASE.out; have := HFMH.out; omega) htl32 h0
          rw [er, hcast]
          refine ⟨this.1, ?_⟩
          rw [this.2.1, List.length_append]
          simp; omega
        clear hch ech etl er WG hwg hPC hcast hwr hto
        go_wp2_with fail
        refine Free.wp_region_free 23 [(9, .det (.int .i64 (q : Int)))] (fun y => Below wr.heap.size wr y ∧ y.cell? ⟨rb, 0, none⟩ = some (.pointer (some ⟨b, 0, none⟩)) ∧ y.cell? ⟨rb, 1, none⟩ = some (.int .i64 (n : Int))) (by kernel_rfl) (by kernel_rfl) (Free.mono_det (fun j mk r hf => by simp only [Free.find] at hf; repeat' (first | cases hf | split at hf))) ⟨(Below.refl _ _).drew, j0, j1⟩ (fun _ _ h g => ⟨h.1.trans (Below.mono g h.1.size), cell_grow' h.2.1 g, cell_grow' h.2.2 g⟩) ?_
        simp only [List.take_succ_cons, List.take_zero]
        clear j0 j1
        iterate 9 (apply Free.chain_still (by first | exact Free.wanted_of rfl rfl rfl | rfl) rfl; (intro w' hB hA; obtain ⟨qB, r0, r1⟩ := hB; clear hA  qB; go_light; go_simp <;> rfl); (try simp only [Act.put, List.setIfInBounds_toArray, List.set_cons_succ, List.set_cons_zero]))
        apply Free.chain_det (by first | exact Free.wanted_of rfl rfl rfl | rfl) rfl
        · intro w' hB hA
          refine Free.opRun_call (f := 68) (args := #[.int .i64 (n : Int)]) (by clear hB hA; go_simp <;> rfl) ?_
          refine (SZ.out w').mono ?_
          rintro e w3 ⟨rfl, hb3⟩
          exact ⟨_, rfl, hb3, rfl⟩
        simp only [Act.put, List.setIfInBounds_toArray, List.set_cons_succ, List.set_cons_zero]
        iterate 13 (apply Free.chain_still (by first | exact Free.wanted_of rfl rfl rfl | rfl) rfl; (intro w' hB hA; obtain ⟨qB, r0, r1⟩ := hB; clear hA  qB; go_light; go_simp <;> rfl); (try simp only [Act.put, List.setIfInBounds_toArray, List.set_cons_succ, List.set_cons_zero]))
        apply Free.chain_nil
        intro wv hBz _ _
        simp only [List.drop_succ_cons, List.drop_zero]
        have WRH := Lib.hid (WR.out wv hBz.1)
        clear WR hBz
        go_wp2_with fail
        refine WRH.out.mono ?_
        rintro e w4 ⟨rfl, h4⟩
        by_cases hc : r.2 = 0
        · have hc1 : (r.2 == 0) = true := by simpa using hc
          have WG2 := WGH.out
          rw [if_pos hc] at WG2
          have KEY : Hid (RSw w b bs cp n m pv d PC (.int .i64 ((k : Int) + 1)) w4) := ⟨k + 1, r.1, by go_num, by omega, h4, (ONP.out hc).1, (ONP.out hc).2, WG2⟩
          clear WRH h4 WG2
          go_wp2_with fail
          go_roundw
          case rel =>
            go_light
            have key := KEY.out
            first | exact key | ((repeat apply Exists.intro); exact ⟨key, rfl⟩)
          case measure => simp [intOf]; omega
        · have hc1 : (r.2 == 0) = false := by simpa using hc
          have WG2 := WGH.out
          rw [if_neg hc] at WG2
          have G : Hid (R (.returned (.int .i64 r.2)) w4) := by rw [ER.out, ← WG2]; exact ⟨rfl, h4⟩
          clear WRH h4 WG2
          go_wp2_with fail
          first
            | exact G.out
            | (go_ret; exact G.out)
      · obtain rfl : k = m := by omega
        have hki : ¬ 32 * (k : Int) < 32 * (k : Int) := by omega
        have SY := Lib.hid (rk_sync hto)
        obtain ⟨j0, j1⟩ := CJ.out _ _ hto
        have hnil : PC.drop k = [] := by rw [EPC.out]; exact List.drop_of_length_le (by rw [pieces_len]; exact Nat.le_refl _)
        rw [hnil] at hwr
        have HWR : Hid (d'.sync = wrGo n PC d) := hwr
        clear hnil hwr hto
        go_wp2_with fail
        refine SY.out.mono ?_
        rintro e w4 ⟨rfl, h4⟩
        have G : Hid (R (.returned (.int .i64 d'.sync.2)) w4) := by rw [ER.out, ← HWR.out]; exact ⟨rfl, h4⟩
        clear SY h4
        go_wp2_with fail
        first
          | exact G.out
          | (go_ret; exact G.out)
end Go.Proofs.YthfjaaigncjhlaaGreatDoor
