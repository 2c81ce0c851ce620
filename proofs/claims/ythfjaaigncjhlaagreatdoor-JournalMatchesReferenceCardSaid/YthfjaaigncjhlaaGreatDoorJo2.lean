/- Package journal: digits, parse. No condition. -/
import Derived.Test.YthfjaaigncjhlaaGreatDoorJo1
namespace Go.Proofs.YthfjaaigncjhlaaGreatDoor
open Go.RowKit Go.Blk Go.Jn

/-- A byte of a text as a number. -/
def byteN (t : ByteArray) (k : Nat) : Int := if h : k < t.size then ((t[k]'h).toNat : Int) else 0
theorem byte_get (t : ByteArray) : ∀ (n : Nat) (h : n < t.size), ((t[n]'h).toNat : Int) = byteN t n := fun n h => by unfold byteN; rw [dif_pos h]
def DigPost (r : Option Nat) (w : World) (e : Ending) (w' : World) : Prop :=
  w = w' ∧ ((r = none ∧ e = .returned (.tuple #[.int .i64 0, .bool false])) ∨ ∃ n : Nat, r = some n ∧ e = .returned (.tuple #[.int .i64 (n : Int), .bool true]))
def RDi (s : List UInt8) (a i : Value) : Prop := ∃ k m : Nat, k ≤ s.length ∧ i = .int .i64 (k : Int) ∧ a = .int .i64 (m : Int) ∧ m < 10 ^ k ∧ digsL s = digsGo (s.drop k) m
theorem digsGo_lt : ∀ (s : List UInt8) (a n k : Nat), digsGo s a = some n → a < 10 ^ k → n < 10 ^ (k + s.length)
  | [], a, n, k, h, ha => by cases h; simpa using ha
  | c :: r, a, n, k, h, ha => by
    unfold digsGo at h
    split at h
    · rename_i hc
      have := digsGo_lt r _ n (k + 1) h (by rw [Nat.pow_succ]; omega)
      rw [List.length_cons, show k + (r.length + 1) = k + 1 + r.length by omega]; exact this
    · cases h
set_option maxRecDepth 100000 in
theorem digits_any (t : ByteArray) (w : World) (ht : t.size ≤ 16) : Calls Tryz.prog 65 #[.string t] w (DigPost (digsL t.data.toList) w) := by
  obtain ⟨R, eR⟩ : ∃ R, R = DigPost (digsL t.data.toList) w := ⟨_, rfl⟩
  rw [← eR]
  have hsz : t.data.toList.length = t.size := by simp
  have FN : Hid (digsL t.data.toList = none → R (.returned (.tuple #[.int .i64 0, .bool false])) w) := fun h => by rw [eR, h]; exact ⟨rfl, .inl ⟨rfl, rfl⟩⟩
  have FS : Hid (∀ n : Nat, digsL t.data.toList = some n → R (.returned (.tuple #[.int .i64 (n : Int), .bool true])) w) := fun n h => by rw [eR, h]; exact ⟨rfl, .inr ⟨n, rfl, rfl⟩⟩
  obtain ⟨s, es⟩ : ∃ s, s = t.data.toList := ⟨_, rfl⟩
  have HST : Hid (RDi s (.int .i64 0) (.int .i64 0)) := ⟨0, 0, Nat.zero_le _, rfl, rfl, by decide, rfl⟩
  rw [← es] at FN FS hsz
  have HS := Lib.hid hsz
  have ES := Lib.hid es
  clear eR es hsz
  go_enter Tryz.func65, Tryz.ntmps65
  go_wp2_with fail
  go_loop [4, 8] (fun a i => RDi s a i) (fun _ i => t.size - (intOf i).toNat)
  case atStart => exact HST.out
  case round =>
    clear HST
    obtain ⟨k, m, hk, rfl, rfl, hm, hd⟩ := hrel
    have HD := Lib.hid hd
    have HM := Lib.hid hm
    rw [HS.out] at hk
    clear hd hm
    by_cases hlt : k < t.size
    · have hb := byte_get t
      have hki : (k : Int) < (t.size : Int) := by omega
      have hk0 : (0 : Int) ≤ (k : Int) := by omega
      have hm15 : m < 1000000000000000 := Nat.lt_of_lt_of_le HM.out (Nat.pow_le_pow_right (n := 10) (by decide) (show k ≤ 15 by omega))
      obtain ⟨c, hc⟩ : ∃ c, s[k]? = some c := ⟨_, List.getElem?_eq_getElem (by rw [HS.out]; exact hlt)⟩
      have hbt : byteN t k = (c.toNat : Int) := by
        rw [← hb k hlt]
        have : s[k]? = some (t[k]'hlt) := by rw [ES.out]; simp [hlt]; rfl
        rw [this] at hc; cases hc; rfl
      have hdr : s.drop k = c :: s.drop (k + 1) := by
        obtain ⟨h1, h2⟩ := List.getElem?_eq_some_iff.1 hc
        rw [List.drop_eq_getElem_cons h1, h2]
      have NX := HD.out
      rw [hdr] at NX
      unfold digsGo at NX
      have hc8 : c.toNat ≤ 255 := by have := c.toNat_lt; omega
      obtain ⟨q, eq⟩ : ∃ q, q = c.toNat := ⟨_, rfl⟩
      rw [← eq] at hbt NX hc8
      clear hc hdr eq
      by_cases hq1 : 48 ≤ q
      · by_cases hq2 : q ≤ 57
        · rw [if_pos ⟨hq1, hq2⟩] at NX
          have NXT := Lib.hid NX
          clear NX
          have t1 : decide ((q : Int) < 48) = false := by simp; omega
          have t2 : decide ((57 : Int) < (q : Int)) = false := by simp; omega
          have w1 : IntKind.u8.wrap ((q : Int) - 48) = ((q - 48 : Nat) : Int) := by rw [IntKind.wrap_u8]; omega
          have w2 : IntKind.i64.wrap (((q - 48 : Nat) : Int)) = ((q - 48 : Nat) : Int) := by rw [IntWalk.i64_left]; exact IntWalk.wrap64_in _ ⟨by omega, by omega⟩
          have w3 : IntKind.i64.wrap (10 * (m : Int)) = ((10 * m : Nat) : Int) := by rw [IntWalk.i64_left, IntWalk.wrap64_in _ ⟨by omega, by omega⟩]; omega
          have w4 : IntKind.i64.wrap (((10 * m : Nat) : Int) + ((q - 48 : Nat) : Int)) = ((10 * m + (q - 48) : Nat) : Int) := by rw [IntWalk.i64_left, IntWalk.wrap64_in _ ⟨by omega, by omega⟩]; omega
          have w5 : IntKind.i64.wrap ((k : Int) + 1) = ((k + 1 : Nat) : Int) := by rw [IntWalk.i64_left, IntWalk.wrap64_in _ ⟨by omega, by omega⟩]; omega
          have REL : Hid (RDi s (.int .i64 ((10 * m + (q - 48) : Nat) : Int)) (.int .i64 ((k + 1 : Nat) : Int))) := ⟨k + 1, _, by rw [HS.out]; omega, rfl, rfl, by have := HM.out; rw [Nat.pow_succ]; omega, NXT.out⟩
          go_wp2_with fail
          have e1 : (10 * (m : Int) + ((q - 48 : Nat) : Int)) = ((10 * m + (q - 48) : Nat) : Int) := by omega
          have e2 : ((k : Int) + 1) = ((k + 1 : Nat) : Int) := by omega
          rw [e1, e2]
          refine ⟨REL.out, ?_⟩
          show t.size - (((k + 1 : Nat) : Int)).toNat < t.size - ((k : Nat) : Int).toNat
          omega
        · rw [if_neg (by omega)] at NX
          have F := Lib.hid (FN.out NX)
          clear NX
          have t1 : decide ((q : Int) < 48) = false := by simp; omega
          have t2 : decide ((57 : Int) < (q : Int)) = true := by simp; omega
          go_wp2_with fail
          exact F.out
      · rw [if_neg (by omega)] at NX
        have F := Lib.hid (FN.out NX)
        clear NX
        have t1 : decide ((q : Int) < 48) = true := by simp; omega
        go_wp2_with fail
        exact F.out
    · have hke : k = t.size := by omega
      have F : Hid (R (.returned (.tuple #[.int .i64 (m : Int), .bool true])) w) := FS.out m (by rw [HD.out, List.drop_eq_nil_of_le (by rw [HS.out]; omega)]; rfl)
      subst hke
      go_wp2_with fail
      exact F.out
set_option maxRecDepth 100000 in
theorem blank_any (w : World) : Calls Tryz.prog 64 #[] w fun e w' => e = .returned (.string (tx (List.replicate 32 0))) ∧ Below w.heap.size w w' := by
  have R1 : Hid (∀ w, Calls Tryz.prog 75 #[.string ⟨#[0]⟩, .int .i64 32] w fun e w' => e = .returned (.string (tx (List.replicate 32 0))) ∧ Below w.heap.size w w') := fun w => by
    have := Tryz.strings_Repeat ⟨#[0]⟩ 32 w (by omega) (by show 1 * 32 ≤ _; omega)
    exact this
  go_enter Tryz.func64, Tryz.ntmps64
  go_wp2_with fail
  refine (R1.out _).mono ?_
  rintro e w1 ⟨rfl, hb1⟩
  go_wp2_with fail
  go_ret
  exact ⟨rfl, hb1⟩
end Go.Proofs.YthfjaaigncjhlaaGreatDoor
