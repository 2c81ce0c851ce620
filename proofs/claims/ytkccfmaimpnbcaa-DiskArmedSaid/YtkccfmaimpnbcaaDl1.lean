/- The statements on package disk: their helpers text, fill, ok, size, do. -/
import Derived.Test.YtkccfmaimpnbcaaDk7
import Derived.Test.YtkccfmaimpnbcaaOpn
namespace Go.Proofs.Ytkccfmaimpnbcaa
open Go.RowKit Go.Blk Go.Dk Go.Mp Go.Opn

structure Act44 where
  kind : Int
  sector : Int
  bytes : Int
  text : ByteArray
  odd : Bool
  after : Int
structure Act44.Ok (a : Act44) : Prop where
  k0 : -9223372036854775808 ≤ a.kind
  k1 : a.kind ≤ 9223372036854775807
  s0 : -9223372036854775808 ≤ a.sector
  s1 : a.sector ≤ 9223372036854775807
  b0 : -9223372036854775808 ≤ a.bytes
  b1 : a.bytes ≤ 9223372036854775807
  a0 : -9223372036854775808 ≤ a.after
  a1 : a.after ≤ 9223372036854775807
  t1 : a.text.size ≤ 9223372036854775807
def encA (a : Act44) : List Value := [.int .i64 a.kind, .int .i64 a.sector, .int .i64 a.bytes, .string a.text, .bool a.odd, .int .i64 a.after]
def rep (t : ByteArray) : Nat → ByteArray
  | 0 => ⟨#[]⟩
  | k + 1 => rep t k ++ t
theorem rep_size (t : ByteArray) (k : Nat) : (rep t k).size = k * t.size := by
  induction k with
  | zero => rw [Nat.zero_mul]; rfl
  | succ k ih => show (rep t k ++ t).size = _; rw [ByteArray.size_append, ih, Nat.succ_mul]
/-- The text of a write. -/
def actText (t : ByteArray) (odd : Bool) : ByteArray := if odd ∨ t.size = 0 then t else (rep t ((31 + t.size) / t.size)).extract 0 32
theorem ba_nil {t : ByteArray} (h : t.size = 0) : t = ⟨#[]⟩ := by
  cases t with
  | mk d => congr 1; exact Array.eq_empty_of_size_eq_zero h
def RT (t : ByteArray) (s : Value) : Prop := ∃ j : Nat, j ≤ (31 + t.size) / t.size ∧ s = .string (rep t j)
def strLen44 : Value → Nat | .string s => s.size | _ => 0
set_option maxRecDepth 100000 in
theorem text_any (k s b : Int) (t : ByteArray) (o : Bool) (f : Int) (w : World) (ht : t.size ≤ 100) :
    Calls Try.prog 15 #[.agg #[.int .i64 k, .int .i64 s, .int .i64 b, .string t, .bool o, .int .i64 f]] w fun e w' => e = .returned (.string (actText t o)) ∧ Below w.heap.size w w' := by
  have B0 := Blk.new w [.int .i64 k, .int .i64 s, .int .i64 b, .string t, .bool o, .int .i64 f] 32
  have c3 := B0.cellD 3 _ rfl
  have c4 := B0.cellD 4 _ rfl
  have HBL := Lib.hid ((Below.refl w.heap.size w).alloc (Nat.le_refl _) (.cells #[.int .i64 k, .int .i64 s, .int .i64 b, .string t, .bool o, .int .i64 f] 32))
  clear B0
  cases o with
  | true =>
    have e : actText t true = t := by simp [actText]
    rw [e]
    clear e
    go_enter Try.func15, Try.ntmps15
    go_wp2
    go_ret
    exact ⟨rfl, HBL.out⟩
  | false =>
    by_cases h0 : t.size = 0
    · have e : actText t false = t := by simp [actText, h0]
      rw [e]
      obtain rfl := ba_nil h0
      clear e h0 ht
      go_enter Try.func15, Try.ntmps15
      go_wp2
      go_ret
      exact ⟨rfl, HBL.out⟩
    · have e : actText t false = (rep t ((31 + t.size) / t.size)).extract 0 32 := by simp [actText, h0]
      rw [e]
      have hq : t.size ≤ (31 + t.size) / t.size * t.size + t.size ∧ 32 ≤ (31 + t.size) / t.size * t.size ∧ (31 + t.size) / t.size * t.size ≤ 31 + t.size := by
        have h1 := Nat.div_add_mod (31 + t.size) t.size
        have h2 := Nat.mod_lt (31 + t.size) (show 0 < t.size by omega)
        rw [Nat.mul_comm] at h1
        omega
      have hne : t.toList.isEmpty = false := by
        cases hh : t.toList.isEmpty
        · rfl
        · exfalso
          have : t.toList = [] := List.isEmpty_iff.1 hh
          have h3 : t.data.toList = [] := (ByteArray.toList_eq t).symm.trans this
          exact h0 (by show t.data.size = 0; rw [← Array.length_toList, h3]; rfl)
      have hne2 : (!t.toList.isEmpty) = true := by rw [hne]; rfl
      have hne3 : ¬ t.toList = [] := by intro e; rw [e] at hne; cases hne
      have HQ := Lib.hid hq
      have HST : Hid (RT t (.string ⟨#[]⟩)) := ⟨0, Nat.zero_le _, rfl⟩
      have ht1 : 1 ≤ t.size := by omega
      clear e hq h0
      go_enter Try.func15, Try.ntmps15
      go_wp2_with fail
      go_loop [3] (fun s => RT t s) (fun s => 32 - strLen44 s)
      case atStart => exact HST.out
      case round =>
        clear HST
        obtain ⟨j, hj, rfl⟩ := hrel
        have hs := rep_size t j
        have hjs : j * t.size ≤ (31 + t.size) / t.size * t.size := Nat.mul_le_mul_right _ hj
        obtain ⟨r, er⟩ : ∃ r, r = rep t j := ⟨_, rfl⟩
        rw [← er] at hs ⊢
        by_cases h32 : r.size < 32
        · have hlt : j < (31 + t.size) / t.size := by
            refine Nat.lt_of_not_le fun hle => ?_
            have := Nat.mul_le_mul_right t.size hle
            have := HQ.out
            omega
          have HJ := Lib.hid hlt
          have HR := Lib.hid er
          have hrs : r.size ≤ 31 := by omega
          clear hs hjs hj hlt er
          go_wp2_with fail
          go_round
          case rel => exact ⟨j + 1, HJ.out, by show _ = Value.string (rep t j ++ t); rw [HR.out]⟩
          case measure => simp [strLen44]; omega
        · have hje : (rep t ((31 + t.size) / t.size)).extract 0 32 = r.extract 0 32 := by
            have : j = (31 + t.size) / t.size := by
              refine Nat.le_antisymm hj (Nat.le_of_not_lt fun hlt => ?_)
              have h5 := Nat.mul_le_mul_right t.size (show j + 1 ≤ (31 + t.size) / t.size from hlt)
              rw [Nat.succ_mul] at h5
              have := HQ.out
              omega
            rw [er, this]
          have HE := Lib.hid hje
          have hrs : 32 ≤ r.size := by omega
          have hrs2 : (32 : Int) ≤ (r.size : Int) := by omega
          have hru : r.size ≤ 200 := by have := HQ.out; omega
          clear hs hjs hj er hje
          go_wp2_with fail
          go_ret
          exact ⟨by rw [HE.out]; rfl, HBL.out⟩
end Go.Proofs.Ytkccfmaimpnbcaa
