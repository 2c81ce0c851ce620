/- Package sign: the challenge, Public, Sign and Verify: what they return, for texts of fewer than 2^40 bytes. Condition: the variables of digest and of strconv hold their numbers. -/
import Derived.Test.YtamiaalfjmppaaaDoorSgP
import Derived.Lib.ItoaLen
import Derived.Lib.ItoaMem
import Derived.Deep.QuietTactic
import Derived.BigQuiet
namespace Go.Proofs.YtamiaalfjmppaaaDoor
open Go.RowKit Go.W32 Go.Blk Go.Sg

theorem tab_below {P : Program} {w w' : World} {B : Nat} {name : String} {k : IntKind} {zs : List Int} (h : Lib.TabIs P w name k zs) (hb : Below B w w') (hB : w.heap.size ≤ B) : Lib.TabIs P w' name k zs := by
  unfold Lib.TabIs World.var? at *
  cases hg : P.globalNamed name with
  | none => simp [hg] at h
  | some g =>
    simp only [hg, Option.bind_some] at h ⊢
    have hlt : g < w.heap.size := by
      rcases Nat.lt_or_ge g w.heap.size with h' | h'
      · exact h'
      · rw [Array.getElem?_eq_none h'] at h; simp at h
    rw [hb.block g (by omega)]
    exact h
/-- The variables hold their numbers. -/
structure HasT (w : World) : Prop where
  k : HasK w
  p : Lib.TabIs Tryd.prog w "internal/strconv.uint64pow10" .u64 Lib.pow10Tab
theorem HasT.below {w w' : World} {B : Nat} (h : HasT w) (hb : Below B w w') (hB : w.heap.size ≤ B) : HasT w' := ⟨h.k.below hb hB, tab_below h.p hb hB⟩
theorem HasT.alloc {w : World} (h : HasT w) (o : Obj) : HasT (w.alloc o) := h.below ((Below.refl _ _).alloc (Nat.le_refl _) o) (Nat.le_refl _)

/-- The decimal numeral. -/
def dec (n : Int) : ByteArray := ⟨(Lib.itoa n).toArray⟩
theorem dec_size (n : Int) (h0 : -9223372036854775808 ≤ n) (h1 : n ≤ 9223372036854775807) : (dec n).size ≤ 21 := by
  have := Lib.itoa_length_le n h0 h1
  show (Lib.itoa n).toArray.size ≤ 21
  simpa using this
theorem itoa_any (n : Int) (w : World) (h0 : -9223372036854775808 ≤ n) (h1 : n ≤ 9223372036854775807) (hT : HasT w) :
    Calls Tryd.prog 62 #[.int .i64 n] w fun e w' => e = .returned (.string (dec n)) ∧ Below w.heap.size w w' :=
  (Tryd.strconv_Itoa n h0 h1 w hT.p).mono fun _ _ ⟨he, k, os, hw⟩ => ⟨he, by
    subst hw
    exact ⟨rfl, rfl, rfl, by simp, fun j hj => Go.Sort.heap_grow_old _ os hj⟩⟩

def chT (r y : Int) (t : ByteArray) : ByteArray := (⟨#[101, 32]⟩ : ByteArray) ++ dec r ++ ⟨#[32]⟩ ++ dec y ++ ⟨#[32]⟩ ++ t
/-- The challenge. -/
def chal (r y : Int) (t : ByteArray) : Int := number KC (chT r y t) 2147483646
theorem number_range (K : List UInt32) (t : ByteArray) (m : Int) (h : 1 ≤ m) : 0 ≤ number K t m ∧ number K t m < m := by
  unfold number; rw [if_neg (by omega)]
  exact ⟨Int.emod_nonneg _ (by omega), Int.emod_lt_of_pos _ (by omega)⟩
theorem chal_range (r y : Int) (t : ByteArray) : 0 ≤ chal r y t ∧ chal r y t ≤ 2147483645 := by
  have := number_range KC (chT r y t) 2147483646 (by decide)
  unfold chal; omega

theorem ba_size (a b : ByteArray) : (a ++ b).size = a.size + b.size := by simp
set_option maxRecDepth 100000 in
theorem ch_any (r y : Int) (t : ByteArray) (w : World) (hr0 : -9223372036854775808 ≤ r) (hr1 : r ≤ 9223372036854775807) (hy0 : -9223372036854775808 ≤ y) (hy1 : y ≤ 9223372036854775807) (ht : t.size ≤ 1099511627776) (hT : HasT w) :
    Calls Tryd.prog 71 #[.int .i64 r, .int .i64 y, .string t] w fun e w' => e = .returned (.int .i64 (chal r y t)) ∧ Below w.heap.size w w' := by
  have s1 := dec_size r hr0 hr1
  have s2 := dec_size y hy0 hy1
  have HT0 := Lib.hid hT
  have HB0 := Lib.hid (Below.refl w.heap.size w)
  have i1 := fun w h => itoa_any r w hr0 hr1 h
  have i2 := fun w h => itoa_any y w hy0 hy1 h
  have hsz : (chT r y t).size < 140737488355328 := by
    have e : (chT r y t).size = 2 + (dec r).size + 1 + (dec y).size + 1 + t.size := by unfold chT; rw [ba_size, ba_size, ba_size, ba_size, ba_size]; rfl
    omega
  have n1 := fun w h => number_any KC (chT r y t) 2147483646 w hsz (by decide) h
  unfold chal
  obtain ⟨a, ea⟩ : ∃ a, a = dec r := ⟨_, rfl⟩
  obtain ⟨b, eb⟩ : ∃ b, b = dec y := ⟨_, rfl⟩
  unfold chT at n1 hsz ⊢
  rw [← ea] at i1 s1 n1 hsz ⊢
  rw [← eb] at i2 s2 n1 hsz ⊢
  have I1 := Lib.hid i1
  have I2 := Lib.hid i2
  have N1 := Lib.hid n1
  clear i1 i2 n1 hT ea eb
  go_enter Tryd.func71, Tryd.ntmps71
  go_wp2_with fail
  refine (I1.out _ HT0.out).mono ?_
  rintro e w1 ⟨rfl, hb1⟩
  have HT1 := Lib.hid (HT0.out.below hb1 (Nat.le_refl _))
  have HB1 := Lib.hid (HB0.out.trans (hb1.mono HB0.out.size))
  clear hb1
  go_wp2_with fail
  refine (I2.out _ HT1.out).mono ?_
  rintro e w2 ⟨rfl, hb2⟩
  have HT2 := Lib.hid (HT1.out.below hb2 (Nat.le_refl _))
  have HB2 := Lib.hid (HB1.out.trans (hb2.mono HB1.out.size))
  clear hb2
  go_wp2_with fail
  refine (N1.out _ HT2.out.k).mono ?_
  rintro e w3 ⟨rfl, hb3⟩
  have HT3 := Lib.hid (HT2.out.below hb3 (Nat.le_refl _))
  have HB3 := Lib.hid (HB2.out.trans (hb3.mono HB2.out.size))
  clear hb3
  go_wp2_with fail
  go_ret
  exact ⟨rfl, HB3.out⟩

/-- Whether a number is a secret. -/
def isSec (x : Int) : Prop := 1 ≤ x ∧ x ≤ 2147483645
instance (x : Int) : Decidable (isSec x) := by unfold isSec; infer_instance
def pubV (x : Int) : Int := if isSec x then power 7 x else 0
def pubE (x : Int) : Int := if isSec x then 0 else 1
theorem pub_any (x : Int) (w : World) : Calls Tryd.prog 14 #[.int .i64 x] w fun e w' => e = .returned (.tuple #[.int .i64 (pubV x), .int .i64 (pubE x)]) ∧ w = w' := by
  by_cases h : isSec x
  · rw [pubV, if_pos h, pubE, if_pos h]
    obtain ⟨h1, h2⟩ := h
    go_enter Tryd.func14, Tryd.ntmps14
    go_wp2_with (first | (go_at_call 39; refine (sec_yes _ _ h1 h2).mono ?_; rintro e w' ⟨rfl, rfl⟩) | (go_at_call 40; refine (power_any _ _ _ (by omega)).mono ?_; rintro e w' ⟨rfl, rfl⟩))
    go_ret2
    exact ⟨rfl, rfl⟩
  · rw [pubV, if_neg h, pubE, if_neg h]
    have h' : ¬ (1 ≤ x ∧ x ≤ 2147483645) := h
    have H := Lib.hid h'
    clear h h'
    go_enter Tryd.func14, Tryd.ntmps14
    go_wp2_with (go_at_call 39; refine (sec_no _ _ H.out).mono ?_; rintro e w' ⟨rfl, rfl⟩)
    go_ret2
    exact ⟨rfl, rfl⟩
end Go.Proofs.YtamiaalfjmppaaaDoor
