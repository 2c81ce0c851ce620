/- The head of the statements on package sign: fixed examples; and the law's own challenge. Condition: the variables of digest and of strconv hold their numbers. -/
import Derived.Test.YtbepfoaflcgpcaaDoorSgL
namespace Go.Proofs.YtbepfoaflcgpcaaDoor
open Go.RowKit Go.W32 Go.Blk Go.Sg

set_option maxRecDepth 100000 in
theorem lch_any (r y : Nat) (t : ByteArray) (w : World) (hr1 : r ≤ 9223372036854775807) (hy1 : y ≤ 9223372036854775807) (ht : t.size ≤ 1000000000000) (hT : HasT w) :
    Calls Tryd.prog 19 #[.int .i64 (r : Int), .int .i64 (y : Int), .string t] w fun e w' => e = .returned (.int .i64 (chal r y t)) ∧ Below w.heap.size w w' := by
  have s1 := dec_size r (by omega) (by omega)
  have s2 := dec_size y (by omega) (by omega)
  have i1 := fun w => decimal_any r w hr1
  have i2 := fun w => decimal_any y w hy1
  have hsz : (chT r y t).size < 140737488355328 := by
    have e : (chT r y t).size = 2 + (dec r).size + 1 + (dec y).size + 1 + t.size := by unfold chT; rw [ba_size, ba_size, ba_size, ba_size, ba_size]; rfl
    omega
  have n1 := fun w h => number_any KC (chT r y t) 2147483646 w hsz (by decide) h
  unfold chal
  obtain ⟨a, ea⟩ : ∃ a, a = dec (r : Int) := ⟨_, rfl⟩
  obtain ⟨b, eb⟩ : ∃ b, b = dec (y : Int) := ⟨_, rfl⟩
  unfold chT at n1 hsz ⊢
  rw [← ea] at s1 n1 hsz ⊢
  simp only [← ea] at i1
  rw [← eb] at s2 n1 hsz ⊢
  simp only [← eb] at i2
  have I1 := Lib.hid i1
  have I2 := Lib.hid i2
  have N1 := Lib.hid n1
  have HT0 := Lib.hid hT
  have HB0 := Lib.hid (Below.refl w.heap.size w)
  clear i1 i2 n1 hT ea eb
  go_enter Tryd.func19, Tryd.ntmps19
  go_wp2_with fail
  refine (I1.out _).mono ?_
  rintro e w' ⟨rfl, rfl⟩
  go_wp2_with fail
  refine (I2.out _).mono ?_
  rintro e w' ⟨rfl, rfl⟩
  go_wp2_with fail
  refine (N1.out _ HT0.out.k).mono ?_
  rintro e w1 ⟨rfl, hb1⟩
  have HT1 := Lib.hid (HT0.out.below hb1 (Nat.le_refl _))
  have HB1 := Lib.hid (HB0.out.trans (hb1.mono HB0.out.size))
  clear hb1
  go_wp2_with fail
  go_ret
  exact ⟨rfl, HB1.out⟩

theorem pw7_small (n : Nat) (h : n < 2 ^ 32) : power 7 (n : Int) = (fast 32 7 n 1 : Nat) := by
  rw [power_in (by decide) (by decide) (by omega), Int.toNat_natCast, show (7 : Int).toNat = 7 from rfl, pw_fast 7 n h]
theorem p7_2 : power 7 2 = 49 := (pw7_small 2 (by decide)).trans (by decide +kernel)
theorem p7_5 : power 7 5 = 16807 := (pw7_small 5 (by decide)).trans (by decide +kernel)
theorem sec1 : isSec 1 := by decide
theorem sec2 : isSec 2 := by decide
theorem sec5 : isSec 5 := by decide
theorem sec0 : ¬ isSec 0 := by decide
theorem secp : ¬ isSec 2147483646 := by decide
theorem secm : ¬ isSec (-1) := by decide
theorem pub_yes (x y : Int) (w : World) (h : isSec x) (e : power 7 x = y) : Calls Tryd.prog 11 #[.int .i64 x] w fun e w' => e = .returned (.tuple #[.int .i64 y, .int .i64 0]) ∧ w = w' := by
  have := pub_any x w
  rwa [pubV_in h, e, pubE, if_pos h] at this
theorem pub_no (x : Int) (w : World) (h : ¬ isSec x) : Calls Tryd.prog 11 #[.int .i64 x] w fun e w' => e = .returned (.tuple #[.int .i64 0, .int .i64 1]) ∧ w = w' := by
  have := pub_any x w
  rwa [pubV, if_neg h, pubE, if_neg h] at this
theorem pow_is (b n y : Int) (w : World) (hn : n ≤ 9223372036854775807) (e : power b n = y) : Calls Tryd.prog 15 #[.int .i64 b, .int .i64 n] w fun e w' => e = .returned (.int .i64 y) ∧ w = w' := by
  have := power_any b n w hn
  rwa [e] at this
def tx : ByteArray := ⟨#[116, 101, 120, 116]⟩
set_option maxRecDepth 100000 in
set_option maxHeartbeats 1000000 in
theorem head29_any (w : World) (hT : HasT w) : Calls Tryd.prog 10 #[] w fun e w' => e = .returned (.bool true) ∧ Below w.heap.size w w' := by
  have v1 := ver_sign sec5 tx
  have v2 := ver_other sec5 tx (sgS 5 tx + 1)
  have hSr := sgS_range 5 tx
  have v2' : (sgS 5 tx + 1 == sgS 5 tx) = false := by simp; omega
  rw [v2'] at v2
  have hp5 : pubV 5 = 16807 := (pubV_in sec5).trans p7_5
  rw [hp5] at v1 v2
  have v3 : ∀ r s, verB 0 tx r s = false := fun r s => by unfold verB; rw [decide_eq_false (by rintro ⟨_, _, _, _, h, _⟩; omega), Bool.false_and]
  have c1 := fun w h => sign_yes 5 tx w sec5 (by decide) h
  have c2 := fun w => sign_no (-1) tx w secm
  have d1 := fun w h => ver_any 16807 tx (sgR 5 tx) (sgS 5 tx) w (by decide) h
  have d2 := fun w h => ver_any 16807 tx (sgR 5 tx) (sgS 5 tx + 1) w (by decide) h
  have d3 := fun w h => ver_any 0 tx (sgR 5 tx) (sgS 5 tx) w (by decide) h
  simp only [v1] at d1
  simp only [v2] at d2
  simp only [v3] at d3
  obtain ⟨r, er⟩ : ∃ r, r = sgR 5 tx := ⟨_, rfl⟩
  obtain ⟨s, es⟩ : ∃ s, s = sgS 5 tx := ⟨_, rfl⟩
  simp only [← er, ← es] at c1 d1 d2 d3
  rw [← es] at hSr
  unfold tx at c1 c2 d1 d2 d3
  have C1 := Lib.hid c1
  have C2 := Lib.hid c2
  have D1 := Lib.hid d1
  have D2 := Lib.hid d2
  have D3 := Lib.hid d3
  have HT0 := Lib.hid hT
  have HB0 := Lib.hid (Below.refl w.heap.size w)
  obtain ⟨hs0, hs1⟩ := hSr
  clear v1 v2 v2' hp5 v3 c1 c2 d1 d2 d3 er es hT
  go_enter Tryd.func10, Tryd.ntmps10
  go_wp2_with fail
  refine (pub_yes 1 7 _ sec1 (power_one (by decide) (by decide))).mono ?_
  rintro e w' ⟨rfl, rfl⟩
  go_wp2_with fail
  refine (pub_yes 2 49 _ sec2 p7_2).mono ?_
  rintro e w' ⟨rfl, rfl⟩
  go_wp2_with fail
  refine (pub_no 0 _ sec0).mono ?_
  rintro e w' ⟨rfl, rfl⟩
  go_wp2_with fail
  refine (pub_no 2147483646 _ secp).mono ?_
  rintro e w' ⟨rfl, rfl⟩
  go_wp2_with fail
  refine (C1.out _ HT0.out).mono ?_
  rintro e w1 ⟨rfl, hb1⟩
  have HT1 := Lib.hid (HT0.out.below hb1 (Nat.le_refl _))
  have HB1 := Lib.hid (HB0.out.trans (hb1.mono HB0.out.size))
  clear hb1
  go_wp2_with fail
  refine (C2.out _).mono ?_
  rintro e w2 ⟨rfl, hb2⟩
  have HT2 := Lib.hid ((HT1.out.alloc _).below hb2 (Nat.le_refl _))
  have HB2 := Lib.hid ((HB1.out.alloc HB1.out.size (.cells #[.int .i64 r, .int .i64 s] 23)).trans (hb2.mono (by have := HB1.out.size; simp; omega)))
  have B2 := (Blk.new w1 [.int .i64 r, .int .i64 s] 23).below hb2 (by simp)
  have hz2 : w1.heap.size < w2.heap.size := by have := hb2.size; simp at this; omega
  have h20 := B2.cell 0 (by simp)
  have h21 := B2.cell 1 (by simp)
  simp only [List.getElem_cons_zero, List.getElem_cons_succ] at h20 h21
  have B2a := B2.alloc (.cells #[.int .i64 0, .int .i64 0] 23)
  have HT2a := Lib.hid (HT2.out.alloc (.cells #[.int .i64 0, .int .i64 0] 23))
  have HB2a := Lib.hid (HB2.out.alloc HB2.out.size (.cells #[.int .i64 0, .int .i64 0] 23))
  clear B2 hb2
  go_wp2_with fail
  refine (pub_yes 5 16807 _ sec5 p7_5).mono ?_
  rintro e w' ⟨rfl, rfl⟩
  go_wp2_with fail
  refine (pow_is 7 0 1 _ (by decide) (power_zero (by decide) (by decide))).mono ?_
  rintro e w' ⟨rfl, rfl⟩
  go_wp2_with fail
  refine (pow_is 7 5 16807 _ (by decide) p7_5).mono ?_
  rintro e w' ⟨rfl, rfl⟩
  go_wp2_with fail
  refine (pow_is 7 2147483646 1 _ (by decide) (power_full (by decide) (by decide))).mono ?_
  rintro e w' ⟨rfl, rfl⟩
  go_wp2_with fail
  refine (pow_is 0 1 0 _ (by decide) (power_out (by decide))).mono ?_
  rintro e w' ⟨rfl, rfl⟩
  go_wp2_with fail
  refine (pow_is 7 (-1) 0 _ (by decide) (power_out (by decide))).mono ?_
  rintro e w' ⟨rfl, rfl⟩
  go_wp2_with fail
  refine (pow_is 2147483647 1 0 _ (by decide) (power_out (by decide))).mono ?_
  rintro e w' ⟨rfl, rfl⟩
  go_wp2_with fail
  refine (D1.out _ HT2a.out).mono ?_
  rintro e w3 ⟨rfl, hb3⟩
  have HT3 := Lib.hid (HT2a.out.below hb3 (Nat.le_refl _))
  have HB3 := Lib.hid (HB2a.out.trans (hb3.mono HB2a.out.size))
  have B3 := B2a.below hb3 B2a.lt
  have h30 := B3.cell 0 (by simp)
  have h31 := B3.cell 1 (by simp)
  simp only [List.getElem_cons_zero, List.getElem_cons_succ] at h30 h31
  clear B2a hb3
  go_wp2_with fail
  refine (D2.out _ HT3.out).mono ?_
  rintro e w4 ⟨rfl, hb4⟩
  have HT4 := Lib.hid (HT3.out.below hb4 (Nat.le_refl _))
  have HB4 := Lib.hid (HB3.out.trans (hb4.mono HB3.out.size))
  have B4 := B3.below hb4 B3.lt
  have h40 := B4.cell 0 (by simp)
  have h41 := B4.cell 1 (by simp)
  simp only [List.getElem_cons_zero, List.getElem_cons_succ] at h40 h41
  clear B3 B4 hb4
  go_wp2_with fail
  refine (D3.out _ HT4.out).mono ?_
  rintro e w5 ⟨rfl, hb5⟩
  have HT5 := Lib.hid (HT4.out.below hb5 (Nat.le_refl _))
  have HB5 := Lib.hid (HB4.out.trans (hb5.mono HB4.out.size))
  clear hb5
  go_wp2_with fail
  go_ret
  exact ⟨rfl, HB5.out⟩
end Go.Proofs.YtbepfoaflcgpcaaDoor
