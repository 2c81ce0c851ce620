/- Package sign: Sign and Verify: what they return, for texts of at most 2^40 bytes. Condition: the variables of digest and of strconv hold their numbers. -/
import Derived.Test.YtaaenobckipfkaaDoorSgI
namespace Go.Proofs.YtaaenobckipfkaaDoor
open Go.RowKit Go.W32 Go.Blk Go.Sg

def sgT (x : Int) (t : ByteArray) : ByteArray := (⟨#[107, 32]⟩ : ByteArray) ++ dec x ++ ⟨#[32]⟩ ++ t
def sgK (x : Int) (t : ByteArray) : Int := 1 + number KC (sgT x t) 2147483645
def sgR (x : Int) (t : ByteArray) : Int := power 7 (sgK x t)
def sgS (x : Int) (t : ByteArray) : Int := (sgK x t + chal (sgR x t) (pubV x) t * x) % 2147483646
theorem sgK_range (x : Int) (t : ByteArray) : 1 ≤ sgK x t ∧ sgK x t ≤ 2147483645 := by
  have := number_range KC (sgT x t) 2147483645 (by decide)
  unfold sgK; omega
theorem power_range (b n : Int) : 0 ≤ power b n ∧ power b n ≤ 2147483646 := by
  unfold power; split
  · have := pw_lt b.toNat n.toNat; unfold gp at this; omega
  · omega
theorem pubV_range (x : Int) : 0 ≤ pubV x ∧ pubV x ≤ 2147483646 := by
  unfold pubV; split
  · exact power_range _ _
  · omega

theorem sign_no (x : Int) (t : ByteArray) (w : World) (hx : ¬ isSec x) :
    Calls Tryd.prog 20 #[.int .i64 x, .string t] w fun e w' => e = .returned (.tuple #[.agg #[.int .i64 0, .int .i64 0], .int .i64 1]) ∧ Below w.heap.size w w' := by
  have hp := fun w => pub_any x w
  unfold pubV pubE at hp
  simp only [if_neg hx] at hp
  have HP := Lib.hid hp
  clear hp hx
  go_enter Tryd.func20, Tryd.ntmps20
  go_wp2_with fail
  refine (HP.out _).mono ?_
  rintro e w' ⟨rfl, rfl⟩
  go_wp2_with fail
  exact bodyPost_ret (v := .tuple #[.agg #[.int .i64 0, .int .i64 0], .int .i64 1]) (by simp [results, Tryd.results20, go_sem]) rfl ⟨rfl, (Below.refl _ _).alloc (Nat.le_refl _) _⟩
set_option maxRecDepth 100000 in
set_option maxHeartbeats 400000 in
theorem sign_yes (x : Int) (t : ByteArray) (w : World) (hx : isSec x) (ht : t.size ≤ 1000000000000) (hT : HasT w) :
    Calls Tryd.prog 20 #[.int .i64 x, .string t] w fun e w' => e = .returned (.tuple #[.agg #[.int .i64 (sgR x t), .int .i64 (sgS x t)], .int .i64 0]) ∧ Below w.heap.size w w' := by
  have hp := fun w => pub_any x w
  have hx1 : 1 ≤ x := hx.1
  have hx2 : x ≤ 2147483645 := hx.2
  have hpr := pubV_range x
  have hrr : 0 ≤ sgR x t ∧ sgR x t ≤ 2147483646 := power_range _ _
  have hcr := chal_range (sgR x t) (pubV x) t
  have hkr := sgK_range x t
  have s1 := dec_size x (by omega) (by omega)
  have i1 := fun w h => itoa_any x w (by omega) (by omega) h
  have hsz : (sgT x t).size < 140737488355328 := by
    have e : (sgT x t).size = 2 + (dec x).size + 1 + t.size := by unfold sgT; rw [ba_size, ba_size, ba_size]; rfl
    omega
  have n1 := fun w h => number_any KC (sgT x t) 2147483645 w hsz (by decide) h
  have c1 := fun w h => ch_any (sgR x t) (pubV x) t w (by omega) (by omega) (by omega) (by omega) (by omega) h
  have p1 := fun w => power_any 7 (sgK x t) w (by omega)
  change ∀ w, Calls _ _ _ _ fun e w' => e = .returned (.int .i64 (sgR x t)) ∧ w = w' at p1
  have hpe : pubE x = 0 := by unfold pubE; rw [if_pos hx]
  rw [hpe] at hp
  have hS : sgS x t = (sgK x t + chal (sgR x t) (pubV x) t * x) % 2147483646 := rfl
  have hK : sgK x t = 1 + number KC (sgT x t) 2147483645 := rfl
  have hnr := number_range KC (sgT x t) 2147483645 (by decide)
  unfold sgT at n1
  obtain ⟨a, ea⟩ : ∃ a, a = dec x := ⟨_, rfl⟩
  obtain ⟨y, ey⟩ : ∃ y, y = pubV x := ⟨_, rfl⟩
  obtain ⟨r, er⟩ : ∃ r, r = sgR x t := ⟨_, rfl⟩
  obtain ⟨k, ek⟩ : ∃ k, k = sgK x t := ⟨_, rfl⟩
  obtain ⟨s, es⟩ : ∃ s, s = sgS x t := ⟨_, rfl⟩
  have enn : number KC (sgT x t) 2147483645 = k - 1 := by rw [ek, hK]; omega
  have enn2 : number KC ({ data := #[107, 32] } ++ dec x ++ { data := #[32] } ++ t) 2147483645 = k - 1 := enn
  obtain ⟨c, ec⟩ : ∃ c, c = chal (sgR x t) (pubV x) t := ⟨_, rfl⟩
  simp only [enn2] at n1
  rw [← ec] at hcr hS
  simp only [← ec] at c1
  rw [← ea] at s1 n1; simp only [← ea] at i1
  rw [← ey] at hpr; simp only [← ey] at hp c1
  rw [← er] at hrr ⊢; simp only [← er] at c1 p1
  rw [← ek] at hS hkr; simp only [← ek] at p1
  rw [← es] at hS ⊢
  have hm0 : 0 ≤ c * x := Int.mul_nonneg hcr.1 (by omega)
  have hm1 : c * x ≤ 4611686009837453316 := by
    have := Int.mul_le_mul (show c ≤ 2147483646 by omega) (show x ≤ 2147483646 by omega) (by omega) (by omega)
    omega
  obtain ⟨hk1, hk2⟩ := hkr
  have hk3 : 1 + (k - 1) = k := by omega
  have I1 := Lib.hid i1
  have N1 := Lib.hid n1
  have C1 := Lib.hid c1
  have P1 := Lib.hid p1
  have HP := Lib.hid hp
  have HS := Lib.hid hS
  clear i1 n1 c1 p1 hp hS hK enn enn2 ea ey er ek es ec hpe hx hnr hsz
  have HT0 := Lib.hid (hT.alloc (.cells #[.int .i64 0, .int .i64 0] 35))
  have HB0 := Lib.hid ((Below.refl w.heap.size w).alloc (Nat.le_refl _) (.cells #[.int .i64 0, .int .i64 0] 35))
  have B0 := Blk.new w [.int .i64 0, .int .i64 0] 35
  clear hT
  go_enter Tryd.func20, Tryd.ntmps20
  go_wp2_with fail
  refine (HP.out _).mono ?_
  rintro e w' ⟨rfl, rfl⟩
  go_wp2_with fail
  refine (I1.out _ HT0.out).mono ?_
  rintro e w1 ⟨rfl, hb1⟩
  have HT1 := Lib.hid (HT0.out.below hb1 (Nat.le_refl _))
  have HB1 := Lib.hid (HB0.out.trans (hb1.mono HB0.out.size))
  have B1 := B0.below hb1 B0.lt
  clear B0 hb1
  go_wp2_with fail
  refine (N1.out _ HT1.out.k).mono ?_
  rintro e w2 ⟨rfl, hb2⟩
  have HT2 := Lib.hid (HT1.out.below hb2 (Nat.le_refl _))
  have HB2 := Lib.hid (HB1.out.trans (hb2.mono HB1.out.size))
  have B2 := B1.below hb2 B1.lt
  clear B1 hb2
  go_wp2_with fail
  refine (P1.out _).mono ?_
  rintro e w' ⟨rfl, rfl⟩
  go_wp2_with fail
  refine (C1.out _ HT2.out).mono ?_
  rintro e w3 ⟨rfl, hb3⟩
  have HT3 := Lib.hid (HT2.out.below hb3 (Nat.le_refl _))
  have HB3 := Lib.hid (HB2.out.trans (hb3.mono HB2.out.size))
  have B3 := B2.below hb3 B2.lt
  have h0 := B3.cell 0 (by simp)
  have h1 := B3.cell 1 (by simp)
  have f0 := B3.frozen 0
  have f1 := B3.frozen 1
  simp only [List.getElem_cons_zero, List.getElem_cons_succ] at h0 h1
  have B4 := (B3.set 0 (.int .i64 r)).set 1 (.int .i64 ((k + c * x) % 2147483646))
  have h40 := B4.cell 0 (by simp)
  have h41 := B4.cell 1 (by simp)
  simp at h40 h41
  clear B2 B3 B4 hb3
  go_wp2_with fail
  refine bodyPost_ret (v := .tuple #[.agg #[.int .i64 r, .int .i64 s], .int .i64 0]) ?_ rfl ⟨rfl, (HB3.out.setCell (Nat.le_refl _) _).setCell (Nat.le_refl _) _⟩
  rw [HS.out]
  simp [results, Tryd.results20, go_sem, h40, h41]
end Go.Proofs.YtaaenobckipfkaaDoor
