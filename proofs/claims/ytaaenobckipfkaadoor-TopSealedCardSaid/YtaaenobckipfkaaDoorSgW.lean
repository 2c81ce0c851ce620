/- Package sign: Verify: what it returns, for texts of at most 2^39 bytes. Condition: the variables of digest and of strconv hold their numbers. -/
import Derived.Test.YtaaenobckipfkaaDoorSgV
namespace Go.Proofs.YtaaenobckipfkaaDoor
open Go.RowKit Go.W32 Go.Blk Go.Sg

def verOk (y r s : Int) : Prop := 1 ≤ r ∧ r ≤ 2147483646 ∧ 0 ≤ s ∧ s ≤ 2147483645 ∧ 1 ≤ y ∧ y ≤ 2147483646
instance (y r s : Int) : Decidable (verOk y r s) := by unfold verOk; infer_instance
/-- What Verify returns. -/
def verB (y : Int) (t : ByteArray) (r s : Int) : Bool := decide (verOk y r s) && (power 7 s == r * power y (chal r y t) % 2147483647)

theorem ver_no (y : Int) (t : ByteArray) (r s : Int) (w : World) (h : ¬ verOk y r s) :
    Calls Tryd.prog 18 #[.int .i64 y, .string t, .agg #[.int .i64 r, .int .i64 s]] w fun e w' => e = .returned (.bool false) ∧ Below w.heap.size w w' := by
  have B0 := Blk.new w [.int .i64 r, .int .i64 s] 35
  have h0 := B0.cell 0 (by simp)
  have h1 := B0.cell 1 (by simp)
  simp only [List.getElem_cons_zero, List.getElem_cons_succ] at h0 h1
  clear B0
  by_cases hr : 1 ≤ r ∧ r ≤ 2147483646
  · by_cases hs0 : 0 ≤ s
    · by_cases hs1 : s ≤ 2147483645
      · have hy : ¬ (1 ≤ y ∧ y ≤ 2147483646) := fun hy => h ⟨hr.1, hr.2, hs0, hs1, hy.1, hy.2⟩
        have HY := Lib.hid hy
        have HR := Lib.hid hr
        clear h hy hr
        go_enter Tryd.func18, Tryd.ntmps18
        go_wp2_with fail
        refine (key_yes _ _ HR.out.1 HR.out.2).mono ?_
        rintro e w' ⟨rfl, rfl⟩
        go_wp2_with fail
        refine (key_no _ _ HY.out).mono ?_
        rintro e w' ⟨rfl, rfl⟩
        go_wp2_with fail
        go_ret
        exact ⟨rfl, (Below.refl _ _).alloc (Nat.le_refl _) _⟩
      · have HR := Lib.hid hr
        clear h hr
        go_enter Tryd.func18, Tryd.ntmps18
        go_wp2_with fail
        refine (key_yes _ _ HR.out.1 HR.out.2).mono ?_
        rintro e w' ⟨rfl, rfl⟩
        go_wp2_with fail
        go_ret
        exact ⟨rfl, (Below.refl _ _).alloc (Nat.le_refl _) _⟩
    · have HR := Lib.hid hr
      clear h hr
      go_enter Tryd.func18, Tryd.ntmps18
      go_wp2_with fail
      refine (key_yes _ _ HR.out.1 HR.out.2).mono ?_
      rintro e w' ⟨rfl, rfl⟩
      go_wp2_with fail
      go_ret
      exact ⟨rfl, (Below.refl _ _).alloc (Nat.le_refl _) _⟩
  · have HR := Lib.hid hr
    clear h hr
    go_enter Tryd.func18, Tryd.ntmps18
    go_wp2_with fail
    refine (key_no _ _ HR.out).mono ?_
    rintro e w' ⟨rfl, rfl⟩
    go_wp2_with fail
    go_ret
    exact ⟨rfl, (Below.refl _ _).alloc (Nat.le_refl _) _⟩
theorem below_drewN {B : Nat} {a w : World} (h : Below B a w) (n : Nat) : Below B a (w.drewN n) := ⟨h.os, h.tape, h.output, h.size, h.block⟩
theorem quiet_left {P : Program} {f : FuncId} {args : Array Value} {w : World} {n : Nat} {v : Value}
    (h : Calls P f args (w.drewN n) fun e w' => e = .returned v ∧ w.drewN n = w') : Calls P f args (w.drewN n) fun e w'' => e = .returned v ∧ ∃ m, w'' = w.drewN m :=
  h.mono fun _ _ ⟨he, hm⟩ => ⟨he, n, hm.symm⟩
set_option maxRecDepth 100000 in
set_option maxHeartbeats 400000 in
theorem ver_yes (y : Int) (t : ByteArray) (r s : Int) (w : World) (h : verOk y r s) (ht : t.size ≤ 1000000000000) (hT : HasT w) :
    Calls Tryd.prog 18 #[.int .i64 y, .string t, .agg #[.int .i64 r, .int .i64 s]] w fun e w' => e = .returned (.bool (power 7 s == r * power y (chal r y t) % 2147483647)) ∧ Below w.heap.size w w' := by
  obtain ⟨hr1, hr2, hs1, hs2, hy1, hy2⟩ := h
  have B0 := Blk.new w [.int .i64 r, .int .i64 s] 35
  have h0 := B0.cell 0 (by simp)
  have h1 := B0.cell 1 (by simp)
  simp only [List.getElem_cons_zero, List.getElem_cons_succ] at h0 h1
  have hcr := chal_range r y t
  have c1 := fun w h => ch_any r y t w (by omega) (by omega) (by omega) (by omega) (by omega) h
  have p1 := fun w => power_any y (chal r y t) w (by omega)
  have p2 := fun w => power_any 7 s w (by omega)
  have hpr := power_range y (chal r y t)
  obtain ⟨c, ec⟩ : ∃ c, c = chal r y t := ⟨_, rfl⟩
  rw [← ec] at hcr hpr ⊢
  simp only [← ec] at c1 p1
  obtain ⟨q, eq⟩ : ∃ q, q = power y c := ⟨_, rfl⟩
  rw [← eq] at hpr ⊢
  simp only [← eq] at p1
  obtain ⟨v, ev⟩ : ∃ v, v = power 7 s := ⟨_, rfl⟩
  rw [← ev]
  simp only [← ev] at p2
  have hm0 : 0 ≤ r * q := Int.mul_nonneg (by omega) hpr.1
  have hm1 : r * q ≤ 4611686009837453316 := by
    have := Int.mul_le_mul hr2 hpr.2 (by omega) (by omega)
    omega
  have C1 := Lib.hid c1
  have P1 := Lib.hid p1
  have P2 := Lib.hid p2
  clear ec eq ev c1 p1 p2
  have HT0 := Lib.hid (hT.alloc (.cells #[.int .i64 r, .int .i64 s] 35))
  have HB0 := Lib.hid ((Below.refl w.heap.size w).alloc (Nat.le_refl _) (.cells #[.int .i64 r, .int .i64 s] 35))
  clear hT
  go_enter Tryd.func18, Tryd.ntmps18
  go_wp2_with fail
  refine (key_yes _ _ hr1 hr2).mono ?_
  rintro e w' ⟨rfl, rfl⟩
  go_wp2_with fail
  refine (key_yes _ _ hy1 hy2).mono ?_
  rintro e w' ⟨rfl, rfl⟩
  go_wp2_with fail
  refine (C1.out _ HT0.out).mono ?_
  rintro e w1 ⟨rfl, hb1⟩
  have HT1 := Lib.hid (HT0.out.below hb1 (Nat.le_refl _))
  have HB1 := Lib.hid (HB0.out.trans (hb1.mono HB0.out.size))
  have B1 := B0.below hb1 B0.lt
  have h10 := B1.cell 0 (by simp)
  have h11 := B1.cell 1 (by simp)
  simp only [List.getElem_cons_zero, List.getElem_cons_succ] at h10 h11
  clear B0 B1 hb1 h0 h1
  go_wp2_with fail
  refine (P1.out _).mono ?_
  rintro e w' ⟨rfl, rfl⟩
  go_wp2_with fail
  have hw1 : IntKind.i64.wrap (r * q) = r * q := IntWalk.i64_in _ (by omega)
  have hw2 : (r * q).tmod 2147483647 = r * q % 2147483647 := Int.tmod_eq_emod_of_nonneg hm0
  go_quiet ((go_at_call 33; exact quiet_left (P2.out _)))
  go_wp2_with fail
  go_ret
  exact ⟨rfl, below_drewN HB1.out _⟩
theorem ver_any (y : Int) (t : ByteArray) (r s : Int) (w : World) (ht : t.size ≤ 1000000000000) (hT : HasT w) :
    Calls Tryd.prog 18 #[.int .i64 y, .string t, .agg #[.int .i64 r, .int .i64 s]] w fun e w' => e = .returned (.bool (verB y t r s)) ∧ Below w.heap.size w w' := by
  unfold verB
  by_cases h : verOk y r s
  · rw [decide_eq_true h, Bool.true_and]; exact ver_yes y t r s w h ht hT
  · rw [decide_eq_false h, Bool.false_and]; exact ver_no y t r s w h
end Go.Proofs.YtaaenobckipfkaaDoor
