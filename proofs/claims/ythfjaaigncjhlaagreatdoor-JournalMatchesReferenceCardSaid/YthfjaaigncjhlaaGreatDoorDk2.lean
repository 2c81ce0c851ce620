/- The disk's sector, fails, Arm, New: what they return and change. -/
import Derived.Test.YthfjaaigncjhlaaGreatDoorDk1
import Derived.Laws.MakeOwn
namespace Go.Proofs.YthfjaaigncjhlaaGreatDoor
open Go.RowKit Go.Blk Go.Dk Go.Mp

section
variable {w : World} {b bs bm n : Nat} {pv : Value} {d : DD}
theorem sector_any (h : DiskAt w b bs bm pv d n) (s : Nat) (hs : s < n) : Calls Tryz.prog 58 #[.pointer (some ⟨b, 0, none⟩), .int .i64 s] w fun e w' => e = .returned (.slice (some ⟨bs, 32 * s, none⟩) 32 (32 * n - 32 * s)) ∧ w = w' := by
  have c1 := h.blk.cellD 1 _ rfl
  have hn2 := h.ok.n2
  have k1 : (s : Int) * 32 ≤ ((s : Int) + 1) * 32 := by omega
  have k2 : ((s : Int) + 1) * 32 ≤ 32 * (n : Int) := by omega
  have k3 : ((s : Int) + 1) * 32 ≤ ((32 * n : Nat) : Int) := by omega
  have k4 : ¬ (32 * n = s * 32) := by omega
  have k5 : (s + 1) * 32 - s * 32 = 32 := by omega
  have e1 : Value.slice (some ⟨bs, 32 * s, none⟩) 32 (32 * n - 32 * s) = .slice (some ⟨bs, s * 32, none⟩) 32 (32 * n - s * 32) := by rw [Nat.mul_comm 32 s]
  rw [e1]
  clear e1
  by_cases h0 : s = 0
  · subst h0
    go_enter Tryz.func58, Tryz.ntmps58
    go_wp2
    go_ret
    exact ⟨rfl, rfl⟩
  · have hs0 : ¬ (s * 32 = 0) := by omega
    go_enter Tryz.func58, Tryz.ntmps58
    go_wp2
    go_ret
    refine ⟨?_, rfl⟩
    show Ending.returned (Value.slice (some ⟨bs, s * 32, none⟩) ((s + 1) * 32 - s * 32) (32 * n - s * 32)) = _
    rw [k5]
theorem fails_any (h : DiskAt w b bs bm pv d n) : Calls Tryz.prog 56 #[.pointer (some ⟨b, 0, none⟩)] w fun e w' => e = .returned (.bool d.failsB) ∧ DiskAt w' b bs bm pv d.tick n ∧ Keep (Fp b bs bm pv) w w' := by
  have c4 := h.blk.cellD 4 _ rfl
  have c5 := h.blk.cellD 5 _ rfl
  have f5 := h.blk.frozen 5
  have a0 := h.ok.a0
  have a1 := h.ok.a1
  cases harm : d.armed with
  | false =>
    have e1 : d.failsB = false := by simp [DD.failsB, harm]
    have e2 : d.tick = d := by simp [DD.tick, harm]
    rw [e1, e2]
    rw [harm] at c4
    have HD := Lib.hid h
    clear e1 e2 h harm
    go_enter Tryz.func56, Tryz.ntmps56
    go_wp2
    go_ret
    exact ⟨rfl, HD.out, Keep.refl _ _⟩
  | true =>
    rw [harm] at c4
    by_cases ha : 0 < d.after
    · have e1 : d.failsB = false := by simp [DD.failsB, harm]; omega
      have e2 : d.tick = { d with after := d.after - 1 } := by simp [DD.tick, harm, ha]
      have h2 := h.set (d' := d.tick) 5 (.int .i64 (d.after - 1)) (by rw [e2]; rfl) (by rw [e2]) (by rw [e2]) h.ok.tick
      rw [e1]
      have HD := Lib.hid h2
      have HK := Lib.hid ((Keep.refl (Fp b bs bm pv) w).setCell (p := ⟨b, 5, none⟩) (fun _ => .inl rfl) (.int .i64 (d.after - 1)))
      obtain ⟨z, ez⟩ : ∃ z, z = d.after := ⟨_, rfl⟩
      rw [← ez] at c5 ha a0 a1 HD HK
      clear e1 e2 h harm h2 ez
      go_enter Tryz.func56, Tryz.ntmps56
      go_wp2
      go_ret
      exact ⟨rfl, HD.out, HK.out⟩
    · have e1 : d.failsB = true := by simp [DD.failsB, harm]; omega
      have e2 : d.tick = d := by simp [DD.tick, ha]
      rw [e1, e2]
      have HD := Lib.hid h
      clear e1 e2 h harm
      go_enter Tryz.func56, Tryz.ntmps56
      go_wp2
      go_ret
      exact ⟨rfl, HD.out, Keep.refl _ _⟩
theorem arm_any (h : DiskAt w b bs bm pv d n) (x y z : Int) (hx0 : -9223372036854775808 ≤ x) (hx1 : x ≤ 9223372036854775807) (hy0 : -9223372036854775808 ≤ y) (hy1 : y ≤ 9223372036854775807) (hz0 : -9223372036854775808 ≤ z) (hz1 : z ≤ 9223372036854775807) :
    Calls Tryz.prog 21 #[.pointer (some ⟨b, 0, none⟩), .int .i64 x, .int .i64 y, .int .i64 z] w fun e w' => e = .returned (.tuple #[]) ∧ DiskAt w' b bs bm pv (d.arm x y z) n ∧ Keep (Fp b bs bm pv) w w' := by
  have c0 := h.blk.cellD 0 _ rfl
  cases hon : d.on with
  | false =>
    have e2 : d.arm x y z = d := by simp [DD.arm, hon]
    rw [e2]
    rw [hon] at c0
    have HD := Lib.hid h
    clear e2 h hon
    go_enter Tryz.func21, Tryz.ntmps21
    go_wp2
    refine bodyPost_ret (results_none rfl _ _ _) rfl ?_
    exact ⟨rfl, HD.out, Keep.refl _ _⟩
  | true =>
    rw [hon] at c0
    have e2 : d.arm x y z = { d with armed := decide (0 ≤ x), after := x, writes := y, bytes := z } := by simp [DD.arm, hon]
    have ok1 : ({ d with armed := decide (0 ≤ x) } : DD).Ok n := ⟨h.ok.len, h.ok.sec, h.ok.few, h.ok.a0, h.ok.a1, h.ok.w0, h.ok.w1, h.ok.b0, h.ok.b1, h.ok.n1, h.ok.n2⟩
    have h1 := h.set (d' := { d with armed := decide (0 ≤ x) }) 4 (.bool (decide (0 ≤ x))) rfl rfl rfl ok1
    have h2 := h1.set (d' := { d with armed := decide (0 ≤ x), after := x }) 5 (.int .i64 x) rfl rfl rfl ⟨h.ok.len, h.ok.sec, h.ok.few, hx0, hx1, h.ok.w0, h.ok.w1, h.ok.b0, h.ok.b1, h.ok.n1, h.ok.n2⟩
    have h3 := h2.set (d' := { d with armed := decide (0 ≤ x), after := x, writes := y }) 6 (.int .i64 y) rfl rfl rfl ⟨h.ok.len, h.ok.sec, h.ok.few, hx0, hx1, hy0, hy1, h.ok.b0, h.ok.b1, h.ok.n1, h.ok.n2⟩
    have h4 := h3.set (d' := { d with armed := decide (0 ≤ x), after := x, writes := y, bytes := z }) 7 (.int .i64 z) rfl rfl rfl ⟨h.ok.len, h.ok.sec, h.ok.few, hx0, hx1, hy0, hy1, hz0, hz1, h.ok.n1, h.ok.n2⟩
    rw [← e2] at h4
    have c4 := h.blk.cellD 4 _ rfl
    have f4 := h.blk.frozen 4
    have c5 := h1.blk.cellD 5 _ rfl
    have f5 := h1.blk.frozen 5
    have c6 := h2.blk.cellD 6 _ rfl
    have f6 := h2.blk.frozen 6
    have c7 := h3.blk.cellD 7 _ rfl
    have f7 := h3.blk.frozen 7
    have HD := Lib.hid h4
    have HK := Lib.hid (((((Keep.refl (Fp b bs bm pv) w).setCell (p := ⟨b, 4, none⟩) (fun _ => .inl rfl) (.bool (decide (0 ≤ x)))).setCell (p := ⟨b, 5, none⟩) (fun _ => .inl rfl) (.int .i64 x)).setCell (p := ⟨b, 6, none⟩) (fun _ => .inl rfl) (.int .i64 y)).setCell (p := ⟨b, 7, none⟩) (fun _ => .inl rfl) (.int .i64 z))
    clear e2 h hon h1 h2 h3 h4 ok1
    obtain ⟨q, eq⟩ : ∃ q, decide (0 ≤ x) = q := ⟨_, rfl⟩
    rw [eq] at c5 f5 c6 f6 c7 f7 HD HK
    go_enter Tryz.func21, Tryz.ntmps21
    go_wp2
    go_end0
    exact ⟨rfl, HD.out, HK.out⟩
end
end Go.Proofs.YthfjaaigncjhlaaGreatDoor
