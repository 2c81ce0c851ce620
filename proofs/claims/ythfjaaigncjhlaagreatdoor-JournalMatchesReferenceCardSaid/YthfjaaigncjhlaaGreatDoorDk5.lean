/- The disk's Fail, Sync and Read: what they return and change. -/
import Derived.Test.YthfjaaigncjhlaaGreatDoorDk4
namespace Go.Proofs.YthfjaaigncjhlaaGreatDoor
open Go.RowKit Go.Blk Go.Dk Go.Mp

section
variable {w : World} {b bs bm n : Nat} {pv : Value} {d : DD}
/-- What an operation leaves: the disk, and all other blocks as they were. -/
def DkPost (w : World) (b bs bm n : Nat) (pv : Value) (d : DD) (v : Value) (e : Ending) (w' : World) : Prop :=
  e = .returned v ∧ ∃ bm' pv', DiskAt w' b bs bm' pv' d n ∧ Keep (Fp b bs bm pv) w w' ∧ (bm' = bm ∨ w.heap.size ≤ bm') ∧ (∀ k, pv'.ownBlock = some k → pv.ownBlock = some k ∨ w.heap.size ≤ k)
theorem dk_same (h : DiskAt w b bs bm pv d n) (v : Value) : DkPost w b bs bm n pv d v (.returned v) w := ⟨rfl, bm, pv, h, Keep.refl _ _, .inl rfl, fun _ h => .inl h⟩
theorem fp_more {bm' : Nat} {pv' : Value} {w0 : World} (h1 : bm' = bm ∨ w0.heap.size ≤ bm') (h2 : ∀ k, pv'.ownBlock = some k → pv.ownBlock = some k ∨ w0.heap.size ≤ k) (k : Nat) (hk : k < w0.heap.size) (hf : Fp b bs bm' pv' k) : Fp b bs bm pv k := by
  rcases hf with rfl | rfl | rfl | e
  · exact .inl rfl
  · exact .inr (.inl rfl)
  · rcases h1 with rfl | h1
    · exact .inr (.inr (.inl rfl))
    · omega
  · rcases h2 k e with h2 | h2
    · exact .inr (.inr (.inr h2))
    · omega
set_option maxRecDepth 100000 in
theorem fail_any (h : DiskAt w b bs bm pv d n) (x y : Int) (hx0 : -9223372036854775808 ≤ x) (hx1 : x ≤ 9223372036854775807) :
    Calls Tryz.prog 17 #[.pointer (some ⟨b, 0, none⟩), .int .i64 x, .int .i64 y] w (DkPost w b bs bm n pv (d.fail x y) (.tuple #[])) := by
  have c0 := h.blk.cellD 0 _ rfl
  cases hon : d.on with
  | false =>
    have e2 : d.fail x y = d := by simp [DD.fail, hon]
    rw [e2]
    rw [hon] at c0
    have HD := Lib.hid (dk_same h (.tuple #[]))
    clear e2 h hon
    go_enter Tryz.func17, Tryz.ntmps17
    go_wp2
    refine bodyPost_ret (results_none rfl _ _ _) rfl ?_
    exact HD.out
  | true =>
    rw [hon] at c0
    have e2 : d.fail x y = { d with on := false, st := settled d.st d.pend (clampW x) (clampB y), pend := [], armed := false } := by simp [DD.fail, hon]
    rw [e2]
    have s1 := settle_any h (clampW x) (clampB y) (by unfold clampW; omega) (by unfold clampB; omega)
    clear e2 hon
    by_cases hx : x < 0
    · by_cases hy : y < 0
      · have ex : ((clampW x : Nat) : Int) = 0 := by unfold clampW; omega
        have ey : ((clampB y : Nat) : Int) = 0 := by unfold clampB; omega
        rw [ex, ey] at s1
        have S1 := Lib.hid s1
        clear ex ey
        go_enter Tryz.func17, Tryz.ntmps17
        go_wp2_with fail
        refine S1.out.mono ?_
        rintro e w1 ⟨rfl, bm1, h1, k1, hb1⟩
        have ok1 := h1.ok
        have h2 := h1.set (d' := { d with on := false, st := settled d.st d.pend (clampW x) (clampB y), pend := [] }) 0 (.bool false) rfl rfl rfl ⟨ok1.len, ok1.sec, ok1.few, ok1.a0, ok1.a1, ok1.w0, ok1.w1, ok1.b0, ok1.b1, ok1.n1, ok1.n2⟩
        have h3 := h2.set (d' := { d with on := false, st := settled d.st d.pend (clampW x) (clampB y), pend := [], armed := false }) 4 (.bool false) rfl rfl rfl ⟨ok1.len, ok1.sec, ok1.few, ok1.a0, ok1.a1, ok1.w0, ok1.w1, ok1.b0, ok1.b1, ok1.n1, ok1.n2⟩
        have k0 := h1.blk.cellD 0 _ rfl
        have g0 := h1.blk.frozen 0
        have k4 := h2.blk.cellD 4 _ rfl
        have g4 := h2.blk.frozen 4
        have fin : DkPost w b bs bm n pv { d with on := false, st := settled d.st d.pend (clampW x) (clampB y), pend := [], armed := false } (.tuple #[]) (.returned (.tuple #[])) ((w1.setCell ⟨b, 0, none⟩ (.bool false)).setCell ⟨b, 4, none⟩ (.bool false)) :=
          ⟨rfl, bm1, .slice none 0 0, h3, (k1.setCell (p := ⟨b, 0, none⟩) (fun _ => .inl rfl) _).setCell (p := ⟨b, 4, none⟩) (fun _ => .inl rfl) _, .inr hb1, fun k e => by simp [Value.ownBlock] at e⟩
        have FIN := Lib.hid fin
        clear fin h1 h2 h3 ok1 k1 hb1 h s1 S1 c0
        go_wp2_with fail
        go_end0
        exact FIN.out
      · by_cases hy2 : 32 < y
        · have ex : ((clampW x : Nat) : Int) = 0 := by unfold clampW; omega
          have ey : ((clampB y : Nat) : Int) = 32 := by unfold clampB; omega
          rw [ex, ey] at s1
          have S1 := Lib.hid s1
          clear ex ey
          go_enter Tryz.func17, Tryz.ntmps17
          go_wp2_with fail
          refine S1.out.mono ?_
          rintro e w1 ⟨rfl, bm1, h1, k1, hb1⟩
          have ok1 := h1.ok
          have h2 := h1.set (d' := { d with on := false, st := settled d.st d.pend (clampW x) (clampB y), pend := [] }) 0 (.bool false) rfl rfl rfl ⟨ok1.len, ok1.sec, ok1.few, ok1.a0, ok1.a1, ok1.w0, ok1.w1, ok1.b0, ok1.b1, ok1.n1, ok1.n2⟩
          have h3 := h2.set (d' := { d with on := false, st := settled d.st d.pend (clampW x) (clampB y), pend := [], armed := false }) 4 (.bool false) rfl rfl rfl ⟨ok1.len, ok1.sec, ok1.few, ok1.a0, ok1.a1, ok1.w0, ok1.w1, ok1.b0, ok1.b1, ok1.n1, ok1.n2⟩
          have k0 := h1.blk.cellD 0 _ rfl
          have g0 := h1.blk.frozen 0
          have k4 := h2.blk.cellD 4 _ rfl
          have g4 := h2.blk.frozen 4
          have fin : DkPost w b bs bm n pv { d with on := false, st := settled d.st d.pend (clampW x) (clampB y), pend := [], armed := false } (.tuple #[]) (.returned (.tuple #[])) ((w1.setCell ⟨b, 0, none⟩ (.bool false)).setCell ⟨b, 4, none⟩ (.bool false)) :=
            ⟨rfl, bm1, .slice none 0 0, h3, (k1.setCell (p := ⟨b, 0, none⟩) (fun _ => .inl rfl) _).setCell (p := ⟨b, 4, none⟩) (fun _ => .inl rfl) _, .inr hb1, fun k e => by simp [Value.ownBlock] at e⟩
          have FIN := Lib.hid fin
          clear fin h1 h2 h3 ok1 k1 hb1 h s1 S1 c0
          go_wp2_with fail
          go_end0
          exact FIN.out
        · have ex : ((clampW x : Nat) : Int) = 0 := by unfold clampW; omega
          have ey : ((clampB y : Nat) : Int) = y := by unfold clampB; omega
          rw [ex, ey] at s1
          have S1 := Lib.hid s1
          clear ex ey
          go_enter Tryz.func17, Tryz.ntmps17
          go_wp2_with fail
          refine S1.out.mono ?_
          rintro e w1 ⟨rfl, bm1, h1, k1, hb1⟩
          have ok1 := h1.ok
          have h2 := h1.set (d' := { d with on := false, st := settled d.st d.pend (clampW x) (clampB y), pend := [] }) 0 (.bool false) rfl rfl rfl ⟨ok1.len, ok1.sec, ok1.few, ok1.a0, ok1.a1, ok1.w0, ok1.w1, ok1.b0, ok1.b1, ok1.n1, ok1.n2⟩
          have h3 := h2.set (d' := { d with on := false, st := settled d.st d.pend (clampW x) (clampB y), pend := [], armed := false }) 4 (.bool false) rfl rfl rfl ⟨ok1.len, ok1.sec, ok1.few, ok1.a0, ok1.a1, ok1.w0, ok1.w1, ok1.b0, ok1.b1, ok1.n1, ok1.n2⟩
          have k0 := h1.blk.cellD 0 _ rfl
          have g0 := h1.blk.frozen 0
          have k4 := h2.blk.cellD 4 _ rfl
          have g4 := h2.blk.frozen 4
          have fin : DkPost w b bs bm n pv { d with on := false, st := settled d.st d.pend (clampW x) (clampB y), pend := [], armed := false } (.tuple #[]) (.returned (.tuple #[])) ((w1.setCell ⟨b, 0, none⟩ (.bool false)).setCell ⟨b, 4, none⟩ (.bool false)) :=
            ⟨rfl, bm1, .slice none 0 0, h3, (k1.setCell (p := ⟨b, 0, none⟩) (fun _ => .inl rfl) _).setCell (p := ⟨b, 4, none⟩) (fun _ => .inl rfl) _, .inr hb1, fun k e => by simp [Value.ownBlock] at e⟩
          have FIN := Lib.hid fin
          clear fin h1 h2 h3 ok1 k1 hb1 h s1 S1 c0
          go_wp2_with fail
          go_end0
          exact FIN.out
    · by_cases hy : y < 0
      · have ex : ((clampW x : Nat) : Int) = x := by unfold clampW; omega
        have ey : ((clampB y : Nat) : Int) = 0 := by unfold clampB; omega
        rw [ex, ey] at s1
        have S1 := Lib.hid s1
        clear ex ey
        go_enter Tryz.func17, Tryz.ntmps17
        go_wp2_with fail
        refine S1.out.mono ?_
        rintro e w1 ⟨rfl, bm1, h1, k1, hb1⟩
        have ok1 := h1.ok
        have h2 := h1.set (d' := { d with on := false, st := settled d.st d.pend (clampW x) (clampB y), pend := [] }) 0 (.bool false) rfl rfl rfl ⟨ok1.len, ok1.sec, ok1.few, ok1.a0, ok1.a1, ok1.w0, ok1.w1, ok1.b0, ok1.b1, ok1.n1, ok1.n2⟩
        have h3 := h2.set (d' := { d with on := false, st := settled d.st d.pend (clampW x) (clampB y), pend := [], armed := false }) 4 (.bool false) rfl rfl rfl ⟨ok1.len, ok1.sec, ok1.few, ok1.a0, ok1.a1, ok1.w0, ok1.w1, ok1.b0, ok1.b1, ok1.n1, ok1.n2⟩
        have k0 := h1.blk.cellD 0 _ rfl
        have g0 := h1.blk.frozen 0
        have k4 := h2.blk.cellD 4 _ rfl
        have g4 := h2.blk.frozen 4
        have fin : DkPost w b bs bm n pv { d with on := false, st := settled d.st d.pend (clampW x) (clampB y), pend := [], armed := false } (.tuple #[]) (.returned (.tuple #[])) ((w1.setCell ⟨b, 0, none⟩ (.bool false)).setCell ⟨b, 4, none⟩ (.bool false)) :=
          ⟨rfl, bm1, .slice none 0 0, h3, (k1.setCell (p := ⟨b, 0, none⟩) (fun _ => .inl rfl) _).setCell (p := ⟨b, 4, none⟩) (fun _ => .inl rfl) _, .inr hb1, fun k e => by simp [Value.ownBlock] at e⟩
        have FIN := Lib.hid fin
        clear fin h1 h2 h3 ok1 k1 hb1 h s1 S1 c0
        go_wp2_with fail
        go_end0
        exact FIN.out
      · by_cases hy2 : 32 < y
        · have ex : ((clampW x : Nat) : Int) = x := by unfold clampW; omega
          have ey : ((clampB y : Nat) : Int) = 32 := by unfold clampB; omega
          rw [ex, ey] at s1
          have S1 := Lib.hid s1
          clear ex ey
          go_enter Tryz.func17, Tryz.ntmps17
          go_wp2_with fail
          refine S1.out.mono ?_
          rintro e w1 ⟨rfl, bm1, h1, k1, hb1⟩
          have ok1 := h1.ok
          have h2 := h1.set (d' := { d with on := false, st := settled d.st d.pend (clampW x) (clampB y), pend := [] }) 0 (.bool false) rfl rfl rfl ⟨ok1.len, ok1.sec, ok1.few, ok1.a0, ok1.a1, ok1.w0, ok1.w1, ok1.b0, ok1.b1, ok1.n1, ok1.n2⟩
          have h3 := h2.set (d' := { d with on := false, st := settled d.st d.pend (clampW x) (clampB y), pend := [], armed := false }) 4 (.bool false) rfl rfl rfl ⟨ok1.len, ok1.sec, ok1.few, ok1.a0, ok1.a1, ok1.w0, ok1.w1, ok1.b0, ok1.b1, ok1.n1, ok1.n2⟩
          have k0 := h1.blk.cellD 0 _ rfl
          have g0 := h1.blk.frozen 0
          have k4 := h2.blk.cellD 4 _ rfl
          have g4 := h2.blk.frozen 4
          have fin : DkPost w b bs bm n pv { d with on := false, st := settled d.st d.pend (clampW x) (clampB y), pend := [], armed := false } (.tuple #[]) (.returned (.tuple #[])) ((w1.setCell ⟨b, 0, none⟩ (.bool false)).setCell ⟨b, 4, none⟩ (.bool false)) :=
            ⟨rfl, bm1, .slice none 0 0, h3, (k1.setCell (p := ⟨b, 0, none⟩) (fun _ => .inl rfl) _).setCell (p := ⟨b, 4, none⟩) (fun _ => .inl rfl) _, .inr hb1, fun k e => by simp [Value.ownBlock] at e⟩
          have FIN := Lib.hid fin
          clear fin h1 h2 h3 ok1 k1 hb1 h s1 S1 c0
          go_wp2_with fail
          go_end0
          exact FIN.out
        · have ex : ((clampW x : Nat) : Int) = x := by unfold clampW; omega
          have ey : ((clampB y : Nat) : Int) = y := by unfold clampB; omega
          rw [ex, ey] at s1
          have S1 := Lib.hid s1
          clear ex ey
          go_enter Tryz.func17, Tryz.ntmps17
          go_wp2_with fail
          refine S1.out.mono ?_
          rintro e w1 ⟨rfl, bm1, h1, k1, hb1⟩
          have ok1 := h1.ok
          have h2 := h1.set (d' := { d with on := false, st := settled d.st d.pend (clampW x) (clampB y), pend := [] }) 0 (.bool false) rfl rfl rfl ⟨ok1.len, ok1.sec, ok1.few, ok1.a0, ok1.a1, ok1.w0, ok1.w1, ok1.b0, ok1.b1, ok1.n1, ok1.n2⟩
          have h3 := h2.set (d' := { d with on := false, st := settled d.st d.pend (clampW x) (clampB y), pend := [], armed := false }) 4 (.bool false) rfl rfl rfl ⟨ok1.len, ok1.sec, ok1.few, ok1.a0, ok1.a1, ok1.w0, ok1.w1, ok1.b0, ok1.b1, ok1.n1, ok1.n2⟩
          have k0 := h1.blk.cellD 0 _ rfl
          have g0 := h1.blk.frozen 0
          have k4 := h2.blk.cellD 4 _ rfl
          have g4 := h2.blk.frozen 4
          have fin : DkPost w b bs bm n pv { d with on := false, st := settled d.st d.pend (clampW x) (clampB y), pend := [], armed := false } (.tuple #[]) (.returned (.tuple #[])) ((w1.setCell ⟨b, 0, none⟩ (.bool false)).setCell ⟨b, 4, none⟩ (.bool false)) :=
            ⟨rfl, bm1, .slice none 0 0, h3, (k1.setCell (p := ⟨b, 0, none⟩) (fun _ => .inl rfl) _).setCell (p := ⟨b, 4, none⟩) (fun _ => .inl rfl) _, .inr hb1, fun k e => by simp [Value.ownBlock] at e⟩
          have FIN := Lib.hid fin
          clear fin h1 h2 h3 ok1 k1 hb1 h s1 S1 c0
          go_wp2_with fail
          go_end0
          exact FIN.out
theorem tick_st (d : DD) : d.tick.st = d.st := by unfold DD.tick; split <;> rfl
theorem tick_pend (d : DD) : d.tick.pend = d.pend := by unfold DD.tick; split <;> rfl
theorem tick_fails (d : DD) (h : d.failsB = true) : d.tick = d := by
  simp [DD.failsB] at h
  unfold DD.tick
  rw [if_neg (by omega)]
set_option maxRecDepth 100000 in
set_option maxHeartbeats 1000000 in
theorem sync_any (h : DiskAt w b bs bm pv d n) : Calls Tryz.prog 26 #[.pointer (some ⟨b, 0, none⟩)] w (DkPost w b bs bm n pv d.sync.1 (.int .i64 d.sync.2)) := by
  have c0 := h.blk.cellD 0 _ rfl
  cases hon : d.on with
  | false =>
    have e2 : d.sync = (d, 21) := by simp [DD.sync, hon]
    rw [e2]
    rw [hon] at c0
    have HD := Lib.hid (dk_same h (.int .i64 21))
    clear e2 h hon
    go_enter Tryz.func26, Tryz.ntmps26
    go_wp2
    go_ret
    exact HD.out
  | true =>
    rw [hon] at c0
    have F1 := Lib.hid (fails_any h)
    cases hf : d.failsB with
    | true =>
      have e2 : d.sync = (d.fail d.writes d.bytes, 21) := by simp [DD.sync, hon, hf]
      rw [e2]
      rw [hf, tick_fails d hf] at F1
      have hw0 := h.ok.w0
      have hw1 := h.ok.w1
      clear e2 hf hon
      go_enter Tryz.func26, Tryz.ntmps26
      go_wp2_with fail
      refine F1.out.mono ?_
      rintro e w1 ⟨rfl, h1, k1⟩
      have c6 := h1.blk.cellD 6 _ rfl
      have c7 := h1.blk.cellD 7 _ rfl
      have D1 := Lib.hid h1
      have K1 := Lib.hid k1
      clear h1 k1 F1 h c0
      go_wp2_with fail
      refine Free.wp_region_free 9 [] (fun w2 => w2.cell? ⟨b, 6, none⟩ = some (.int .i64 d.writes) ∧ w2.cell? ⟨b, 7, none⟩ = some (.int .i64 d.bytes)) (by kernel_rfl) (by kernel_rfl) ?_ ⟨c6, c7⟩ (fun _ _ h g => ⟨cell_grow' h.1 g, cell_grow' h.2 g⟩) ?_
      · intro j mk r hf
        simp only [Free.find] at hf
        cases hf
      · simp only [List.take_succ_cons, List.take_zero]
        clear c6 c7
        iterate 9 (apply Free.chain_still (by first | exact Free.wanted_of rfl rfl rfl | rfl) rfl; (intro w' hB hA; obtain ⟨q0, q1⟩ := hB; clear hA ; go_light; go_simp <;> rfl); (try simp only [Act.put, List.setIfInBounds_toArray, List.set_cons_succ, List.set_cons_zero]))
        apply Free.chain_nil
        intro wz _ hg _
        simp only [List.drop_succ_cons, List.drop_zero]
        have hz := grow_drew' hg
        have Dz := Lib.hid (D1.out.below hz)
        have Kz := Lib.hid (K1.out.trans (G := fun _ => False) (Keep.of_below hz) (fun _ _ f => f.elim))
        clear hg hz
        go_wp2_with fail
        refine (fail_any Dz.out d.writes d.bytes hw0 hw1).mono ?_
        rintro e w3 ⟨rfl, bm3, pv3, h3, k3, hb3, hp3⟩
        have fin : DkPost w b bs bm n pv (d.fail d.writes d.bytes) (.int .i64 21) (.returned (.int .i64 21)) w3 :=
          ⟨rfl, bm3, pv3, h3, Kz.out.trans k3 (fun _ _ f => f), hb3.imp id (fun h => Nat.le_trans Kz.out.size h), fun k e => (hp3 k e).imp id (fun h => Nat.le_trans Kz.out.size h)⟩
        have FIN := Lib.hid fin
        clear fin h3 k3 hb3 hp3
        go_wp2_with fail
        go_ret
        exact FIN.out
    | false =>
      have e2 : d.sync = ({ d.tick with st := settled d.st d.pend d.pend.length 0, pend := [] }, 0) := by simp [DD.sync, hon, hf]
      rw [e2]
      rw [hf] at F1
      have hfew := h.ok.few
      obtain ⟨A, c, rfl⟩ := pv_form h
      clear e2 hf hon
      go_enter Tryz.func26, Tryz.ntmps26
      go_wp2_with fail
      refine F1.out.mono ?_
      rintro e w1 ⟨rfl, h1, k1⟩
      have c2 := h1.blk.cellD 2 _ rfl
      have S1 := settle_any h1 d.pend.length 0 (by omega) (by omega)
      rw [tick_st, tick_pend] at S1
      have SS := Lib.hid S1
      have K1 := Lib.hid k1
      clear S1 h1 k1 F1 h c0
      go_wp2_with fail
      refine SS.out.mono ?_
      rintro e w3 ⟨rfl, bm3, h3, k3, hb3⟩
      have fin : DkPost w b bs bm n (.slice A d.pend.length c) { d.tick with st := settled d.st d.pend d.pend.length 0, pend := [] } (.int .i64 0) (.returned (.int .i64 0)) w3 :=
        ⟨rfl, bm3, .slice none 0 0, h3, K1.out.trans k3 (fun _ _ f => f), .inr (Nat.le_trans K1.out.size hb3), fun k e => by simp [Value.ownBlock] at e⟩
      have FIN := Lib.hid fin
      clear fin h3 k3 hb3 SS c2
      go_wp2_with fail
      go_ret
      exact FIN.out
end
end Go.Proofs.YthfjaaigncjhlaaGreatDoor
