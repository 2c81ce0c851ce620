/- Package journal: present. Condition: the disk is on and has at least 4 sectors; the journal has no value yet. -/
import Derived.Test.YthfjaaigncjhlaaGreatDoorJoD
namespace Go.Proofs.YthfjaaigncjhlaaGreatDoor
open Go.RowKit Go.Blk Go.Jn Go.Dk Go.Mp

theorem code_ok {n : Nat} {d : DD} (h : d.Ok n) (hon : d.on = true) {s : Nat} (hs : s < n) : (DD.read n d (s : Int)).2 = 0 ∧ (⟨(DD.read n d (s : Int)).1.toArray⟩ : ByteArray) = tx (sec (eff d) s) := by
  rw [read_eff h hon hs]; exact ⟨rfl, rfl⟩
/-- read of a sector of a disk that is on. -/
theorem jread_on {w : World} {jb b bs bm n : Nat} {pv : Value} {d : DD} (hj : w.cell? ⟨jb, 5, none⟩ = some (.pointer (some ⟨b, 0, none⟩))) (h : DiskAt w b bs bm pv d n) (hon : d.on = true) (s : Nat) (hs : s < n) :
    Calls Tryz.prog 62 #[.pointer (some ⟨jb, 0, none⟩), .int .i64 (s : Int)] w fun e w' => e = .returned (.string (tx (sec (eff d) s))) ∧ w = w' := by
  obtain ⟨h1, h2⟩ := code_ok h.ok hon hs
  have := jread_ok hj h (s : Int) h1
  rw [h2] at this
  exact this
theorem set3 {w : World} {b : Nat} {cs : List Value} {T : TypeId} (h : Blk w b cs T) (x y z : Value) : Blk (w.setCells b 0 [x, y, z]) b (((cs.set 0 x).set 1 y).set 2 z) T := by
  have := ((h.set 0 x).set 1 y).set 2 z
  exact this
theorem keep_set3 {F : Nat → Prop} {a w : World} {b : Nat} (h : Keep F a w) (hF : b < a.heap.size → F b) (x y z : Value) : Keep F a (w.setCells b 0 [x, y, z]) :=
  ((h.setCell (p := ⟨b, 0, none⟩) hF x).setCell (p := ⟨b, 1, none⟩) hF y).setCell (p := ⟨b, 2, none⟩) hF z
def ParP (r : Option (Nat × Nat × Nat)) (v : Nat × Nat × Nat) (k : Bool) : Prop := (k = true ∧ r = some v) ∨ (k = false ∧ r = none ∧ v = (0, 0, 0))
theorem par_pair {r : Option (Nat × Nat × Nat)} {w w' : World} {e : Ending} (h : ParPost r w e w') : Below w.heap.size w w' ∧ ∃ (x y z : Nat) (k : Bool), e = .returned (.tuple #[valV x y z, .bool k]) ∧ ParP r (x, y, z) k := by
  obtain ⟨h1, ⟨h2, h3⟩ | ⟨v, h2, h3⟩⟩ := h
  · exact ⟨h1, 0, 0, 0, false, h3, .inr ⟨rfl, h2, rfl⟩⟩
  · exact ⟨h1, v.1, v.2.1, v.2.2, true, h3, .inl ⟨rfl, h2⟩⟩
set_option maxRecDepth 100000 in
set_option maxHeartbeats 400000 in
theorem present_any {w : World} {jb b bs bm n : Nat} {pv rv : Value} {d : DD} (hd : DiskAt w b bs bm pv d n) (hon : d.on = true) (hn : 4 ≤ n) (hj : Blk w jb (cellsJ (0, 0, 0) 0 ((n - 2) / 2) b rv false) 63) :
    Calls Tryz.prog 34 #[.pointer (some ⟨jb, 0, none⟩)] w fun e w' => Keep (fun k => k = jb) w w' ∧
      ((presV (sec (eff d) 0) (sec (eff d) 1) (32 * ((n - 2) / 2)) = none ∧ e = .returned (.bool false)) ∨
        ∃ v a, presV (sec (eff d) 0) (sec (eff d) 1) (32 * ((n - 2) / 2)) = some (v, a) ∧ e = .returned (.bool true) ∧ Blk w' jb (cellsJ v a ((n - 2) / 2) b rv false) 63) := by
  have hn2 := hd.ok.n2
  obtain ⟨size, es⟩ : ∃ size, size = (n - 2) / 2 := ⟨_, rfl⟩
  rw [← es] at hj ⊢
  have hsz : size ≤ 2000 := by omega
  have l0 : (sec (eff d) 0).length = 32 := sec_len (by rw [eff_len hd.ok]; omega)
  have l1 : (sec (eff d) 1).length = 32 := sec_len (by rw [eff_len hd.ok]; omega)
  have HD := Lib.hid (fun (w' : World) (hb : Below w.heap.size w w') (s : Nat) (hs : s < n) => jread_on (jb := jb) (w := w') (by exact (hj.below hb hj.lt).cellD 5 _ rfl) (hd.below hb) hon s hs)
  have HRM := Lib.hid (fun (w' : World) (hb : Below w.heap.size w w') => room_any (w := w') (jb := jb) size ((hj.below hb hj.lt).cellD 4 _ rfl) (by omega))
  obtain ⟨room, er⟩ : ∃ room, room = 32 * size := ⟨_, rfl⟩
  rw [← er] at HRM ⊢
  have HP := Lib.hid (fun (w' : World) (s : List UInt8) (hs : s.length = 32) => parse_any (tx s) room w' (by omega) (by rw [tx_size]; omega))
  obtain ⟨s0, e0⟩ : ∃ s0, s0 = sec (eff d) 0 := ⟨_, rfl⟩
  obtain ⟨s1, e1⟩ : ∃ s1, s1 = sec (eff d) 1 := ⟨_, rfl⟩
  rw [← e0] at l0 ⊢
  rw [← e1] at l1 ⊢
  have R0 := Lib.hid (fun (w' : World) (hb : Below w.heap.size w w') => HD.out w' hb 0 (by omega))
  have R1 := Lib.hid (fun (w' : World) (hb : Below w.heap.size w w') => HD.out w' hb 1 (by omega))
  rw [← e0] at R0
  rw [← e1] at R1
  have P0 := Lib.hid (fun w' => HP.out w' s0 l0)
  have P1 := Lib.hid (fun w' => HP.out w' s1 l1)
  rw [tx_data] at P0 P1
  obtain ⟨R, eR⟩ : ∃ R : Ending → World → Prop, R = fun e w' => Keep (fun k => k = jb) w w' ∧
      ((presV s0 s1 room = none ∧ e = .returned (.bool false)) ∨ ∃ v a, presV s0 s1 room = some (v, a) ∧ e = .returned (.bool true) ∧ Blk w' jb (cellsJ v a size b rv false) 63) := ⟨_, rfl⟩
  rw [← eR]
  have FN : Hid (presV s0 s1 room = none → ∀ w', Keep (fun k => k = jb) w w' → R (.returned (.bool false)) w') := fun h w' hk => by rw [eR]; exact ⟨hk, .inl ⟨h, rfl⟩⟩
  have FS : Hid (∀ v a, presV s0 s1 room = some (v, a) → ∀ w', Keep (fun k => k = jb) w w' → Blk w' jb (cellsJ v a size b rv false) 63 → R (.returned (.bool true)) w') := fun v a h w' hk hb => by rw [eR]; exact ⟨hk, .inr ⟨v, a, h, rfl, hb⟩⟩
  have HJ := Lib.hid hj
  /-have G2 : Hid (∀ a b c : Nat, (Tryz.prog.info? 61).map (·.size) = some (#[Value.int .i64 (a : Int), .int .i64 (b : Int), .int .i64 (c : Int)] : Array Value).size) := fun a b c => by kernel_rfl
  have G1 : Hid (∀ a b c : Nat, (#[Value.int .i64 (a : Int), .int .i64 (b : Int), .int .i64 (c : Int)].all (·.oneCell')) = true) := fun a b c => by simp [Value.oneCell']-/
  have HB0 := Lib.hid (Below.refl w.heap.size w)
  clear eR hd hj HD HP hon e0 e1 er
  go_enter Tryz.func34, Tryz.ntmps34
  go_wp2_with fail
  refine (R0.out _ HB0.out).mono ?_
  rintro e w' ⟨rfl, rfl⟩
  go_wp2_with fail
  refine (R1.out _ HB0.out).mono ?_
  rintro e w' ⟨rfl, rfl⟩
  go_wp2_with fail
  refine (HRM.out _ HB0.out).mono ?_
  rintro e w' ⟨rfl, rfl⟩
  go_wp2_with fail
  refine (P0.out _).mono ?_
  rintro e w1 hp1
  obtain ⟨hb1, x0, y0, z0, k0, rfl, hr0⟩ := par_pair hp1
  have HB1 := Lib.hid hb1
  have HR0 := Lib.hid hr0
  clear hb1 hp1 hr0
  unfold valV
  go_wp2_with fail
  refine (HRM.out _ (HB1.out.alloc HB1.out.size _)).mono ?_
  rintro e w' ⟨rfl, rfl⟩
  go_wp2_with fail
  refine (P1.out _).mono ?_
  rintro e w2 hp2
  obtain ⟨hb2, x1, y1, z1, k1, rfl, hr1⟩ := par_pair hp2
  have HB2 : Hid (Below w.heap.size w w2) := (HB1.out.alloc HB1.out.size _).trans (hb2.mono (Nat.le_trans HB1.out.size (by simp)))
  have kA : Hid (Blk w2 w1.heap.size [.int .i64 (x0 : Int), .int .i64 (y0 : Int), .int .i64 (z0 : Int)] 61) := (Blk.new w1 _ _).below hb2 (by simp)
  have HR1 := Lib.hid hr1
  clear hb2 hp2 hr1
  have HB3 : Hid (Below w.heap.size w (w2.alloc (.cells #[.int .i64 (x1 : Int), .int .i64 (y1 : Int), .int .i64 (z1 : Int)] 61))) := HB2.out.alloc HB2.out.size _
  obtain ⟨W3, eW3⟩ : ∃ W3, W3 = w2.alloc (.cells #[.int .i64 (x1 : Int), .int .i64 (y1 : Int), .int .i64 (z1 : Int)] 61) := ⟨_, rfl⟩
  have kB : Hid (Blk W3 w2.heap.size [.int .i64 (x1 : Int), .int .i64 (y1 : Int), .int .i64 (z1 : Int)] 61) := by rw [eW3]; exact Blk.new w2 _ _
  have kA3 : Hid (Blk W3 w1.heap.size [.int .i64 (x0 : Int), .int .i64 (y0 : Int), .int .i64 (z0 : Int)] 61) := by rw [eW3]; exact kA.out.alloc _
  have a0 := kA3.out.cellD 0 _ rfl
  have a1 := kA3.out.cellD 1 _ rfl
  have a2 := kA3.out.cellD 2 _ rfl
  have b0 := kB.out.cellD 0 _ rfl
  have b1 := kB.out.cellD 1 _ rfl
  have b2 := kB.out.cellD 2 _ rfl
  rw [← eW3] at HB3
  have HJ3 := Lib.hid (HJ.out.below HB3.out HJ.out.lt)
  have F : Hid (∀ v a, presV s0 s1 room = some (v, a) → R (.returned (.bool true)) ((W3.setCells jb 0 [.int .i64 (v.1 : Int), .int .i64 (v.2.1 : Int), .int .i64 (v.2.2 : Int)]).setCell ⟨jb, 3, none⟩ (.int .i64 (a : Int)))) := fun v a h =>
    FS.out v a h _ ((keep_set3 (F := fun k => k = jb) (Keep.of_below HB3.out) (fun _ => rfl) _ _ _).setCell (p := ⟨jb, 3, none⟩) (fun _ => rfl) _) ((set3 HJ3.out _ _ _).set 3 _)
  have j0 := HJ3.out.cellD 0 _ rfl
  have j1 := HJ3.out.cellD 1 _ rfl
  have j2 := HJ3.out.cellD 2 _ rfl
  have j3 := HJ3.out.cellD 3 _ rfl
  have z0' := HJ3.out.frozen 0
  have z1' := HJ3.out.frozen 1
  have z2' := HJ3.out.frozen 2
  have z3' := HJ3.out.frozen 3
  unfold valV
  have EW := Lib.hid eW3
  clear eW3
  have F0 := Lib.hid (fun (h : presV s0 s1 room = some ((x0, y0, z0), 0)) => F.out (x0, y0, z0) 0 h)
  have F1 := Lib.hid (fun (h : presV s0 s1 room = some ((x1, y1, z1), 1)) => F.out (x1, y1, z1) 1 h)
  rcases HR0.out with ⟨rfl, h0⟩ | ⟨rfl, h0, hz0⟩
  · rcases HR1.out with ⟨rfl, h1⟩ | ⟨rfl, h1, hz1⟩
    · by_cases hc : x1 ≤ x0
      · have t1 : decide ((x1 : Int) ≤ (x0 : Int)) = true := decide_eq_true (by omega)
        have G := Lib.hid (F0.out (by unfold presV; rw [h0, h1]; simp only; rw [if_pos hc]))
        clear h0 h1
        go_wp2_with (rw [← EW.out])
        exact G.out
      · have t1 : decide ((x1 : Int) ≤ (x0 : Int)) = false := decide_eq_false (by omega)
        have G := Lib.hid (F1.out (by unfold presV; rw [h0, h1]; simp only; rw [if_neg hc]))
        clear h0 h1
        go_wp2_with (rw [← EW.out])
        exact G.out
    · have G := Lib.hid (F0.out (by unfold presV; rw [h0, h1]))
      clear h0 h1 hz1
      go_wp2_with (rw [← EW.out])
      exact G.out
  · rcases HR1.out with ⟨rfl, h1⟩ | ⟨rfl, h1, hz1⟩
    · have G := Lib.hid (F1.out (by unfold presV; rw [h0, h1]))
      clear h0 h1 hz0
      go_wp2_with (rw [← EW.out])
      exact G.out
    · have FZ := Lib.hid (fun (h : presV s0 s1 room = some ((0, 0, 0), 0)) (w' : World) (hb : Below w.heap.size w w') => FS.out (0, 0, 0) 0 h w' (Keep.of_below hb) (HJ.out.below hb HJ.out.lt))
      have FY := Lib.hid (fun (h : presV s0 s1 room = none) (w' : World) (hb : Below w.heap.size w w') => FN.out h w' (Keep.of_below hb))
      have hp : presV s0 s1 room = if s0 = List.replicate 32 0 ∨ s1 = List.replicate 32 0 then some ((0, 0, 0), 0) else none := by unfold presV; rw [h0, h1]
      rw [hp] at FZ FY
      have BB := Lib.hid (fun w => blank_any w)
      obtain ⟨bl, ebl⟩ : ∃ bl, bl = tx (List.replicate 32 0) := ⟨_, rfl⟩
      rw [← ebl] at BB
      have hq : ∀ s : List UInt8, (s = List.replicate 32 0) ↔ ((tx s).toList == bl.toList) = true := fun s => by
        rw [ebl, beq_iff_eq, ByteArray.toList_eq, ByteArray.toList_eq, tx_data, tx_data]
      clear F F0 F1 hz0 hz1 hp h0 h1 FS FN ebl a0 a1 a2 b0 b1 b2 j0 j1 j2 j3 z0' z1' z2' z3'
      by_cases c0 : s0 = List.replicate 32 0
      · have G := Lib.hid (FZ.out (by rw [if_pos (.inl c0)]))
        have q0 : ((tx s0).toList == bl.toList) = true := (hq s0).1 c0
        obtain ⟨x, ex⟩ : ∃ x, x = tx s0 := ⟨_, rfl⟩
        rw [← ex] at q0 ⊢
        clear c0 hq FZ FY ex
        go_wp2_with (rw [← EW.out])
        refine (BB.out _).mono ?_
        rintro e w4 ⟨rfl, hb4⟩
        have HB4 := Lib.hid (HB3.out.trans (hb4.mono HB3.out.size))
        clear hb4
        go_wp2_with fail
        exact G.out _ HB4.out
      · have q0 : ((tx s0).toList == bl.toList) = false := by
          cases h : ((tx s0).toList == bl.toList) with
          | false => rfl
          | true => exact absurd ((hq s0).2 h) c0
        by_cases c1 : s1 = List.replicate 32 0
        · have G := Lib.hid (FZ.out (by rw [if_pos (.inr c1)]))
          have q1 : ((tx s1).toList == bl.toList) = true := (hq s1).1 c1
          obtain ⟨x, ex⟩ : ∃ x, x = tx s0 := ⟨_, rfl⟩
          obtain ⟨y, ey⟩ : ∃ y, y = tx s1 := ⟨_, rfl⟩
          rw [← ex] at q0 ⊢
          rw [← ey] at q1 ⊢
          clear c0 c1 hq FZ FY ex ey
          go_wp2_with (rw [← EW.out])
          refine (BB.out _).mono ?_
          rintro e w4 ⟨rfl, hb4⟩
          have HB4 := Lib.hid (HB3.out.trans (hb4.mono HB3.out.size))
          clear hb4
          go_wp2_with fail
          refine (BB.out _).mono ?_
          rintro e w5 ⟨rfl, hb5⟩
          have HB5 := Lib.hid (HB4.out.trans (hb5.mono HB4.out.size))
          clear hb5
          go_wp2_with fail
          exact G.out _ HB5.out
        · have G := Lib.hid (FY.out (by rw [if_neg (fun h => h.elim c0 c1)]))
          have q1 : ((tx s1).toList == bl.toList) = false := by
            cases h : ((tx s1).toList == bl.toList) with
            | false => rfl
            | true => exact absurd ((hq s1).2 h) c1
          obtain ⟨x, ex⟩ : ∃ x, x = tx s0 := ⟨_, rfl⟩
          obtain ⟨y, ey⟩ : ∃ y, y = tx s1 := ⟨_, rfl⟩
          rw [← ex] at q0 ⊢
          rw [← ey] at q1 ⊢
          clear c0 c1 hq FZ FY ex ey
          go_wp2_with (rw [← EW.out])
          refine (BB.out _).mono ?_
          rintro e w4 ⟨rfl, hb4⟩
          have HB4 := Lib.hid (HB3.out.trans (hb4.mono HB3.out.size))
          clear hb4
          go_wp2_with fail
          refine (BB.out _).mono ?_
          rintro e w5 ⟨rfl, hb5⟩
          have HB5 := Lib.hid (HB4.out.trans (hb5.mono HB4.out.size))
          clear hb5
          go_wp2_with fail
          exact G.out _ HB5.out
end Go.Proofs.YthfjaaigncjhlaaGreatDoor
