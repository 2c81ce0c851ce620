/- Package journal: what Open does under try. Condition: the disk is on and has at least 4 sectors. Package journal: the count of a disk's sectors. No condition. Package journal: Open. Condition: the disk is none, or a disk. Package journal: Append, also where the power fails. Condition: an unbroken journal's disk is on; the variable of strconv holds its numbers. Package journal: Compact, also where the power fails. Condition: an unbroken journal's disk is on; the variable of strconv holds its numbers. Package journal: Records; the reference's Same and Room. Condition: the slices read as lists. Law 45's operations, opened; light. Condition: the arguments are readable. -/
import Derived.Test.YthfjaaigncjhlaaGreatDoorJoK
import Derived.Test.YthfjaaigncjhlaaGreatDoorZ45A
import Derived.Test.YthfjaaigncjhlaaGreatDoorJo7
import Derived.Test.YthfjaaigncjhlaaGreatDoorRf
import Derived.Shelf.SlSorted.Search
import Derived.Test.YthfjaaigncjhlaaGreatDoorShelfC
import Derived.Test.YthfjaaigncjhlaaGreatDoorOpl
namespace Go.Proofs.YthfjaaigncjhlaaGreatDoor
open Go.RowKit Go.Blk Go.Jn Go.Dk Go.Mp Go.Rf Go.Shelf

def fstN (x : Nat) : Nat := x / 18446744073709551616
def sndN (x : Nat) : Nat := x % 18446744073709551616
def pairN (g c : Nat) : Nat := g * 18446744073709551616 + c
theorem fst_pair {g c : Nat} (h : c < 18446744073709551616) : fstN (pairN g c) = g := by unfold fstN pairN; omega
theorem snd_pair {g c : Nat} (h : c < 18446744073709551616) : sndN (pairN g c) = c := by unfold sndN pairN; omega
/-- The value of a row, coded. -/
def mkS (n x : Nat) : Value := if x = 0 then .slice none 0 0 else .slice (some ⟨fstN (x - 1), 0, none⟩) n (sndN (x - 1))
theorem mkS_of {w : World} {base n : Nat} {e : TypeId} {v : Value} {xs : List Value} (h : w.ownsRow base e 1 v n xs) : ∃ x, v = mkS n x := by
  rcases h.2 with ⟨h1, h2⟩ | ⟨g, cap, cur, h1, _, _, h4, h5, _⟩
  · exact ⟨0, by rw [h1]; rfl⟩
  · refine ⟨pairN g cap + 1, ?_⟩
    rw [h1]
    unfold mkS
    rw [if_neg (by omega), Nat.add_sub_cancel, fst_pair ?_, snd_pair ?_]
    all_goals (have : maxLen = 9223372036854775807 := rfl; omega)
theorem split_row {l : List UInt8} {w w' : World} {e : Ending} (h : SplPost (splitL l) w e w') : Below w.heap.size w w' ∧ ((splitL l = none ∧ e = .returned (.tuple #[.slice none 0 0, .bool false])) ∨ ∃ r v, splitL l = some r ∧ e = .returned (.tuple #[v, .bool true]) ∧ RowT w' w.heap.size v r) := by
  obtain ⟨h1, ⟨h2, h3⟩ | ⟨p, v, h2, h3, h4⟩⟩ := h
  · exact ⟨h1, .inl ⟨h2, h3⟩⟩
  · refine ⟨h1, .inr ⟨_, v, h2, h3, ?_⟩⟩
    unfold RowT
    have e1 : (bys p).map tx = p := by
      unfold bys
      rw [List.map_map]
      exact (List.map_congr_left (fun x _ => tx_of x)).trans (List.map_id p)
    have e2 : (bys p).length = p.length := by unfold bys; simp
    rw [e1, e2]; exact h4
theorem row_base {w : World} {B B' : Nat} {rv : Value} {l : List (List UInt8)} (h : RowT w B rv l) (hB : B' ≤ B) : RowT w B' rv l := by
  obtain ⟨h1, h2⟩ := h
  refine ⟨h1, h2.imp id ?_⟩
  rintro ⟨g, cap, cur, a1, a2, a3⟩
  exact ⟨g, cap, cur, a1, Nat.le_trans hB a2, a3⟩
theorem row_is {w : World} {B : Nat} {rv : Value} {l : List (List UInt8)} (h : RowT w B rv l) : ∃ A n c, rv = .slice A n c := by
  rcases h.2 with ⟨h1, _⟩ | ⟨g, cap, cur, h1, _⟩
  · exact ⟨_, _, _, h1⟩
  · exact ⟨_, _, _, h1⟩
/-- What Open does under try. -/
def O1Post (w : World) (jb bw b n : Nat) (d : DD) (e : Ending) (w' : World) : Prop :=
  e = .returned (.tuple #[]) ∧ Keep (fun k => k = jb ∨ k = bw) w w' ∧
    (((openD n d).2 = none ∧ (openD n d).1 = 20 ∧ Blk w' bw [.bool false] 4) ∨
      ∃ v a r rv, openD n d = (0, some (v, a, r)) ∧ Blk w' bw [.bool true] 4 ∧ Blk w' jb (cellsJ v a ((n - 2) / 2) b rv false) 63 ∧ RowT w' w.heap.size rv r)
set_option maxRecDepth 100000 in
set_option maxHeartbeats 3000000 in
theorem open1_any {w : World} {jb bj bw b bs bm n : Nat} {pv : Value} {d : DD} (hd : DiskAt w b bs bm pv d n) (hon : d.on = true) (hn : 4 ≤ n) (hj : Blk w jb (cellsJ (0, 0, 0) 0 ((n - 2) / 2) b (.slice none 0 0) false) 63)
    (hb1 : Blk w bj [.pointer (some ⟨jb, 0, none⟩)] 29) (hb2 : Blk w bw [.bool false] 4) : Calls Tryz.prog 33 #[.pointer (some ⟨bj, 0, none⟩), .pointer (some ⟨bw, 0, none⟩)] w (O1Post w jb bw b n d) := by
  have hn2 := hd.ok.n2
  obtain ⟨R, eR⟩ : ∃ R, R = O1Post w jb bw b n d := ⟨_, rfl⟩
  rw [← eR]
  have hne : bw ≠ jb := by
    rintro rfl
    have := hj.symm.trans hb2
    simp at this
  have hne1 : bj ≠ jb := by
    rintro rfl
    have := hj.symm.trans hb1
    simp at this
  have hne2 : bj ≠ bw := by
    rintro rfl
    have := hb1.symm.trans hb2
    simp at this
  have PR := Lib.hid (present_any hd hon hn hj)
  have HD := Lib.hid hd
  have HJ := Lib.hid hj
  have H1 := Lib.hid hb1
  have H2 := Lib.hid hb2
  have ER := Lib.hid eR
  have hjF := Lib.hid (fun k (hk : Fp b bs bm pv k) (e : k = jb) => notFp hd hj (by decide) (by decide) (by decide) (e ▸ hk))
  have c0 := hb1.cellD 0 _ rfl
  have HON := Lib.hid hon
  clear hd hj eR hb1 hb2 hon
  go_enter Tryz.func33, Tryz.ntmps33
  go_wp2_with fail
  refine PR.out.mono ?_
  rintro e w1 ⟨k1, ⟨hp, rfl⟩ | ⟨v, a, hp, rfl, hj1⟩⟩
  · have hb := (H2.out.keepB (k1.block bw H2.out.lt hne))
    have f0 := hb.frozen 0
    have c1 := hb.cellD 0 _ rfl
    have g0 : w1.cell? ⟨bj, 0, none⟩ = some (.pointer (some ⟨jb, 0, none⟩)) := keep_cell c0 k1 hne1
    have FIN : Hid (R (.returned (.tuple #[])) (w1.setCell ⟨bw, 0, none⟩ (.bool false))) := by
      rw [ER.out]
      have eo : openD n d = (20, none) := by
        unfold openD
        rw [if_neg (by rw [HON.out]; decide), if_neg (by omega), hp]
      refine ⟨rfl, (k1.mono (fun k _ h => .inl h)).setCell (p := ⟨bw, 0, none⟩) (fun _ => .inr rfl) _, .inl ⟨by rw [eo], by rw [eo], hb.set 0 _⟩⟩
    clear hb k1
    go_wp2_with fail
    first
      | exact FIN.out
      | exact bodyPost_ret (results_none rfl _ _ _) rfl FIN.out
      | exact ⟨_, rfl, rfl, FIN.out⟩
      | exact ⟨_, rfl, FIN.out⟩
  · have hb := (H2.out.keepB (k1.block bw H2.out.lt hne))
    have f0 := hb.frozen 0
    have c1 := hb.cellD 0 _ rfl
    have g0 : w1.cell? ⟨bj, 0, none⟩ = some (.pointer (some ⟨jb, 0, none⟩)) := keep_cell c0 k1 hne1
    have HJ1 := Lib.hid hj1
    have HP := Lib.hid hp
    have HB := Lib.hid hb
    have kV : Keep (fun k => k = bw) w1 (w1.setCell ⟨bw, 0, none⟩ (.bool true)) := (Keep.refl (fun k => k = bw) w1).setCell (p := ⟨bw, 0, none⟩) (fun _ => rfl) _
    obtain ⟨V, eV⟩ : ∃ V, V = w1.setCell ⟨bw, 0, none⟩ (.bool true) := ⟨_, rfl⟩
    have HBW : Hid (Blk V bw [.bool true] 4) := by rw [eV]; exact hb.set 0 _
    rw [← eV] at kV
    have K1 := Lib.hid ((k1.mono (fun k _ h => .inl h)).trans kV (fun k _ h => .inr h) : Keep (fun k => k = jb ∨ k = bw) w V)
    have HD1 := Lib.hid ((HD.out.keep k1 hjF.out).keep kV (fun k hk e => notFp (HD.out.keep k1 hjF.out) hb (by decide) (by decide) (by decide) (e ▸ hk)))
    have HJ1 := Lib.hid (hj1.keepB (kV.block jb hj1.lt (Ne.symm hne)))
    have HJB : Hid (Blk V bj [.pointer (some ⟨jb, 0, none⟩)] 29) := H1.out.keepB (K1.out.block bj H1.out.lt (fun h => h.elim hne1 hne2))
    have CT := Lib.hid (content_any (w := V.drew) (HD1.out.below (drewN_below V 1)) HON.out hn HJ1.out.drew (pres_range hp).1 (pres_range hp).2)
    have hlen : (half (eff d) ((n - 2) / 2) v.2.1 v.2.2).length ≤ 1000000 := by
      have := (pres_range hp).2
      unfold half
      rw [List.length_take]; omega
    have SP := Lib.hid (fun (wx : World) => (split_any (tx (half (eff d) ((n - 2) / 2) v.2.1 v.2.2)) wx (by rw [tx_size]; omega)))
    rw [tx_data] at SP
    have EO : Hid (openD n d = match splitL (half (eff d) ((n - 2) / 2) v.2.1 v.2.2) with
        | none => (20, none)
        | some r => (0, some (v, a, r))) := by
      show _ = _
      unfold openD
      rw [if_neg (by rw [HON.out]; decide), if_neg (by omega), hp]
      rfl
    obtain ⟨l, el⟩ : ∃ l, l = half (eff d) ((n - 2) / 2) v.2.1 v.2.2 := ⟨_, rfl⟩
    rw [← el] at CT SP EO
    obtain ⟨x, ex⟩ : ∃ x, x = tx l := ⟨_, rfl⟩
    rw [← ex] at CT SP
    have EVV := Lib.hid eV
    clear hp hj1 hb k1 el ex hlen kV eV
    go_wp2_with fail
    rw [← EVV.out]
    have q0 := HJB.out.cellD 0 _ rfl
    clear c0 c1 f0 g0
    have FK : Hid (∀ (w3 : World) (rv : Value) (u : Bool), Below V.drew.heap.size V.drew w3 → Keep (fun k => k = jb ∨ k = bw) w ((w3.setCell ⟨jb, 6, none⟩ rv).setCell ⟨bw, 0, none⟩ (.bool u)) ∧ Blk ((w3.setCell ⟨jb, 6, none⟩ rv).setCell ⟨bw, 0, none⟩ (.bool u)) bw [.bool u] 4 ∧ Blk ((w3.setCell ⟨jb, 6, none⟩ rv).setCell ⟨bw, 0, none⟩ (.bool u)) jb (cellsJ v a ((n - 2) / 2) b rv false) 63) := fun w3 rv u hb => by
      have k3 : Keep (fun k => k = jb ∨ k = bw) w w3 := K1.out.trans (G := fun _ => False) (Keep.of_below (show Below V.heap.size V w3 from ⟨hb.os, hb.tape, hb.output, hb.size, hb.block⟩)) (fun _ _ f => f.elim)
      have hw3 := HBW.out.drew.below hb HBW.out.lt
      have hj3 := HJ1.out.drew.below hb HJ1.out.lt
      exact ⟨(k3.setCell (p := ⟨jb, 6, none⟩) (fun _ => .inl rfl) _).setCell (p := ⟨bw, 0, none⟩) (fun _ => .inr rfl) _, (hw3.set_ne (a := ⟨jb, 6, none⟩) (Ne.symm hne) rv).set 0 _, (hj3.set 6 rv).set_ne (a := ⟨bw, 0, none⟩) hne _⟩
    cases hs : splitL l with
    | none =>
      have SN : Hid (∀ wx, Calls Tryz.prog 35 #[.string x] wx fun e w' => e = .returned (.tuple #[.slice none 0 0, .bool false]) ∧ Below wx.heap.size wx w') := fun wx => by
        refine (SP.out wx).mono fun e w' h => ?_
        obtain ⟨h1, ⟨_, h3⟩ | ⟨r, v, h2, _, _⟩⟩ := split_row h
        · exact ⟨h3, h1⟩
        · rw [hs] at h2; cases h2
      have EO2 : Hid (openD n d = (20, none)) := by have := EO.out; rw [hs] at this; exact this
      have FIN : Hid (∀ w3, Below V.drew.heap.size V.drew w3 → R (.returned (.tuple #[])) ((w3.setCell ⟨jb, 6, none⟩ (.slice none 0 0)).setCell ⟨bw, 0, none⟩ (.bool false))) := fun w3 hb => by
        obtain ⟨h1, h2, _⟩ := FK.out w3 (.slice none 0 0) false hb
        rw [ER.out]
        exact ⟨rfl, h1, .inl ⟨by rw [EO2.out], by rw [EO2.out], h2⟩⟩
      clear SP EO hs
      go_region_with (first
        | (refine CT.out.mono ?_; rintro e w2 ⟨rfl, hb2⟩; have q0 := HJB.out.drew.below hb2 HJB.out.lt; have q0 := q0.cellD 0 _ rfl)
        | (refine (SN.out _).mono ?_; rintro e w3 ⟨rfl, hb3⟩; have hb23 := hb2.trans (hb3.mono hb2.size); have q0 := HJB.out.drew.below hb23 HJB.out.lt; have q0 := q0.cellD 0 _ rfl; have hj3 := HJ1.out.drew.below hb23 HJ1.out.lt; have c6 := hj3.cellD 6 _ rfl; have f6 := hj3.frozen 6; have hw3 := HBW.out.drew.below hb23 HBW.out.lt; have cw := hw3.cellD 0 _ rfl; have fw := hw3.frozen 0))
      all_goals (have G := Lib.hid (FIN.out _ hb23); clear hb23 c6 f6 cw fw hj3 hw3; go_end0; exact G.out)
    | some r =>
      have SN : Hid (∀ wx, Calls Tryz.prog 35 #[.string x] wx fun e w' => ∃ rv, e = .returned (.tuple #[rv, .bool true]) ∧ Below wx.heap.size wx w' ∧ RowT w' wx.heap.size rv r) := fun wx => by
        refine (SP.out wx).mono fun e w' h => ?_
        obtain ⟨h1, ⟨h2, _⟩ | ⟨r', v', h2, h3, h4⟩⟩ := split_row h
        · rw [hs] at h2; cases h2
        · rw [hs] at h2; cases h2
          exact ⟨v', h3, h1, h4⟩
      have EO2 : Hid (openD n d = (0, some (v, a, r))) := by have := EO.out; rw [hs] at this; exact this
      have FIN : Hid (∀ w3 rv, Below V.drew.heap.size V.drew w3 → RowT w3 V.heap.size rv r → R (.returned (.tuple #[])) ((w3.setCell ⟨jb, 6, none⟩ rv).setCell ⟨bw, 0, none⟩ (.bool true))) := fun w3 rv hb hr => by
        obtain ⟨h1, h2, h3⟩ := FK.out w3 rv true hb
        rw [ER.out]
        have hlj : jb < V.heap.size := HJ1.out.lt
        have hlw : bw < V.heap.size := HBW.out.lt
        have hr2 : RowT ((w3.setCell ⟨jb, 6, none⟩ rv).setCell ⟨bw, 0, none⟩ (.bool true)) V.heap.size rv r := hr.keep fun k hk => by
          have hge := (World.ownsRow.lt hr k hk).1
          rw [Below.heap_setCell _ _ _ _ (by show k ≠ bw; omega), Below.heap_setCell _ _ _ _ (by show k ≠ jb; omega)]
        exact ⟨rfl, h1, .inr ⟨v, a, r, rv, EO2.out, h2, h3, row_base hr2 K1.out.size⟩⟩
      clear SP EO hs
      go_region_with (first
        | (refine CT.out.mono ?_; rintro e w2 ⟨rfl, hb2⟩; have q0 := HJB.out.drew.below hb2 HJB.out.lt; have q0 := q0.cellD 0 _ rfl)
        | (refine (SN.out _).mono ?_; rintro e w3 ⟨rv, rfl, hb3, hr3⟩; have hb23 := hb2.trans (hb3.mono hb2.size); have HR3 := Lib.hid (row_base hr3 hb2.size); clear hr3; have q0 := HJB.out.drew.below hb23 HJB.out.lt; have q0 := q0.cellD 0 _ rfl; have hj3 := HJ1.out.drew.below hb23 HJ1.out.lt; have c6 := hj3.cellD 6 _ rfl; have f6 := hj3.frozen 6; have hw3 := HBW.out.drew.below hb23 HBW.out.lt; have cw := hw3.cellD 0 _ rfl; have fw := hw3.frozen 0; obtain ⟨Ar, lr, cr, rfl⟩ := row_is HR3.out))
      all_goals (have G := Lib.hid (FIN.out _ _ hb23 HR3.out); clear hb23 c6 f6 cw fw hj3 hw3 HR3; go_end0; exact G.out)
end Go.Proofs.YthfjaaigncjhlaaGreatDoor

namespace Go.Proofs.YthfjaaigncjhlaaGreatDoor
open Go.RowKit Go.Blk Go.Jn Go.Dk Go.Mp Go.Rf Go.Shelf
open Go.Shelf in
def sren : Go.Shelf.Ren := ⟨fun | 16 => 59 | n => n, fun | 3 => 3 | 4 => 4 | 35 => 90 | 38 => 111 | n => n, fun | n => n⟩
theorem slays16 : Go.Proofs.SlLaysO.n16 Tryz.prog sren := {
  mixed := by kernel_rfl
  f16 := Tryz.func59.trans (congrArg some (by kernel_rfl))
  t3 := Tryz.underlying3
  a3 := Tryz.isAgg3
  z3 := Tryz.sizeOf3
  v3 := Tryz.zeroValue3
  t4 := Tryz.underlying4
  a4 := Tryz.isAgg4
  z4 := Tryz.sizeOf4
  v4 := Tryz.zeroValue4
  t35 := Tryz.underlying90
  a35 := Tryz.isAgg90
  z35 := Tryz.sizeOf90
  v35 := Tryz.zeroValue90
  t38 := Tryz.underlying111
  a38 := Tryz.isAgg111
  z38 := Tryz.sizeOf111
  v38 := Tryz.zeroValue111 }
theorem count_below (n : Nat) : ∀ N, (List.range N).countP (fun i => !decide (n ≤ i)) = min n N
  | 0 => by simp
  | N + 1 => by
    rw [List.range_succ, List.countP_append, count_below n N]
    by_cases h : n ≤ N
    · simp [h]; omega
    · simp [h]; omega
theorem read_code {n : Nat} {d : DD} (hon : d.on = true) (i : Nat) : (DD.read n d (i : Int)).2 = if n ≤ i then 1 else 0 := by
  unfold DD.read
  rw [if_pos hon]
  by_cases h : n ≤ i
  · rw [if_neg (by unfold DD.hasB; simp; omega), if_pos h]
  · rw [if_pos (by unfold DD.hasB; simp; omega), if_neg h]
set_option maxRecDepth 100000 in
theorem cn1_any {w : World} {bx b bs bm n : Nat} {pv : Value} {d : DD} (hc : w.cell? ⟨bx, 0, none⟩ = some (.pointer (some ⟨b, 0, none⟩))) (h : DiskAt w b bs bm pv d n) (hon : d.on = true) (i : Nat) :
    Calls Tryz.prog 60 #[.int .i64 i, .pointer (some ⟨bx, 0, none⟩)] w fun e w' => e = .returned (.bool (decide (n ≤ i))) ∧ w' = w.drewN 0 := by
  have R1 := Lib.hid (read_any h i)
  rw [read_code hon] at R1
  obtain ⟨x, ex⟩ : ∃ x : ByteArray, x = ⟨(DD.read n d i).1.toArray⟩ := ⟨_, rfl⟩
  rw [← ex] at R1
  clear ex h hon
  have hd : ∃ c : Int, c = (if n ≤ i then 1 else 0) ∧ (c != 0) = decide (n ≤ i) := by
    refine ⟨_, rfl, ?_⟩
    by_cases h : n ≤ i
    · simp [h]
    · simp [h]
  obtain ⟨c, hc1, hc2⟩ := hd
  rw [← hc1] at R1
  clear hc1
  obtain ⟨D, eD⟩ : ∃ D, D = decide (n ≤ i) := ⟨_, rfl⟩
  rw [← eD] at hc2 ⊢
  clear eD
  go_enter Tryz.func60, Tryz.ntmps60
  go_wp2_with fail
  refine R1.out.mono ?_
  rintro e w' ⟨rfl, rfl⟩
  go_wp2_with fail
  go_ret
  exact ⟨rfl, rfl⟩
set_option maxRecDepth 100000 in
theorem count_any {w : World} {b bs bm n : Nat} {pv : Value} {d : DD} (h : DiskAt w b bs bm pv d n) (hon : d.on = true) :
    Calls Tryz.prog 31 #[.pointer (some ⟨b, 0, none⟩)] w fun e w' => e = .returned (.int .i64 (n : Int)) ∧ Below w.heap.size w w' := by
  have hn2 := h.ok.n2
  have HV : Hid (Below w.heap.size w (w.alloc (.cells #[.pointer (some ⟨b, 0, none⟩)] 25))) := (Below.refl _ w).alloc (Nat.le_refl _) _
  have S1 : Hid (Calls Tryz.prog 59 #[.int .i64 4000, .func (.func 60) #[] #[.pointer (some ⟨w.heap.size, 0, none⟩)]] (w.alloc (.cells #[.pointer (some ⟨b, 0, none⟩)] 25)) fun e w' => e = .returned (.int .i64 (n : Int)) ∧ Below w.heap.size w w') := by
    have := Any.sort_Search slays16 60 #[.pointer (some ⟨w.heap.size, 0, none⟩)] 4000 (fun i => decide (n ≤ i)) (w.alloc (.cells #[.pointer (some ⟨b, 0, none⟩)] 25)) (enters_of Tryz.func60 (by kernel_rfl) rfl) (by decide)
      (fun m os i _ => (cn1_any (w := Sort.grow ((w.alloc (.cells #[.pointer (some ⟨b, 0, none⟩)] 25)).drewN m) os) (bx := w.heap.size) (by rw [Go.Sort.cell?_grow _ _ _ (by simp)]; exact cell_new_sl _ _ _) ((h.below HV.out).below (below_grown_sl _ _ m os (Nat.le_refl _))) hon i).mono fun e w' ⟨he, hw⟩ => ⟨he, 0, #[], by rw [hw, Sort.grow_empty]⟩)
      (fun x y hxy _ hx => by simp at hx ⊢; omega)
    refine this.mono ?_
    rintro e w' ⟨rfl, q, os, rfl⟩
    refine ⟨?_, HV.out.trans (below_grown_sl _ _ q os (by simp))⟩
    rw [count_below, Nat.min_eq_left hn2]
  clear h HV
  have hmf : ∀ (fn : Fn) (first cap : Array Value) (w : World), (Instr.makeFunc fn first cap).run Tryz.prog w = .ok (.func fn first cap) w := fun _ _ _ _ => rfl
  go_enter Tryz.func31, Tryz.ntmps31
  go_wp2_with fail
  refine S1.out.mono ?_
  rintro e w1 ⟨rfl, hb1⟩
  have L1 := Lib.hid hb1
  clear hb1
  go_wp2_with fail
  go_ret
  exact ⟨rfl, L1.out⟩
end Go.Proofs.YthfjaaigncjhlaaGreatDoor

namespace Go.Proofs.YthfjaaigncjhlaaGreatDoor
open Go.RowKit Go.Blk Go.Jn Go.Dk Go.Mp Go.Rf Go.Shelf

theorem flat_str (l : List (List UInt8)) : (l.map tx).flatMap encS = (l.map tx).map Value.string := by
  induction l with
  | nil => rfl
  | cons x l ih => rw [List.map_cons, List.flatMap_cons, ih]; rfl
/-- A clone of a row of records. -/
theorem clone_row {w : World} {base : Nat} {rv : Value} {l : List (List UInt8)} (h : RowT w base rv l) (hl : l.length ≤ 1000000) :
    Calls Tryz.prog 37 #[rv] w fun e w' => ∃ A c, e = .returned (.slice A l.length c) ∧ RowT w' w.heap.size (.slice A l.length c) l ∧ Below w.heap.size w w' := by
  rcases h.2 with ⟨h1, h2⟩ | ⟨g, cap, cur, h1, _⟩
  · rw [h1]
    refine (Tryz.slices_Clone_string_nil 0 0 w).mono ?_
    rintro e w' ⟨rfl, rfl⟩
    have hl0 : l = [] := List.length_eq_zero_iff.1 h2
    subst hl0
    exact ⟨none, 0, rfl, World.ownsRow_nil _ _ _ _, Below.refl _ _⟩
  · subst h1
    have hc := fun j hj => World.ownsRow.cellAt h j hj
    refine (Tryz.slices_Clone_string g 0 l.length cap (l.map tx) w (by simp) (by omega) (fun j hj => ?_)).mono ?_
    · have hj' : j < l.length := by simpa using hj
      have := hc j (by omega)
      rw [flat_str] at this
      rw [Nat.zero_add, this, List.getElem?_map, List.getD_eq_getElem?_getD]
      rw [List.getElem?_eq_getElem (by simpa using hj')]; rfl
    · rintro e w' ⟨v', rfl, ho, _, hb⟩
      have ho2 : RowT w' w.heap.size v' l := by
        unfold RowT
        rw [flat_str]
        rw [List.take_of_length_le (by simp)] at ho
        exact ho
      rcases ho2.2 with ⟨h1, h2⟩ | ⟨g', cap', cur', h1, _⟩
      · exact ⟨none, 0, by rw [h1, h2], by rw [h2, ← h1]; exact ho2, hb⟩
      · exact ⟨_, _, by rw [h1], by rw [← h1]; exact ho2, hb⟩
/-- What Open ends in. -/
def OpPost (w : World) (b bs bm n : Nat) (pv : Value) (d : DD) (e : Ending) (w' : World) : Prop :=
  Below w.heap.size w w' ∧ (((openD n d).2 = none ∧ e = .returned (.tuple #[.pointer none, .slice none 0 0, .int .i64 (openD n d).1])) ∨
    ∃ v a r jb rv A c, openD n d = (0, some (v, a, r)) ∧ e = .returned (.tuple #[.pointer (some ⟨jb, 0, none⟩), .slice A r.length c, .int .i64 0]) ∧
      JAt w' jb b bs bm pv rv n ⟨d, v, a, r, false⟩ ∧ w.heap.size ≤ jb ∧ (∀ k, rv.ownBlock = some k → w.heap.size ≤ k) ∧
      RowT w' w.heap.size (.slice A r.length c) r ∧ (∀ k, (Value.slice A r.length c).ownBlock = some k → ¬ JFp jb b bs bm pv rv k))
theorem open_nil (w : World) : Calls Tryz.prog 8 #[.pointer none] w fun e w' => e = .returned (.tuple #[.pointer none, .slice none 0 0, .int .i64 1]) ∧ w = w' := by
  go_enter Tryz.func8, Tryz.ntmps8
  go_wp2_with fail
  exact bodyPost_ret (v := .tuple #[.pointer none, .slice none 0 0, .int .i64 1]) (by simp [results, Tryz.results8, go_sem]) rfl ⟨rfl, rfl⟩
theorem roomL_ge : ∀ l : List (List UInt8), 4 * l.length ≤ roomL l
  | [] => Nat.zero_le _
  | b :: l => by
    have := roomL_ge l
    show 4 * (l.length + 1) ≤ 4 + b.length + roomL l
    omega
/-- Behind try. -/
def OqPost (V : World) (jb bj bw b n : Nat) (d : DD) (e : Ending) (w' : World) : Prop :=
  e = .returned (.int .i64 0) ∧ Keep (fun k => k = jb ∨ k = bw) V w' ∧ Blk w' bj [.pointer (some ⟨jb, 0, none⟩)] 29 ∧
    (((openD n d).2 = none ∧ (openD n d).1 = 20 ∧ Blk w' bw [.bool false] 4) ∨
      ∃ v a r rv, openD n d = (0, some (v, a, r)) ∧ Blk w' bw [.bool true] 4 ∧ Blk w' jb (cellsJ v a ((n - 2) / 2) b rv false) 63 ∧ RowT w' V.heap.size rv r)
set_option maxRecDepth 100000 in
set_option maxHeartbeats 1000000 in
theorem open_any {w : World} {b bs bm n : Nat} {pv : Value} {d : DD} (hd : DiskAt w b bs bm pv d n) : Calls Tryz.prog 8 #[.pointer (some ⟨b, 0, none⟩)] w (OpPost w b bs bm n pv d) := by
  have hn2 := hd.ok.n2
  have hn1 := hd.ok.n1
  obtain ⟨R, eR⟩ : ∃ R, R = OpPost w b bs bm n pv d := ⟨_, rfl⟩
  rw [← eR]
  have RD := Lib.hid (read_any hd 0)
  have FB : Hid (∀ c w', openD n d = (c, none) → Below w.heap.size w w' → R (.returned (.tuple #[.pointer none, .slice none 0 0, .int .i64 c])) w') := fun c w' h hb => by
    rw [eR]; exact ⟨hb, .inl ⟨by rw [h], by rw [h]⟩⟩
  cases hon : d.on with
  | false =>
    have e1 : DD.read n d 0 = ([], 21) := by unfold DD.read; rw [if_neg (by rw [hon]; decide)]
    rw [e1] at RD
    have F := Lib.hid (FB.out 21 w (by unfold openD; rw [if_pos hon]) (Below.refl _ _))
    clear FB eR hd hon e1
    go_enter Tryz.func8, Tryz.ntmps8
    go_wp2_with fail
    refine RD.out.mono ?_
    rintro e w' ⟨rfl, rfl⟩
    go_wp2_with fail
    exact bodyPost_ret (v := .tuple #[.pointer none, .slice none 0 0, .int .i64 21]) (by simp [results, Tryz.results8, go_sem]) rfl F.out
  | true =>
    have e1 := (code_ok hd.ok hon (s := 0) (by omega))
    have e2 : (DD.read n d 0).2 = 0 := e1.1
    rw [e2] at RD
    obtain ⟨x, ex⟩ : ∃ x : ByteArray, x = ⟨(DD.read n d 0).1.toArray⟩ := ⟨_, rfl⟩
    rw [← ex] at RD
    have CN := Lib.hid (count_any hd hon)
    have HD := Lib.hid hd
    have HON := Lib.hid hon
    have ER := Lib.hid eR
    clear e1 e2 ex hd hon eR
    by_cases hn4 : n < 4
    · have t1 : decide ((n : Int) < 4) = true := decide_eq_true (by omega)
      have F := Lib.hid (fun w' hb => FB.out 1 w' (by unfold openD; rw [if_neg (by rw [HON.out]; decide), if_pos hn4]) hb)
      clear FB ER
      go_enter Tryz.func8, Tryz.ntmps8
      go_wp2_with fail
      refine RD.out.mono ?_
      rintro e w' ⟨rfl, rfl⟩
      go_wp2_with fail
      refine CN.out.mono ?_
      rintro e w' ⟨rfl, hb⟩
      have G := Lib.hid (F.out _ hb)
      clear hb
      go_wp2_with fail
      exact bodyPost_ret (v := .tuple #[.pointer none, .slice none 0 0, .int .i64 1]) (by simp [results, Tryz.results8, go_sem]) rfl G.out
    · have t1 : decide ((n : Int) < 4) = false := decide_eq_false (by omega)
      obtain ⟨size, es⟩ : ∃ size, size = (n - 2) / 2 := ⟨_, rfl⟩
      have hq : ((n : Int) - 2) / 2 = (size : Int) := by omega
      have ES := Lib.hid es
      clear es
      have hmf : ∀ (fn : Fn) (first cap : Array Value) (w : World), (Instr.makeFunc fn first cap).run Tryz.prog w = .ok (.func fn first cap) w := fun _ _ _ _ => rfl
      go_enter Tryz.func8, Tryz.ntmps8
      go_wp2_with fail
      refine RD.out.mono ?_
      rintro e w' ⟨rfl, rfl⟩
      go_wp2_with fail
      refine CN.out.mono ?_
      rintro e w1 ⟨rfl, hb1⟩
      have HB1 := Lib.hid hb1
      clear hb1
      go_wp2_with fail
      obtain ⟨V, eV⟩ : ∃ V, V = ((w1.alloc (.cells #[.int .i64 0, .int .i64 0, .int .i64 0, .int .i64 0, .int .i64 (size : Int), .pointer (some ⟨b, 0, none⟩), .slice none 0 0, .bool false] 63)).alloc (.cells #[.pointer (some ⟨w1.heap.size, 0, none⟩)] 29)).alloc (.cells #[.bool false] 4) := ⟨_, rfl⟩
      have HBV : Hid (Below w1.heap.size w1 V) := by rw [eV]; exact (((Below.refl _ w1).alloc (Nat.le_refl _) _).alloc (by simp) _).alloc (by simp; omega) _
      have kJ : Hid (Blk V w1.heap.size (cellsJ (0, 0, 0) 0 ((n - 2) / 2) b (.slice none 0 0) false) 63) := by
        rw [eV, ← ES.out]; exact ((Blk.new w1 _ _).alloc _).alloc _
      have kP : Hid (Blk V (w1.heap.size + 1) [.pointer (some ⟨w1.heap.size, 0, none⟩)] 29) := by
        rw [eV]; exact (Blk.made (by simp) rfl).alloc _
      have kW : Hid (Blk V (w1.heap.size + 1 + 1) [.bool false] 4) := by
        rw [eV]; exact Blk.made (by simp) rfl
      have VS : Hid (V.heap.size = w1.heap.size + 3) := by show _ = _; rw [eV]; simp
      rw [← eV]
      clear eV
      refine (try_any (g := 33) (OqPost V w1.heap.size (w1.heap.size + 1) (w1.heap.size + 1 + 1) b n d) (enters_of Tryz.func33 (by kernel_rfl) rfl) (by have := VS.out; omega) ?_).mono ?_
      · have TB : Below V.heap.size V ((V.alloc (.cells #[.pointer (some ⟨w1.heap.size, 0, none⟩)] 29)).alloc (.cells #[.int .i64 0] 31)) := ((Below.refl _ V).alloc (Nat.le_refl _) _).alloc (by simp) _
        have hdV := (HD.out.below HB1.out).below HBV.out
        refine (open1_any (hdV.below TB) HON.out (by omega) (kJ.out.below TB kJ.out.lt) (kP.out.below TB kP.out.lt) (kW.out.below TB kW.out.lt)).mono ?_
        rintro e w2 ⟨rfl, hk, hc⟩
        have t1 := ((Blk.new V [.pointer (some ⟨w1.heap.size, 0, none⟩)] 29).alloc (.cells #[.int .i64 0] 31))
        have t2 : Blk ((V.alloc (.cells #[.pointer (some ⟨w1.heap.size, 0, none⟩)] 29)).alloc (.cells #[.int .i64 0] 31)) (V.heap.size + 1) [.int .i64 0] 31 := Blk.made (by simp) rfl
        refine ⟨t1.keepB (hk.block _ t1.lt (by have := VS.out; omega)), t2.keepB (hk.block _ t2.lt (by have := VS.out; omega)), .inl ⟨rfl, ?_⟩⟩
        have hk2 : Keep (fun k => k = w1.heap.size ∨ k = w1.heap.size + 1 + 1) V (w2.setCell ⟨V.heap.size + 1, 0, none⟩ (.int .i64 0)) := (Keep.trans (F := fun k => k = w1.heap.size ∨ k = w1.heap.size + 1 + 1) (Keep.of_below TB) hk (fun _ _ f => f)).setCell (p := ⟨V.heap.size + 1, 0, none⟩) (fun h => absurd h (by show ¬ V.heap.size + 1 < V.heap.size; omega)) _
        have hs := VS.out
        have hp2 := hk2.block (w1.heap.size + 1) kP.out.lt (by omega)
        refine ⟨rfl, hk2, kP.out.keepB hp2, ?_⟩
        rcases hc with ⟨c1, c2, c3⟩ | ⟨v, a, r, rv, c1, c2, c3, c4⟩
        · exact .inl ⟨c1, c2, c3.set_ne (a := ⟨V.heap.size + 1, 0, none⟩) (by show V.heap.size + 1 ≠ _; omega) _⟩
        · refine .inr ⟨v, a, r, rv, c1, c2.set_ne (a := ⟨V.heap.size + 1, 0, none⟩) (by show V.heap.size + 1 ≠ _; omega) _, c3.set_ne (a := ⟨V.heap.size + 1, 0, none⟩) (by show V.heap.size + 1 ≠ _; omega) _, row_base (RowT.keep c4 fun k hk => ?_) TB.size⟩
          have := (World.ownsRow.lt c4 k hk).1
          exact Below.heap_setCell _ _ _ _ (by show k ≠ V.heap.size + 1; simp at this; omega)
      · rintro e w3 ⟨rfl, hk, hbj, ⟨c1, c2, hbw⟩ | ⟨v, a, r, rv, c1, hbw, hbb, hrow⟩⟩
        · have hB3 : Below w.heap.size w w3 := by
            have h1 := HB1.out.trans (HBV.out.mono HB1.out.size)
            exact h1.trans (hk.below (fun k h => by have := HB1.out.size; omega) h1.size)
          have G := Lib.hid (FB.out 20 w3 (by rw [← c1, ← c2]) hB3)
          have cw := hbw.cellD 0 _ rfl
          clear hk hbj hbw c1 c2 hB3
          go_wp2_with fail
          exact bodyPost_ret (v := .tuple #[.pointer none, .slice none 0 0, .int .i64 20]) (by simp [results, Tryz.results8, go_sem]) rfl G.out
        · have hB3 : Below w.heap.size w w3 := by
            have h1 := HB1.out.trans (HBV.out.mono HB1.out.size)
            exact h1.trans (hk.below (fun k h => by have := HB1.out.size; omega) h1.size)
          have HK := Lib.hid hk
          have HD3 : Hid (DiskAt w3 b bs bm pv d n) := ((HD.out.below HB1.out).below HBV.out).keep hk (fun k hf => by have := HD.out.lt hf; have := HB1.out.size; omega)
          have HP3 := Lib.hid hbj
          have HJ3 := Lib.hid hbb
          have HR3 := Lib.hid hrow
          have HB3 := Lib.hid hB3
          have EO := Lib.hid c1
          have hf := found_open c1
          have HF := Lib.hid hf
          have CL := Lib.hid (clone_row (w := w3.drew) hrow (by
            have h1 := found_len (eff_len HD.out.ok) hf.2.2.2
            have h2 := (pres_range hf.2.2.2.pres).2
            have h3 := roomL_ge r
            omega))
          have cw := hbw.cellD 0 _ rfl
          have c0 := hbj.cellD 0 _ rfl
          have c6 := hbb.cellD 6 _ rfl
          obtain ⟨Ar, lr, cr, rfl⟩ := row_is hrow
          clear hk hbj hbb hrow hbw c1 hB3 hf
          go_wp2_with fail
          have FIN : Hid (∀ (w4 : World) (A : Option Addr) (c : Nat), RowT w4 w3.drew.heap.size (.slice A r.length c) r → Below w3.drew.heap.size w3.drew w4 → R (.returned (.tuple #[.pointer (some ⟨w1.heap.size, 0, none⟩), .slice A r.length c, .int .i64 0])) w4) := fun w4 A c hr hb => by
            rw [ER.out]
            have hb' : Below w3.heap.size w3 w4 := ⟨hb.os, hb.tape, hb.output, hb.size, hb.block⟩
            have h3 := HR3.out
            have hrng := pres_range HF.out.2.2.2.pres
            have hs1 := HB1.out.size
            have hs3 := HB3.out.size
            have hj : JAt w3 w1.heap.size b bs bm pv (.slice Ar lr cr) n ⟨d, v, a, r, false⟩ :=
              ⟨by omega, HD3.out, HJ3.out, row_base h3 (Nat.zero_le _), pres_num HF.out.2.2.2.pres, hrng.1, hrng.2, show a ≤ 1 from (pres_at HF.out.2.2.2.pres).elim (fun h => by omega) (fun h => by omega)⟩
            refine ⟨HB3.out.trans (hb'.mono hs3), .inr ⟨v, a, r, w1.heap.size, _, A, c, EO.out, rfl, hj.below hb', hs1, fun k hk => ?_, row_base hr hs3, fun k hk hf => ?_⟩⟩
            · have := (World.ownsRow.lt h3 k hk).1
              have hv := HBV.out.size
              omega
            · have h1 := (World.ownsRow.lt hr k hk).1
              have h2 : k < w3.heap.size := hj.lt hf
              have h4 : w3.heap.size ≤ k := h1
              omega
          clear FB
          go_region_with (refine CL.out.mono ?_; rintro e w4 ⟨A4, c4, rfl, hr4, hb4⟩; have hp4 := HP3.out.drew.below hb4 HP3.out.lt; have c0 := hp4.cellD 0 _ rfl)
          all_goals (have G := Lib.hid (FIN.out _ _ _ hr4 hb4); clear hr4 hb4 hp4 c0; go_wp2_with fail; exact bodyPost_ret (v := .tuple #[.pointer (some ⟨w1.heap.size, 0, none⟩), .slice A4 r.length c4, .int .i64 0]) (by simp [results, Tryz.results8, go_sem]) rfl G.out)
end Go.Proofs.YthfjaaigncjhlaaGreatDoor

namespace Go.Proofs.YthfjaaigncjhlaaGreatDoor
open Go.RowKit Go.Blk Go.Jn Go.Dk Go.Mp Go.Rf Go.Shelf Go.Apl

/-- Only the row's spare place may turn, and only to the new cell. -/
def RowG (g o : Nat) (E : List Value) (sz : Nat) (w w' : World) : Prop :=
  Keep (fun k => k = g) w w' ∧ ∀ cc : Array Value, w.heap[g]? = some (.cells cc 9 (0, 0)) → cc.size = sz → w'.heap[g]? = some (.cells cc 9 (0, 0)) ∨ w'.heap[g]? = some (.cells (Apk.spl cc o E) 9 (0, 0))
theorem RowG.refl (g o : Nat) (E : List Value) (sz : Nat) (w : World) : RowG g o E sz w w := ⟨Keep.refl _ _, fun _ h _ => .inl h⟩
theorem RowG.trans {g o : Nat} {E : List Value} {sz : Nat} (hf : ∀ cc : Array Value, cc.size = sz → o + E.length ≤ cc.size) (a b c : World) (h : RowG g o E sz a b) (k : RowG g o E sz b c) : RowG g o E sz a c :=
  ⟨h.1.trans k.1 (fun _ _ f => f), fun cc hc hs => by
    rcases h.2 cc hc hs with h1 | h1
    · exact k.2 cc h1 hs
    · rcases k.2 _ h1 (by rw [Apk.spl_size _ _ _ (hf cc hs)]; exact hs) with h2 | h2
      · exact .inr h2
      · exact .inr (by rw [h2, Apk.spl_spl _ _ _ (hf cc hs)])⟩
theorem relg_grow {g o : Nat} {E : List Value} {sz : Nat} {w w' : World} (h : Below w.heap.size w w') : RowG g o E sz w w' :=
  ⟨Keep.of_below h, fun _ hc _ => .inl ((h.block g (Array.getElem?_eq_some_iff.1 hc).1).trans hc)⟩
theorem relg_set {g o : Nat} {E : List Value} {sz : Nat} {w : World} {cc : Array Value} (hc : w.heap[g]? = some (.cells cc 9 (0, 0))) : RowG g o E sz w (w.setRow g (Apk.spl cc o E)) :=
  ⟨(Keep.refl (fun k => k = g) w).setRow (fun _ => rfl) _, fun c2 h2 _ => by rw [hc] at h2; cases h2; exact .inr (setRow_heap w g cc _ 9 _ hc)⟩
theorem row_snoc (l : List (List UInt8)) (x : List UInt8) : ((l ++ [x]).map tx).flatMap encS = (l.map tx).flatMap encS ++ [.string (tx x)] := by
  rw [List.map_append, List.flatMap_append]; rfl
/-- What a journal's call ends in: the state and a code. -/
def JPost (w : World) (jb b bs bm n : Nat) (pv rv : Value) (r : JS × Int) (e : Ending) (w' : World) : Prop :=
  e = .returned (.int .i64 r.2) ∧ ∃ bm' pv' rv', JAt w' jb b bs bm' pv' rv' n r.1 ∧ Keep (JFp jb b bs bm pv rv) w w' ∧ (bm' = bm ∨ w.heap.size ≤ bm') ∧ (∀ k, pv'.ownBlock = some k → pv.ownBlock = some k ∨ w.heap.size ≤ k) ∧ (∀ k, rv'.ownBlock = some k → rv.ownBlock = some k ∨ w.heap.size ≤ k)
section
variable {w w' : World} {jb b bs bm n : Nat} {pv rv : Value} {s : JS}
theorem JPost.same (h : JAt w jb b bs bm pv rv n s) (hb : Below w.heap.size w w') (c : Int) : JPost w jb b bs bm n pv rv (s, c) (.returned (.int .i64 c)) w' :=
  ⟨rfl, bm, pv, rv, h.below hb, Keep.of_below hb, .inl rfl, fun _ h => .inl h, fun _ h => .inl h⟩
end
set_option maxRecDepth 100000 in
set_option maxHeartbeats 400000 in
theorem append_any {w0 w : World} {jb b bs bm n : Nat} {pv rv : Value} {s : JS} (body : ByteArray) (h : JAt w jb b bs bm pv rv n s) (hon : s.broken = false → s.d.on = true) (hpend : s.d.pend.length ≤ 900000) (hrec : s.recs.length ≤ 1000000) (hbody : body.size ≤ 9223372036854775807) (hE : En w0 w b bs bm pv) :
    Calls Tryz.prog 13 #[.pointer (some ⟨jb, 0, none⟩), .string body] w (JPost w jb b bs bm n pv rv (s.append n body.data.toList)) := by
  obtain ⟨R, eR⟩ : ∃ R, R = JPost w jb b bs bm n pv rv (s.append n body.data.toList) := ⟨_, rfl⟩
  rw [← eR]
  have hbl : body.data.toList.length = body.size := by simp
  have FS : Hid (∀ c w', s.append n body.data.toList = (s, c) → Below w.heap.size w w' → R (.returned (.int .i64 c)) w') := fun c w' he hb => by rw [eR, he]; exact JPost.same h hb c
  have ER := Lib.hid eR
  have H := Lib.hid h
  have HBV : Hid (Below w.heap.size w (w.alloc (.cells #[.pointer (some ⟨jb, 0, none⟩)] 29))) := (Below.refl _ w).alloc (Nat.le_refl _) _
  have c7 := cell_grw (h.blk.cellD 7 _ rfl) HBV.out
  clear eR
  cases hbr : s.broken with
  | true =>
    have F := Lib.hid (FS.out 13 _ (by unfold JS.append; rw [if_pos hbr]) HBV.out)
    rw [hbr] at c7
    clear FS h hbr
    go_enter Tryz.func13, Tryz.ntmps13
    go_wp2_with fail
    first
      | exact F.out
      | (go_ret; exact F.out)
  | false =>
    have HON := Lib.hid (hon hbr)
    rw [hbr] at c7
    by_cases h2000 : 2000 < body.size
    · have t1 : decide ((2000 : Int) < (body.size : Int)) = true := decide_eq_true (by omega)
      have F := Lib.hid (FS.out 3 _ (by unfold JS.append; rw [if_neg (by rw [hbr]; decide), if_pos (by omega)]) HBV.out)
      clear FS h hbr hon
      go_enter Tryz.func13, Tryz.ntmps13
      go_wp2_with fail
      first
        | exact F.out
        | (go_ret; exact F.out)
    · have t1 : decide ((2000 : Int) < (body.size : Int)) = false := decide_eq_false (by omega)
      have hfl := frameL_len (b := body.data.toList) (by omega)
      have EA : Hid (s.append n body.data.toList = if 32 * ((n - 2) / 2) < s.v.2.2 + (4 + body.size) ∨ s.v.1 = 999999999 then (s, 19) else
          if (changeD n s.a s.v.1 s.v.2.1 s.v.2.2 (frameL body.data.toList) s.d).2 = 0 then
            ({ d := (changeD n s.a s.v.1 s.v.2.1 s.v.2.2 (frameL body.data.toList) s.d).1, v := (s.v.1 + 1, s.v.2.1, s.v.2.2 + (frameL body.data.toList).length), a := 1 - s.a, recs := s.recs ++ [body.data.toList], broken := false }, 0)
          else ({ s with d := (changeD n s.a s.v.1 s.v.2.1 s.v.2.2 (frameL body.data.toList) s.d).1, broken := true }, (changeD n s.a s.v.1 s.v.2.1 s.v.2.2 (frameL body.data.toList) s.d).2)) := by
        show _ = _
        unfold JS.append
        rw [if_neg (by rw [hbr]; decide), if_neg (by omega), hbl]
      have FR := Lib.hid (frame_any body (w.alloc (.cells #[.pointer (some ⟨jb, 0, none⟩)] 29)) (by omega) (hE.grow HBV.out).h)
      have htxl : (tx (frameL body.data.toList)).size = 4 + body.size := by rw [tx_size, hfl, hbl]
      obtain ⟨size, es⟩ : ∃ size, size = (n - 2) / 2 := ⟨_, rfl⟩
      have hn2 := h.disk.ok.n2
      have hlen := h.len
      have hnum := h.num
      rw [← es] at EA hlen
      have hj4 := h.blk
      rw [← es] at hj4
      have HJ := Lib.hid hj4
      have HRM := Lib.hid (fun (w' : World) (hb : Below w.heap.size w w') => room_any (w := w') (jb := jb) size ((hj4.below hb hj4.lt).cellD 4 _ rfl) (by omega))
      obtain ⟨room, er⟩ : ∃ room, room = 32 * size := ⟨_, rfl⟩
      rw [← er] at EA hlen HRM
      have hroomb : room ≤ 1000000 := by omega
      obtain ⟨x, ex⟩ : ∃ x, x = tx (frameL body.data.toList) := ⟨_, rfl⟩
      rw [← ex] at FR htxl
      obtain ⟨sd, ⟨num, hf, l⟩, sa, srec, sbr⟩ := s
      dsimp only at hbr hlen hnum EA FS c7 HON hpend hrec
      subst hbr
      have HE := Lib.hid hE
      have EX := Lib.hid ex
      have ERM := Lib.hid er
      have ESZ := Lib.hid es
      clear h hon hfl hj4 er ex es hE
      go_enter Tryz.func13, Tryz.ntmps13
      go_wp2_with fail
      refine FR.out.mono ?_
      rintro e w1 ⟨rfl, hb1⟩
      have HB1 := Lib.hid (HBV.out.trans (hb1.mono HBV.out.size))
      have kJ1 : Hid (Blk w1 w.heap.size [.pointer (some ⟨jb, 0, none⟩)] 29) := (Blk.new w _ _).below hb1 (by simp)
      have S1 : Hid (w.heap.size + 1 ≤ w1.heap.size) := by have := hb1.size; show _ ≤ _; simpa using this
      clear hb1 FR
      go_wp2_with fail
      obtain ⟨V, eV⟩ : ∃ V, V = w1.alloc (.cells #[.string x] 9) := ⟨_, rfl⟩
      have HBW : Hid (Below w1.heap.size w1 V) := by rw [eV]; exact (Below.refl _ w1).alloc (Nat.le_refl _) _
      have kJ : Hid (Blk V w.heap.size [.pointer (some ⟨jb, 0, none⟩)] 29) := by rw [eV]; exact kJ1.out.alloc _
      have kX : Hid (Blk V w1.heap.size [.string x] 9) := by rw [eV]; exact Blk.new w1 _ _
      have HBX := Lib.hid (HB1.out.trans (HBW.out.mono HB1.out.size))
      have VS : Hid (V.heap.size = w1.heap.size + 1) := by show _ = _; rw [eV]; simp
      rw [← eV]
      clear eV c7
      have HJV := Lib.hid (HJ.out.below HBX.out HJ.out.lt)
      have g0 := kJ.out.cellD 0 _ rfl
      have g1 := kX.out.cellD 0 _ rfl
      have j0 := HJV.out.cellD 0 _ rfl
      have j2 := HJV.out.cellD 2 _ rfl
      dsimp only at j0 j2
      have hxb : x.size ≤ 3000 := by omega
      have HTX := Lib.hid htxl
      have HRM2 : Hid (∀ w', Below w.heap.size w w' → Calls Tryz.prog 43 #[.pointer (some ⟨jb, 0, none⟩)] w' fun e w2 => e = .returned (.int .i64 (room : Int)) ∧ Below w'.heap.size w' w2) := fun w' hb => (HRM.out w' hb).mono fun e w2 h => ⟨h.1, by rw [h.2]; exact Below.refl _ _⟩
      obtain ⟨ls, els⟩ : ∃ ls, ls = l + x.size := ⟨_, rfl⟩
      have wl : IntKind.i64.wrap ((l : Int) + (x.size : Int)) = (ls : Int) := by rw [IntWalk.i64_left, IntWalk.wrap64_in _ ⟨by omega, by omega⟩]; omega
      have ELS := Lib.hid els
      clear htxl els
      by_cases hA : room < ls
      · have tA : decide ((room : Int) < (ls : Int)) = true := decide_eq_true (by omega)
        have F := Lib.hid (fun w' hb => FS.out 19 w' (by rw [EA.out, if_pos (.inl (by rw [← HTX.out, ← ELS.out]; exact hA))]) hb)
        clear FS EA
        refine Free.wp_region_free 19 [(9, .det (.int .i64 (room : Int)))] (fun y => Below V.heap.size V y ∧ y.cell? ⟨w.heap.size, 0, none⟩ = some (.pointer (some ⟨jb, 0, none⟩)) ∧ y.cell? ⟨w1.heap.size, 0, none⟩ = some (.string x) ∧ y.cell? ⟨jb, 0, none⟩ = some (.int .i64 (num : Int)) ∧ y.cell? ⟨jb, 2, none⟩ = some (.int .i64 (l : Int))) (by kernel_rfl) (by kernel_rfl) (Free.mono_det (fun j mk r hf => by simp only [Free.find] at hf; repeat' (first | cases hf | split at hf))) ⟨(Below.refl _ _).drew, g0, g1, j0, j2⟩
          (fun _ _ h g => ⟨h.1.trans (Below.mono g h.1.size), cell_grw h.2.1 g, cell_grw h.2.2.1 g, cell_grw h.2.2.2.1 g, cell_grw h.2.2.2.2 g⟩) ?_
        simp only [List.take_succ_cons, List.take_zero]
        iterate 9 (apply Free.chain_still (by first | exact Free.wanted_of rfl rfl rfl | rfl) rfl; (intro w' hB hA; obtain ⟨qB, q0, q1, q2, q3⟩ := hB; clear hA  qB; go_light; go_simp <;> rfl); (try simp only [Act.put, List.setIfInBounds_toArray, List.set_cons_succ, List.set_cons_zero]))
        apply Free.chain_det (by first | exact Free.wanted_of rfl rfl rfl | rfl) rfl
        · intro w' hB hA
          refine Free.opRun_call (f := 43) (args := #[.pointer (some ⟨jb, 0, none⟩)]) (by clear hB hA; go_simp <;> rfl) ?_
          refine (HRM2.out w' (HBX.out.trans (hB.1.mono HBX.out.size))).mono ?_
          rintro e w3 ⟨rfl, hb3⟩
          exact ⟨_, rfl, hb3, rfl⟩
        simp only [Act.put, List.setIfInBounds_toArray, List.set_cons_succ, List.set_cons_zero]
        iterate 2 (apply Free.chain_still (by first | exact Free.wanted_of rfl rfl rfl | rfl) rfl; (intro w' hB hA; obtain ⟨qB, q0, q1, q2, q3⟩ := hB; clear hA  qB; go_light; go_simp <;> rfl); (try simp only [Act.put, List.setIfInBounds_toArray, List.set_cons_succ, List.set_cons_zero]))
        iterate 6 (apply Free.chain_skip (by exact unwanted2 rfl rfl rfl rfl); simp only [Act.put, List.setIfInBounds_toArray, List.set_cons_succ, List.set_cons_zero])
        iterate 1 (apply Free.chain_still (by first | exact Free.wanted_of rfl rfl rfl | rfl) rfl; (intro w' hB hA; obtain ⟨qB, q0, q1, q2, q3⟩ := hB; clear hA  qB; go_light; go_simp <;> rfl); (try simp only [Act.put, List.setIfInBounds_toArray, List.set_cons_succ, List.set_cons_zero]))
        apply Free.chain_nil
        intro w2 hB2 _ _
        simp only [List.drop_succ_cons, List.drop_zero]
        have G := Lib.hid (F.out _ (HBX.out.trans (hB2.1.mono HBX.out.size)))
        clear hB2 g0 g1 j0 j2
        go_wp2_with fail
        first
          | exact G.out
          | (go_ret; exact G.out)
      · have tA : decide ((room : Int) < (ls : Int)) = false := decide_eq_false (by omega)
        by_cases hN : num = 999999999
        · have tN : ((num : Int) == 999999999) = true := by simp; omega
          have F := Lib.hid (fun w' hb => FS.out 19 w' (by rw [EA.out, if_pos (.inr hN)]) hb)
          clear FS EA hN
          refine Free.wp_region_free 19 [(9, .det (.int .i64 (room : Int)))] (fun y => Below V.heap.size V y ∧ y.cell? ⟨w.heap.size, 0, none⟩ = some (.pointer (some ⟨jb, 0, none⟩)) ∧ y.cell? ⟨w1.heap.size, 0, none⟩ = some (.string x) ∧ y.cell? ⟨jb, 0, none⟩ = some (.int .i64 (num : Int)) ∧ y.cell? ⟨jb, 2, none⟩ = some (.int .i64 (l : Int))) (by kernel_rfl) (by kernel_rfl) (Free.mono_det (fun j mk r hf => by simp only [Free.find] at hf; repeat' (first | cases hf | split at hf))) ⟨(Below.refl _ _).drew, g0, g1, j0, j2⟩
            (fun _ _ h g => ⟨h.1.trans (Below.mono g h.1.size), cell_grw h.2.1 g, cell_grw h.2.2.1 g, cell_grw h.2.2.2.1 g, cell_grw h.2.2.2.2 g⟩) ?_
          simp only [List.take_succ_cons, List.take_zero]
          iterate 9 (apply Free.chain_still (by first | exact Free.wanted_of rfl rfl rfl | rfl) rfl; (intro w' hB hA; obtain ⟨qB, q0, q1, q2, q3⟩ := hB; clear hA  qB; go_light; go_simp <;> rfl); (try simp only [Act.put, List.setIfInBounds_toArray, List.set_cons_succ, List.set_cons_zero]))
          apply Free.chain_det (by first | exact Free.wanted_of rfl rfl rfl | rfl) rfl
          · intro w' hB hA
            refine Free.opRun_call (f := 43) (args := #[.pointer (some ⟨jb, 0, none⟩)]) (by clear hB hA; go_simp <;> rfl) ?_
            refine (HRM2.out w' (HBX.out.trans (hB.1.mono HBX.out.size))).mono ?_
            rintro e w3 ⟨rfl, hb3⟩
            exact ⟨_, rfl, hb3, rfl⟩
          simp only [Act.put, List.setIfInBounds_toArray, List.set_cons_succ, List.set_cons_zero]
          iterate 2 (apply Free.chain_still (by first | exact Free.wanted_of rfl rfl rfl | rfl) rfl; (intro w' hB hA; obtain ⟨qB, q0, q1, q2, q3⟩ := hB; clear hA  qB; go_light; go_simp <;> rfl); (try simp only [Act.put, List.setIfInBounds_toArray, List.set_cons_succ, List.set_cons_zero]))
          iterate 7 (apply Free.chain_still (by first | exact Free.wanted_of rfl rfl rfl | rfl) rfl; (intro w' hB hA; obtain ⟨qB, q0, q1, q2, q3⟩ := hB; clear hA  qB; go_light; go_simp <;> rfl); (try simp only [Act.put, List.setIfInBounds_toArray, List.set_cons_succ, List.set_cons_zero]))
          apply Free.chain_nil
          intro w2 hB2 _ _
          simp only [List.drop_succ_cons, List.drop_zero]
          have G := Lib.hid (F.out _ (HBX.out.trans (hB2.1.mono HBX.out.size)))
          clear hB2 g0 g1 j0 j2
          go_wp2_with fail
          first
            | exact G.out
            | (go_ret; exact G.out)
        · have tN : ((num : Int) == 999999999) = false := by simp; omega
          refine Free.wp_region_free 19 [(9, .det (.int .i64 (room : Int)))] (fun y => Below V.heap.size V y ∧ y.cell? ⟨w.heap.size, 0, none⟩ = some (.pointer (some ⟨jb, 0, none⟩)) ∧ y.cell? ⟨w1.heap.size, 0, none⟩ = some (.string x) ∧ y.cell? ⟨jb, 0, none⟩ = some (.int .i64 (num : Int)) ∧ y.cell? ⟨jb, 2, none⟩ = some (.int .i64 (l : Int))) (by kernel_rfl) (by kernel_rfl) (Free.mono_det (fun j mk r hf => by simp only [Free.find] at hf; repeat' (first | cases hf | split at hf))) ⟨(Below.refl _ _).drew, g0, g1, j0, j2⟩
            (fun _ _ h g => ⟨h.1.trans (Below.mono g h.1.size), cell_grw h.2.1 g, cell_grw h.2.2.1 g, cell_grw h.2.2.2.1 g, cell_grw h.2.2.2.2 g⟩) ?_
          simp only [List.take_succ_cons, List.take_zero]
          iterate 9 (apply Free.chain_still (by first | exact Free.wanted_of rfl rfl rfl | rfl) rfl; (intro w' hB hA; obtain ⟨qB, q0, q1, q2, q3⟩ := hB; clear hA  qB; go_light; go_simp <;> rfl); (try simp only [Act.put, List.setIfInBounds_toArray, List.set_cons_succ, List.set_cons_zero]))
          apply Free.chain_det (by first | exact Free.wanted_of rfl rfl rfl | rfl) rfl
          · intro w' hB hA
            refine Free.opRun_call (f := 43) (args := #[.pointer (some ⟨jb, 0, none⟩)]) (by clear hB hA; go_simp <;> rfl) ?_
            refine (HRM2.out w' (HBX.out.trans (hB.1.mono HBX.out.size))).mono ?_
            rintro e w3 ⟨rfl, hb3⟩
            exact ⟨_, rfl, hb3, rfl⟩
          simp only [Act.put, List.setIfInBounds_toArray, List.set_cons_succ, List.set_cons_zero]
          iterate 2 (apply Free.chain_still (by first | exact Free.wanted_of rfl rfl rfl | rfl) rfl; (intro w' hB hA; obtain ⟨qB, q0, q1, q2, q3⟩ := hB; clear hA  qB; go_light; go_simp <;> rfl); (try simp only [Act.put, List.setIfInBounds_toArray, List.set_cons_succ, List.set_cons_zero]))
          iterate 7 (apply Free.chain_still (by first | exact Free.wanted_of rfl rfl rfl | rfl) rfl; (intro w' hB hA; obtain ⟨qB, q0, q1, q2, q3⟩ := hB; clear hA  qB; go_light; go_simp <;> rfl); (try simp only [Act.put, List.setIfInBounds_toArray, List.set_cons_succ, List.set_cons_zero]))
          apply Free.chain_nil
          intro w2 hB2 _ _
          simp only [List.drop_succ_cons, List.drop_zero]
          have HB2 := Lib.hid hB2.1
          have g0 := (kJ.out.below hB2.1 kJ.out.lt).cellD 0 _ rfl
          clear hB2 g1 j0 j2
          have hmf : ∀ (fn : Fn) (first cap : Array Value) (w : World), (Instr.makeFunc fn first cap).run Tryz.prog w = .ok (.func fn first cap) w := fun _ _ _ _ => rfl
          go_wp2_with fail
          have hroom' : l + (frameL body.data.toList).length ≤ 32 * ((n - 2) / 2) := by
            have h1 := EX.out
            have h2 : (frameL body.data.toList).length = x.size := by rw [h1, tx_size]
            rw [h2, ← ESZ.out, ← ERM.out]
            have := ELS.out
            omega
          have HBY := Lib.hid (HBX.out.trans (HB2.out.mono HBX.out.size))
          have hd2 := H.out.disk.below HBY.out
          have hj2 := HJ.out.below HBY.out HJ.out.lt
          rw [ESZ.out] at hj2
          have hx2 := kX.out.below HB2.out kX.out.lt
          rw [EX.out] at hx2
          have TC := Lib.hid (try_cm (g := 44) (cb := #[.pointer (some ⟨w.heap.size, 0, none⟩), .pointer (some ⟨w1.heap.size, 0, none⟩)]) hd2 hj2 (enters_of Tryz.func44 (by kernel_rfl) rfl)
            (fun W hb => app1_any (hd2.below hb) HON.out H.out.n4 (hj2.below hb hj2.lt) ((kJ.out.below HB2.out kJ.out.lt).below hb (by have := kJ.out.lt; have := HB2.out.size; omega)) (hx2.below hb hx2.lt) H.out.at_ H.out.hf hroom' (by omega) hpend ((HE.out.grow HBY.out).grow hb)))
          have EA2 := EA.out
          rw [if_neg (fun h => h.elim (fun h => by have h1 := ELS.out; have h2 := HTX.out; omega) hN)] at EA2
          obtain ⟨r, er⟩ : ∃ r, r = changeD n sa num hf l (frameL body.data.toList) sd := ⟨_, rfl⟩
          rw [← er] at EA2
          have EA3 := Lib.hid EA2
          have TC : Hid (Calls Tryz.prog 32 #[.pointer (some ⟨jb, 0, none⟩), .func (.func 44) #[] #[.pointer (some ⟨w.heap.size, 0, none⟩), .pointer (some ⟨w1.heap.size, 0, none⟩)]] w2 (TrPost w2 jb b bs bm n sa ((n - 2) / 2) hf (l + (frameL body.data.toList).length) pv rv (num, hf, l) r)) := by rw [er]; exact TC.out
          clear hroom' hd2 hj2 hx2 EA EA2 er FS hmf
          refine TC.out.mono ?_
          rintro e w3 ⟨rfl, ⟨bm', pv', u1, u2, u3, u4⟩, hc⟩
          have hjbw : jb < w.heap.size := HJ.out.lt
          have K3 : Hid (Keep (fun k => k = jb ∨ Fp b bs bm pv k) w w3) := Keep.trans (F := fun k => k = jb ∨ Fp b bs bm pv k) (Keep.of_below HBY.out) u2 (fun _ _ f => f)
          have U : Hid (DiskAt w3 b bs bm' pv' r.1 n ∧ (bm' = bm ∨ w.heap.size ≤ bm') ∧ (∀ k, pv'.ownBlock = some k → pv.ownBlock = some k ∨ w.heap.size ≤ k)) := by
            have := HBY.out.size
            exact ⟨u1, u3.imp id (fun h => by omega), fun k hk => (u4 k hk).imp id (fun h => by omega)⟩
          have HRW : Hid (RowT w3 0 rv srec) := H.out.row.keep fun k hk => K3.out.block k (World.ownsRow.lt H.out.row k hk).2 (fun h => h.elim (fun e => row_ne H.out.row H.out.blk (by decide) (e ▸ hk)) (row_notFp H.out.disk H.out.row (by decide) (by decide) (by decide) hk))
          have K23 := Lib.hid u2
          clear u1 u2 u3 u4 TC
          obtain ⟨rd, c⟩ := r
          dsimp only at hc
          rcases hc with ⟨z, hj3⟩ | ⟨z, hj3⟩
          · subst z
            have FINW : Hid (∀ wz v', Keep (fun k => rv.ownBlock = some k) w3 wz → RowT wz 0 v' (srec ++ [body.data.toList]) → (∀ k, v'.ownBlock = some k → rv.ownBlock = some k ∨ w3.heap.size ≤ k) → R (.returned (.int .i64 0)) (wz.setCell ⟨jb, 6, none⟩ v')) := fun wz v' hk hr hf => by
              have hjz : Blk wz jb _ 63 := hj3.keepB (hk.block jb hj3.lt (row_ne HRW.out hj3 (by decide)))
              have hdz := U.out.1.keep hk (fun k hf' e => row_notFp U.out.1 HRW.out (by decide) (by decide) (by decide) e hf')
              have ks : Keep (fun k => k = jb) wz (wz.setCell ⟨jb, 6, none⟩ v') := (Keep.refl (fun k => k = jb) wz).setCell (p := ⟨jb, 6, none⟩) (fun _ => rfl) _
              have hs3 := K3.out.size
              rw [ER.out, EA3.out, if_pos rfl]
              refine ⟨rfl, bm', pv', v', ⟨H.out.n4, hdz.keep ks (fun k hf' e => notFp hdz hjz (by decide) (by decide) (by decide) (e ▸ hf')), by have := hjz.set 6 v'; exact this, hr.keep fun k e => ks.block k (World.ownsRow.lt hr k e).2 (fun e' => row_ne hr hjz (by decide) (e' ▸ e)), ?_, H.out.hf, ?_, ?_⟩, ?_, U.out.2.1, U.out.2.2, fun k e => (hf k e).imp id (fun h => by omega)⟩
              · show num + 1 ≤ 999999999; omega
              · show l + (frameL body.data.toList).length ≤ _
                have h2 : (frameL body.data.toList).length = x.size := by rw [EX.out, tx_size]
                rw [h2, ← ESZ.out, ← ERM.out]
                have := ELS.out
                omega
              · show 1 - sa ≤ 1; omega
              · exact (((K3.out.mono (fun k _ h => h.elim .inl (fun h => .inr (.inr h))) : Keep (JFp jb b bs bm pv rv) w w3)).trans hk (fun k _ e => .inr (.inl e))).trans ks (fun k _ e => .inl e)
            have k3 : Hid (Blk w3 w.heap.size [.pointer (some ⟨jb, 0, none⟩)] 29) := by
              have hb0 := kJ.out.below HB2.out kJ.out.lt
              exact hb0.keepB (K23.out.block _ hb0.lt (fun h => h.elim (fun e => by omega) (fun hf => by have := H.out.disk.lt hf; omega)))
            have q0 := k3.out.cellD 0 _ rfl
            have q6 := hj3.cellD 6 _ rfl
            have f6 := hj3.frozen 6
            have HJ3 := Lib.hid hj3
            have hbx : tx body.data.toList = body := tx_of body
            obtain ⟨i0, hi, hz0, hz1, hz2⟩ := info_parts infoStr
            have HI := Lib.hid hi
            have HZ0 := Lib.hid hz0
            have HZ1 := Lib.hid hz1
            have HZ2 := Lib.hid hz2
            have HRL : Hid (((srec.map tx).flatMap encS).length = srec.length) := by
              have := HRW.out.1
              rw [Nat.mul_one] at this
              exact this
            obtain ⟨X, eX⟩ : ∃ X, X = (srec.map tx).flatMap encS := ⟨_, rfl⟩
            have hrow0 : w3.ownsRow 0 9 1 rv srec.length X := by rw [eX]; exact HRW.out
            have SN : Hid (((srec ++ [body.data.toList]).map tx).flatMap encS = X ++ [.string body]) := by show _ = _; rw [row_snoc, hbx, eX]
            rw [← eX] at HRL
            have HR0 := Lib.hid hrow0
            clear hj3 hi hz0 hz1 hz2 eX EA3 ER
            by_cases hroom : ∃ g cap, rv = .slice (some ⟨g, 0, none⟩) srec.length cap ∧ srec.length + 1 ≤ cap
            · obtain ⟨g, cap, hrv, hcap⟩ := hroom
              obtain ⟨_, ⟨h0, _⟩ | ⟨g', cap', cur, h0, _, hcur, hn1, hc1, hcs, htk⟩⟩ := hrow0
              · rw [hrv] at h0; cases h0
              rw [hrv] at h0
              injection h0 with e1 _ e3
              injection e1 with e1
              injection e1 with e1
              subst e1 e3
              rw [Nat.mul_one] at hcs htk
              have hgj : g ≠ jb := fun e => row_ne HRW.out HJ3.out (by decide) (by rw [hrv, ← e]; rfl)
              have hgb : g ≠ w.heap.size := fun e => row_ne HRW.out k3.out (by decide) (by rw [hrv, ← e]; rfl)
              have hg3 : g < w3.heap.size := (Array.getElem?_eq_some_iff.1 hcur).1
              have HFIT : Hid (∀ cc : Array Value, cc.size = cap → srec.length + ([Value.string body] : List Value).length ≤ cc.size) := fun cc e => by rw [e]; exact hcap
              have HRV := Lib.hid hrv
              letI : Fre2.Rel := ⟨RowG g srec.length [.string body] cap, RowG.refl _ _ _ _, RowG.trans HFIT.out⟩
              rw [hrv] at q6
              clear hrv f6
              go_wp2_with fail
              refine Fre2.wp_region_free 10 [(6, .ind (fun g6 => .slice (some ⟨g6, 0, none⟩) 1 1) (fun g6 w2 => Blk w2 g6 [.string body] 9 ∧ g6 ≠ g)), (7, .ind (fun _ => .slice (some ⟨g, 0, none⟩) (srec.length + 1) cap) (fun _ w2 => ∃ cc : Array Value, w2.heap[g]? = some (.cells (Apk.spl cc srec.length [.string body]) 9 (0, 0)) ∧ cc.size = cap ∧ cc.toList.take srec.length = X))]
                (fun w2 => w2.cell? ⟨w.heap.size, 0, none⟩ = some (.pointer (some ⟨jb, 0, none⟩)) ∧ w2.cell? ⟨jb, 6, none⟩ = some (.slice (some ⟨g, 0, none⟩) srec.length cap) ∧ (∃ cc : Array Value, w2.heap[g]? = some (.cells cc 9 (0, 0)) ∧ cc.size = cap ∧ cc.toList.take srec.length = X) ∧ w3.heap.size ≤ w2.heap.size) (by kernel_rfl) (by kernel_rfl) ?_ ⟨q0, q6, ⟨cur, hcur, hcs, htk⟩, Nat.le_refl _⟩
                (fun y1 y2 h r => ?_) ?_
              · intro j mk r hf y w1 w2 hr rr
                obtain ⟨rk, rc⟩ := rr
                simp only [Free.find] at hf
                repeat' split at hf
                · cases hf; exact ⟨hr.1.keepB (rk.block _ hr.1.lt hr.2), hr.2⟩
                · cases hf
                  obtain ⟨cc, h1, h2, h3⟩ := hr
                  refine ⟨cc, ?_, h2, h3⟩
                  rcases rc _ h1 (by rw [Apk.spl_size _ _ _ (HFIT.out cc h2)]; exact h2) with h4 | h4
                  · exact h4
                  · rw [h4, Apk.spl_spl _ _ _ (HFIT.out cc h2)]
                · cases hf
              · obtain ⟨rk, rc⟩ := r
                obtain ⟨h1, h2, ⟨cc, h3, h4, h5⟩, h6⟩ := h
                refine ⟨?_, ?_, ?_, Nat.le_trans h6 rk.size⟩
                · rw [World.cell?_of_block (rk.block _ (World.block_lt_of_cell? y1 _ h1) (Ne.symm hgb))]; exact h1
                · rw [World.cell?_of_block (rk.block _ (World.block_lt_of_cell? y1 _ h2) (Ne.symm hgj))]; exact h2
                · rcases rc _ h3 h4 with h7 | h7
                  · exact ⟨cc, h7, h4, h5⟩
                  · exact ⟨_, h7, by rw [Apk.spl_size _ _ _ (HFIT.out cc h4)]; exact h4, by rw [Apk.spl_take _ _ _ (HFIT.out cc h4)]; exact h5⟩
              simp only [List.take_succ_cons, List.take_zero]
              clear q0 q6
              iterate 6 (apply Fre2.chain_still (by first | exact Free.wanted_of rfl rfl rfl | rfl) rfl; (intro w' hB hA; obtain ⟨q0, q1, q2, q3⟩ := hB; clear hA  q2 q3; go_light; go_simp <;> rfl); (try simp only [Act.put, List.setIfInBounds_toArray, List.set_cons_succ, List.set_cons_zero]))
              apply Fre2.chain_ind rfl rfl
              · intro w' hB hA
                refine Free.opRun_of (v := .slice (some ⟨w'.heap.size, 0, none⟩) 1 1) (w' := w'.alloc (.cells #[.string body] 9)) (by clear hB hA; go_light; go_simp <;> rfl) ⟨relg_grow ((Below.refl _ _).alloc (Nat.le_refl _) _), w'.heap.size, rfl, Blk.new w' [.string body] 9, ?_⟩
                have := hB.2.2.2; omega
              intro g6
              simp only [Act.put, List.setIfInBounds_toArray, List.set_cons_succ, List.set_cons_zero]
              apply Fre2.chain_ind rfl rfl
              · intro w' hB hA
                have h6 : Blk w' g6 [.string body] 9 ∧ g6 ≠ g := hA _ List.mem_cons_self (by kernel_rfl)
                obtain ⟨_, _, ⟨cc, h3, h4, h5⟩, _⟩ := hB
                have hrun := Apk.append_room (P := Tryz.prog) w' 30 30 9 i0 1 Tryz.underlying30 HI.out HZ1.out g srec.length cap cc h3 ⟨g6, 0, none⟩ 1 1 [.string body] rfl (fun j u hu => by rw [addr_add, Nat.zero_add]; exact h6.1.cellD j u hu) (fun u hu => by rw [List.mem_singleton.1 hu]; rfl) hcap (by rw [Nat.mul_one]; exact h4)
                rw [Nat.mul_one] at hrun
                refine Free.opRun_of (v := .slice (some ⟨g, 0, none⟩) (srec.length + 1) cap) (w' := w'.setRow g (Apk.spl cc srec.length [.string body])) ?_ ⟨relg_set h3, 0, rfl, cc, setRow_heap w' g cc _ 9 _ h3, h4, h5⟩
                exact exec_append (s := .tmp 46) (x := .tmp 48) rfl rfl rfl hrun
              intro y
              simp only [Act.put, List.setIfInBounds_toArray, List.set_cons_succ, List.set_cons_zero]
              iterate 2 (apply Fre2.chain_still (by first | exact Free.wanted_of rfl rfl rfl | rfl) rfl; (intro w' hB hA; obtain ⟨q0, q1, q2, q3⟩ := hB; clear hA  q0 q1 q2 q3; go_light; go_simp <;> rfl); (try simp only [Act.put, List.setIfInBounds_toArray, List.set_cons_succ, List.set_cons_zero]))
              apply Fre2.chain_nil
              intro wz hBz hg hh
              have h7 := hh _ List.mem_cons_self
              simp only at h7
              obtain ⟨cc, hc1', hc2, hc3⟩ := h7
              obtain ⟨hz, _⟩ : Keep (fun k => k = g) w3.drew wz ∧ _ := hg
              have hown7 : RowT wz 0 (.slice (some ⟨g, 0, none⟩) (srec.length + 1) cap) (srec ++ [body.data.toList]) := by
                unfold RowT
                rw [SN.out, List.length_append]
                have hXl : X.length = srec.length := HRL.out
                refine ⟨by rw [List.length_append, hXl]; simp, .inr ⟨g, cap, _, rfl, Nat.zero_le _, hc1', hcap, hc1, by rw [Apk.spl_size _ _ _ (HFIT.out cc hc2), Nat.mul_one]; exact hc2, ?_⟩⟩
                unfold Apk.spl
                rw [hc3]
                rw [List.take_append_of_le_length (by simp [hXl]), List.take_of_length_le (by simp [hXl])]
              have hjz : Blk wz jb _ 63 := (HJ3.out.drew).keepB (hz.block jb HJ3.out.lt (Ne.symm hgj))
              have f6 := hjz.frozen 6
              have c6 := hjz.cellD 6 _ rfl
              rw [HRV.out] at c6
              have G := Lib.hid (FINW wz _ (by rw [HRV.out]; exact (show Keep (fun k => (Value.slice (some ⟨g, 0, none⟩) srec.length cap).ownBlock = some k) w3 wz from ⟨hz.os, hz.tape, hz.output, hz.size, fun k hk hn => hz.block k hk (fun e => hn (by rw [e]; rfl))⟩)) hown7 (fun k e => .inl (by rw [HRV.out]; exact e)))
              simp only [List.drop_succ_cons, List.drop_zero]
              clear hBz hh hown7 hz hjz hc1' hc2 hc3 hcur hcs htk FINW
              go_wp2_with fail
              first
                | exact G.out
                | (go_ret; exact G.out)
            · have HRM3 : Hid (∀ g cap, rv = .slice (some ⟨g, 0, none⟩) srec.length cap → cap < srec.length + 1) := fun g cap e => Nat.lt_of_not_le (fun hc => hroom ⟨g, cap, e, hc⟩)
              obtain ⟨Ar, lr, cr, hrv⟩ := row_is HRW.out
              have HRV := Lib.hid hrv
              rw [hrv] at q6
              obtain ⟨L, eL⟩ : ∃ L, L = srec.length := ⟨_, rfl⟩
              rw [← eL] at HRM3 HRL HR0 hrec
              have HRC := Lib.hid hrec
              have EL := Lib.hid eL
              have HR3 : Hid (w3.ownsRow 0 9 1 rv L X) := HR0.out
              clear hrv hroom eL f6 hrow0 hrec
              go_wp2_with fail
              refine Free.wp_region_free 10 [(6, .ind (fun g => .slice (some ⟨g, 0, none⟩) 1 1) (fun g w2 => Blk w2 g [.string body] 9)), (7, .ind (fun y => .slice (some ⟨y / 18446744073709551616, 0, none⟩) (L + 1) (y % 18446744073709551616)) (fun y w2 => w2.ownsRow 0 9 1 (.slice (some ⟨y / 18446744073709551616, 0, none⟩) (L + 1) (y % 18446744073709551616)) (L + 1) (X ++ [.string body]) ∧ w3.heap.size ≤ y / 18446744073709551616))]
                (fun w2 => w2.cell? ⟨w.heap.size, 0, none⟩ = some (.pointer (some ⟨jb, 0, none⟩)) ∧ w2.cell? ⟨jb, 6, none⟩ = some (.slice Ar lr cr) ∧ w2.ownsRow 0 9 1 rv L X ∧ w3.heap.size ≤ w2.heap.size) (by kernel_rfl) (by kernel_rfl) ?_ ⟨q0, q6, HR3.out, Nat.le_refl _⟩
                (fun y1 y2 h g => ⟨cell_grow' h.1 g, cell_grow' h.2.1 g, row_keep h.2.2.1 (fun k e => g.block k (h.2.2.1.lt k e).2), Nat.le_trans h.2.2.2 g.size⟩) ?_
              · intro j mk r hf y w1 w2 hr g
                simp only [Free.find] at hf
                repeat' split at hf
                · cases hf; exact hr.below g hr.lt
                · cases hf; exact ⟨row_keep hr.1 (fun k e => g.block k (hr.1.lt k e).2), hr.2⟩
                · cases hf
              simp only [List.take_succ_cons, List.take_zero]
              clear q0 q6
              iterate 6 (apply Free.chain_still (by first | exact Free.wanted_of rfl rfl rfl | rfl) rfl; (intro w' hB hA; obtain ⟨q0, q1, q2, q3⟩ := hB; clear hA  q2 q3; go_light; go_simp <;> rfl); (try simp only [Act.put, List.setIfInBounds_toArray, List.set_cons_succ, List.set_cons_zero]))
              apply Free.chain_ind rfl rfl
              · intro w' hB hA
                exact Free.opRun_of (v := .slice (some ⟨w'.heap.size, 0, none⟩) 1 1) (w' := w'.alloc (.cells #[.string body] 9)) (by clear hB hA; go_light; go_simp <;> rfl) ⟨(Below.refl _ _).alloc (Nat.le_refl _) _, w'.heap.size, rfl, Blk.new w' [.string body] 9⟩
              intro g6
              simp only [Act.put, List.setIfInBounds_toArray, List.set_cons_succ, List.set_cons_zero]
              apply Free.chain_ind rfl rfl
              · intro w' hB hA
                have h6 : Blk w' g6 [.string body] 9 := hA _ List.mem_cons_self (by kernel_rfl)
                have hL6 : L ≤ 1000000 := HRC.out
                obtain ⟨cap, w5, hrun, hown5, hgr5⟩ := Apk.append_grows (P := Tryz.prog) w' 0 30 30 9 i0 _ 1 16 Tryz.underlying30 HI.out HZ0.out HZ1.out HZ2.out rfl (by decide) rv L X hB.2.2.1 ⟨g6, 0, none⟩ 1 1 [.string body] rfl (fun j u hu => by rw [addr_add, Nat.zero_add]; exact h6.cellD j u hu) (fun u hu => by rw [List.mem_singleton.1 hu]; rfl) (by unfold maxLen; omega) (by omega) (Nat.zero_le _) (by decide) HRM3.out
                have hcap : cap < 18446744073709551616 := by
                  obtain ⟨_, h0 | ⟨g', cap', cur', e', _, _, _, hc', _⟩⟩ := hown5
                  · exact absurd h0.2 (by omega)
                  · injection e' with _ _ e3; subst e3; unfold maxLen at hc'; omega
                have e1 : (w'.heap.size * 18446744073709551616 + cap) / 18446744073709551616 = w'.heap.size := by omega
                have e2 : (w'.heap.size * 18446744073709551616 + cap) % 18446744073709551616 = cap := by omega
                refine Free.opRun_of (v := .slice (some ⟨w'.heap.size, 0, none⟩) (L + 1) cap) (w' := w5) ?_ ⟨⟨hgr5.os, hgr5.tape, hgr5.output, hgr5.size, fun k hk => hgr5.block k hk (by simp)⟩, w'.heap.size * 18446744073709551616 + cap, by rw [e1, e2], by rw [e1, e2]; exact ⟨hown5, hB.2.2.2⟩⟩
                exact exec_append (s := .tmp 46) (x := .tmp 48) rfl (by rw [HRV.out]; rfl) rfl hrun
              intro y
              simp only [Act.put, List.setIfInBounds_toArray, List.set_cons_succ, List.set_cons_zero]
              iterate 2 (apply Free.chain_still (by first | exact Free.wanted_of rfl rfl rfl | rfl) rfl; (intro w' hB hA; obtain ⟨q0, q1, q2, q3⟩ := hB; clear hA  q0 q1 q2 q3; go_light; go_simp <;> rfl); (try simp only [Act.put, List.setIfInBounds_toArray, List.set_cons_succ, List.set_cons_zero]))
              apply Free.chain_nil
              intro wz hBz hg hh
              have h7 := hh _ List.mem_cons_self
              simp only at h7
              obtain ⟨hown7, hfr7⟩ := h7
              have hz := grow_drew' hg
              have hjz : Blk wz jb _ 63 := HJ3.out.below hz HJ3.out.lt
              have f6 := hjz.frozen 6
              have c6 := hjz.cellD 6 _ rfl
              rw [HRV.out] at c6
              have hrt : RowT wz 0 (.slice (some ⟨y / 18446744073709551616, 0, none⟩) (L + 1) (y % 18446744073709551616)) (srec ++ [body.data.toList]) := by
                unfold RowT
                rw [SN.out, List.length_append, ← EL.out]
                exact hown7
              have G := Lib.hid (FINW wz _ (Keep.of_below hz) hrt (fun k e => .inr (by
                have h8 : y / 18446744073709551616 = k := by simpa [Value.ownBlock] using e
                omega)))
              simp only [List.drop_succ_cons, List.drop_zero]
              clear hBz hh hown7 hfr7 hz hjz hrt FINW hg
              go_wp2_with fail
              first
                | exact G.out
                | (go_ret; exact G.out)
          · have hcb : (c == 0) = false := by simpa using z
            have FIN : Hid (R (.returned (.int .i64 c)) w3) := by
              rw [ER.out, EA3.out, if_neg z]
              exact ⟨rfl, bm', pv', rv, ⟨H.out.n4, U.out.1, hj3, HRW.out, H.out.num, H.out.hf, H.out.len, H.out.at_⟩, K3.out.mono (fun k _ h => h.elim .inl (fun h => .inr (.inr h))), U.out.2.1, U.out.2.2, fun _ h => .inl h⟩
            clear hj3 EA3
            go_wp2_with fail
            first
              | exact FIN.out
              | (go_ret; exact FIN.out)
end Go.Proofs.YthfjaaigncjhlaaGreatDoor

namespace Go.Proofs.YthfjaaigncjhlaaGreatDoor
open Go.RowKit Go.Blk Go.Jn Go.Dk Go.Mp Go.Rf Go.Shelf Go.Apl Go.Opn

/-- The records of a list of strings. -/
def recsOf (l : List ByteArray) : List (List UInt8) := l.map (fun x => x.data.toList)
theorem recsOf_len (l : List ByteArray) : (recsOf l).length = l.length := by unfold recsOf; simp
theorem recsOf_tx (l : List ByteArray) : (recsOf l).map tx = l := by
  unfold recsOf
  rw [List.map_map]
  exact (List.map_congr_left (fun x _ => tx_of x)).trans (List.map_id l)
theorem recsOf_take {l : List ByteArray} {k : Nat} {x : ByteArray} (h : l[k]? = some x) : recsOf (l.take (k + 1)) = recsOf (l.take k) ++ [x.data.toList] := by
  unfold recsOf
  rw [List.take_add_one, h, List.map_append]; rfl
theorem roomL_take {l : List ByteArray} {k : Nat} {x : ByteArray} (h : l[k]? = some x) : roomL (recsOf (l.take (k + 1))) = roomL (recsOf (l.take k)) + (4 + x.size) := by
  rw [recsOf_take h, roomL_append]
  show _ + (4 + x.data.toList.length + 0) = _
  simp
theorem roomL_few {m : Nat} : ∀ l : List (List UInt8), (∀ b ∈ l, b.length ≤ m) → roomL l ≤ (4 + m) * l.length
  | [], _ => Nat.zero_le _
  | b :: l, h => by
    have h1 := roomL_few l (fun x hx => h x (by simp [hx]))
    have h2 := h b (by simp)
    show 4 + b.length + roomL l ≤ (4 + m) * (l.length + 1)
    rw [Nat.mul_add]; omega
theorem framesL_take {l : List ByteArray} {k : Nat} {x : ByteArray} (h : l[k]? = some x) : framesL (recsOf (l.take (k + 1))) = framesL (recsOf (l.take k)) ++ frameL x.data.toList := by
  rw [recsOf_take h]
  unfold framesL
  rw [List.flatMap_append]; simp
/-- A clone of the caller's records. -/
theorem clone_sl {w : World} {A : Option Addr} {c : Nat} {l : List ByteArray} (h : SL w 1 encS A l) (hl : l.length ≤ 1000000000) :
    Calls Tryz.prog 37 #[.slice A l.length c] w fun e w' => ∃ A' c', e = .returned (.slice A' l.length c') ∧ RowT w' w.heap.size (.slice A' l.length c') (recsOf l) ∧ Below w.heap.size w w' := by
  have hrl := recsOf_len l
  have hA : A = none ∨ (l = [] ∧ ∃ a, A = some a) ∨ ∃ b off, A = some ⟨b, off, none⟩ := by
    cases A with
    | none => exact .inl rfl
    | some a =>
      cases l with
      | nil => exact .inr (.inl ⟨rfl, a, rfl⟩)
      | cons x r => obtain ⟨b, off, h1, _⟩ := h.cells (by simp); exact .inr (.inr ⟨b, off, h1⟩)
  rcases hA with rfl | ⟨rfl, a, rfl⟩ | ⟨b, off, rfl⟩
  · have hl0 : l = [] := by
      cases l with
      | nil => rfl
      | cons x r => obtain ⟨_, _, h1, _⟩ := h.cells (by simp); cases h1
    subst hl0
    refine (Tryz.slices_Clone_string_nil 0 c w).mono ?_
    rintro e w' ⟨rfl, rfl⟩
    exact ⟨none, 0, rfl, World.ownsRow_nil _ _ _ _, Below.refl _ _⟩
  · refine (Any.slices_Clone_string_zero Tryz.laysNm216 a c w).mono ?_
    rintro e w' ⟨v', rfl, ho, _, hb⟩
    have ho2 : RowT w' w.heap.size v' [] := ho
    rcases ho2.2 with ⟨h1, h2⟩ | ⟨g', cap', cur', h1, _⟩
    · exact ⟨none, 0, by rw [h1]; rfl, by rw [h1] at ho2; exact ho2, hb⟩
    · exact ⟨_, _, by rw [h1]; rfl, by rw [h1] at ho2; exact ho2, hb⟩
  · refine (Tryz.slices_Clone_string b off l.length c l w (Nat.le_refl _) (by omega) (fun j hj => ?_)).mono ?_
    · obtain ⟨b', o', e1, hc⟩ := h.at_ (List.getElem?_eq_getElem hj)
      cases e1
      have := hc 0 _ rfl
      rw [List.getD_eq_getElem?_getD, List.getElem?_eq_getElem hj]
      simpa using this
    · rintro e w' ⟨v', rfl, ho, _, hb⟩
      have ho2 : RowT w' w.heap.size v' (recsOf l) := by
        unfold RowT
        rw [flat_str, hrl, recsOf_tx]
        rw [List.take_of_length_le (Nat.le_refl _)] at ho
        exact ho
      rcases ho2.2 with ⟨h1, h2⟩ | ⟨g', cap', cur', h1, _⟩
      · rw [hrl] at h2
        exact ⟨none, 0, by rw [h1, h2], by rw [h2, ← h1]; exact ho2, hb⟩
      · rw [hrl] at h1
        exact ⟨_, _, by rw [h1], by rw [← h1]; exact ho2, hb⟩
/-- The first loop: the records are summed up. -/
def RC1 (w : World) (jb : Nat) (l : List ByteArray) (vi : Value) (wr : World) : Prop :=
  ∃ i : Nat, vi = .int .i64 (i : Int) ∧ i ≤ l.length ∧ Below w.heap.size w wr ∧ Blk wr w.heap.size [.pointer (some ⟨jb, 0, none⟩)] 29 ∧ Blk wr (w.heap.size + 1) [.int .i64 (roomL (recsOf (l.take i)) : Int)] 3 ∧ ∀ x ∈ l.take i, x.size ≤ 2000
/-- The second loop: the frames are written into the builder. -/
def RC2 (w : World) (jb len bt : Nat) (l : List ByteArray) (vi : Value) (wr : World) : Prop :=
  ∃ i : Nat, vi = .int .i64 (i : Int) ∧ i ≤ l.length ∧ Bld w w.heap.size bt (framesL (recsOf (l.take i))) wr ∧ Blk wr w.heap.size [.pointer (some ⟨jb, 0, none⟩)] 29 ∧ Blk wr (w.heap.size + 1) [.int .i64 (len : Int)] 3 ∧ bt < wr.heap.size
set_option maxRecDepth 100000 in
set_option maxHeartbeats 400000 in
theorem compact_any {w0 w : World} {jb b bs bm n c : Nat} {pv rv : Value} {s : JS} {A : Option Addr} (l : List ByteArray) (h : JAt w jb b bs bm pv rv n s) (hon : s.broken = false → l ≠ [] → s.d.on = true) (hpend : s.d.pend.length ≤ 900000)
    (hS : SL w 1 encS A l) (hrs : ∀ w', Keep (JFp jb b bs bm pv rv) w w' → SL w' 1 encS A l) (hl : l.length ≤ 1000000000) (hE : En w0 w b bs bm pv) :
    Calls Tryz.prog 15 #[.pointer (some ⟨jb, 0, none⟩), .slice A l.length c] w (JPost w jb b bs bm n pv rv (s.compact n (recsOf l))) := by
  obtain ⟨R, eR⟩ : ∃ R, R = JPost w jb b bs bm n pv rv (s.compact n (recsOf l)) := ⟨_, rfl⟩
  rw [← eR]
  have FS : Hid (∀ c w', s.compact n (recsOf l) = (s, c) → Below w.heap.size w w' → R (.returned (.int .i64 c)) w') := fun c w' he hb => by rw [eR, he]; exact JPost.same h hb c
  have ER := Lib.hid eR
  have H := Lib.hid h
  have HBV : Hid (Below w.heap.size w (w.alloc (.cells #[.pointer (some ⟨jb, 0, none⟩)] 29))) := (Below.refl _ w).alloc (Nat.le_refl _) _
  have c7 := cell_grw (h.blk.cellD 7 _ rfl) HBV.out
  clear eR
  cases hbr : s.broken with
  | true =>
    have F := Lib.hid (FS.out 13 _ (by unfold JS.compact; rw [if_pos hbr]) HBV.out)
    rw [hbr] at c7
    clear FS h hbr hS hrs
    go_enter Tryz.func15, Tryz.ntmps15
    go_wp2_with fail
    first
      | exact F.out
      | (go_ret; exact F.out)
  | false =>
    have HON := Lib.hid (hon hbr)
    rw [hbr] at c7
    have HE := Lib.hid hE
    have HS := Lib.hid hS
    have HRS := Lib.hid hrs
    have HBR := Lib.hid hbr
    have HPD := Lib.hid hpend
    clear h hon hS hrs hE hbr hpend
    go_enter Tryz.func15, Tryz.ntmps15
    go_wp2_with fail
    obtain ⟨V, eV⟩ : ∃ V, V = (w.alloc (.cells #[.pointer (some ⟨jb, 0, none⟩)] 29)).alloc (.cells #[.int .i64 0] 3) := ⟨_, rfl⟩
    have HST : Hid (RC1 w jb l (.int .i64 0) V) := by
      refine ⟨0, rfl, Nat.zero_le _, ?_, ?_, ?_, by simp⟩
      · rw [eV]; exact HBV.out.alloc HBV.out.size _
      · rw [eV]; exact (Blk.new w _ _).alloc _
      · rw [eV]; exact Blk.made (by simp) rfl
    rw [← eV]
    clear eV c7
    go_loopw [20] (fun i wr => RC1 w jb l i wr) (fun i _ => l.length - (intOf i).toNat)
    case atStart => exact HST.out
    case round =>
      clear HST
      obtain ⟨k, rfl, hk, hbl, hbj, hbn, hall⟩ := hrel
      by_cases hlt : k < l.length
      · obtain ⟨x, hx⟩ : ∃ x, l[k]? = some x := ⟨_, List.getElem?_eq_getElem hlt⟩
        obtain ⟨b1, o1, e1, hc1⟩ := (HS.out.below hbl (Nat.le_refl _)).at_ hx
        have d1 : wr.cell? ⟨b1, o1 + k, none⟩ = some (.string x) := by have := hc1 0 _ rfl; simpa using this
        subst e1
        have hki : (k : Int) < (l.length : Int) := by omega
        have k0 : (0 : Int) ≤ (k : Int) := by omega
        have HX := Lib.hid hx
        have HB := Lib.hid hbl
        have HBJ := Lib.hid hbj
        have HBN := Lib.hid hbn
        have HALL := Lib.hid hall
        clear hc1 hx hbl hbj hbn hall
        by_cases h2000 : 2000 < x.size
        · have t1 : decide ((2000 : Int) < (x.size : Int)) = true := decide_eq_true (by omega)
          have F := Lib.hid (FS.out 3 _ (by
            unfold JS.compact
            rw [if_neg (by rw [HBR.out]; decide), if_pos]
            exact ⟨x.data.toList, by unfold recsOf; exact List.mem_map.2 ⟨x, List.mem_of_getElem? HX.out, rfl⟩, by simpa using h2000⟩) HB.out)
          clear FS
          go_wp2_with fail
          first
            | exact F.out
            | (go_ret; exact F.out)
        · have t1 : decide ((2000 : Int) < (x.size : Int)) = false := decide_eq_false (by omega)
          go_wp2_with fail
          obtain ⟨sm, esm⟩ : ∃ sm, sm = roomL (recsOf (l.take k)) := ⟨_, rfl⟩
          have hsm : sm ≤ 2004 * k := by
            have h1 := roomL_few (m := 2000) (recsOf (l.take k)) (by
              unfold recsOf
              rintro b hb
              obtain ⟨y, hy, rfl⟩ := List.mem_map.1 hb
              simpa using HALL.out y hy)
            rw [recsOf_len, List.length_take, Nat.min_eq_left (by omega)] at h1
            omega
          have HBN2 : Hid (Blk wr (w.heap.size + 1) [.int .i64 (sm : Int)] 3) := by rw [esm]; exact HBN.out
          have FR := Lib.hid (fun (w' : World) (hb : Below w.heap.size w w') => frame_any ByteArray.empty w' (by decide) (HE.out.grow hb).h)
          obtain ⟨z, ez⟩ : ∃ z, z = tx (frameL (ByteArray.empty).data.toList) := ⟨_, rfl⟩
          have hz4 : (z.size : Int) = 4 := by rw [ez]; kernel_rfl
          rw [← ez] at FR
          obtain ⟨q, eq⟩ : ∃ q, q = 4 + x.size := ⟨_, rfl⟩
          obtain ⟨s2, es2⟩ : ∃ s2, s2 = sm + q := ⟨_, rfl⟩
          have wq : IntKind.i64.wrap ((4 : Int) + (x.size : Int)) = (q : Int) := by rw [IntWalk.i64_left, IntWalk.wrap64_in _ ⟨by omega, by omega⟩]; omega
          have ws : IntKind.i64.wrap ((sm : Int) + (q : Int)) = (s2 : Int) := by rw [IntWalk.i64_left, IntWalk.wrap64_in _ ⟨by omega, by omega⟩]; omega
          have ES2 : Hid (s2 = roomL (recsOf (l.take (k + 1)))) := by show _ = _; rw [roomL_take HX.out, es2, eq, esm]
          have c0 := HBN2.out.cellD 0 _ rfl
          clear ez eq es2 esm d1
          refine Free.wp_region_free 7 [(1, .det (.string z))] (fun y => Below wr.heap.size wr y ∧ y.cell? ⟨w.heap.size + 1, 0, none⟩ = some (.int .i64 (sm : Int))) (by kernel_rfl) (by kernel_rfl) (Free.mono_det (fun j mk r hf => by simp only [Free.find] at hf; repeat' (first | cases hf | split at hf))) ⟨(Below.refl _ _).drew, c0⟩
            (fun _ _ h g => ⟨h.1.trans (Below.mono g h.1.size), cell_grw h.2 g⟩) ?_
          simp only [List.take_succ_cons, List.take_zero]
          iterate 1 (apply Free.chain_still (by first | exact Free.wanted_of rfl rfl rfl | rfl) rfl; (intro w' hB hA; obtain ⟨qB, q0⟩ := hB; clear hA  qB; go_light; go_simp <;> rfl); (try simp only [Act.put, List.setIfInBounds_toArray, List.set_cons_succ, List.set_cons_zero]))
          apply Free.chain_det (by first | exact Free.wanted_of rfl rfl rfl | rfl) rfl
          · intro w' hB hA
            refine Free.opRun_call (f := 42) (args := #[.string ByteArray.empty]) (by clear hB hA; go_simp <;> rfl) ?_
            refine (FR.out w' (HB.out.trans (hB.1.mono HB.out.size))).mono ?_
            rintro e w3 ⟨rfl, hb3⟩
            exact ⟨_, rfl, hb3, rfl⟩
          simp only [Act.put, List.setIfInBounds_toArray, List.set_cons_succ, List.set_cons_zero]
          iterate 5 (apply Free.chain_still (by first | exact Free.wanted_of rfl rfl rfl | rfl) rfl; (intro w' hB hA; obtain ⟨qB, q0⟩ := hB; clear hA  qB; go_light; go_simp <;> rfl); (try simp only [Act.put, List.setIfInBounds_toArray, List.set_cons_succ, List.set_cons_zero]))
          apply Free.chain_nil
          intro wz hBz _ _
          simp only [List.drop_succ_cons, List.drop_zero]
          have hbz := hBz.1
          have hnz := HBN2.out.below hbz HBN2.out.lt
          have f0 := hnz.frozen 0
          have c0 := hnz.cellD 0 _ rfl
          have KEY : Hid (RC1 w jb l (.int .i64 ((k : Int) + 1)) (wz.setCell ⟨w.heap.size + 1, 0, none⟩ (.int .i64 (s2 : Int)))) := by
            refine ⟨k + 1, by go_num, by omega, ?_, ?_, ?_, ?_⟩
            · have hb0 : Below w.heap.size w wz := HB.out.trans (hbz.mono HB.out.size)
              exact hb0.setCell (p := ⟨w.heap.size + 1, 0, none⟩) (by show w.heap.size ≤ w.heap.size + 1; omega) _
            · exact (HBJ.out.below hbz HBJ.out.lt).set_ne (a := ⟨w.heap.size + 1, 0, none⟩) (by show w.heap.size + 1 ≠ w.heap.size; omega) _
            · rw [← ES2.out]
              exact hnz.set 0 _
            · intro y hy
              rw [List.take_add_one, HX.out] at hy
              rcases List.mem_append.1 hy with hy | hy
              · exact HALL.out y hy
              · have : y = x := by simpa using hy
                rw [this]; omega
          clear hBz hbz hnz
          go_wp2_with fail
          go_roundw
          case rel =>
            go_light
            have key := KEY.out
            first | exact key | ((repeat apply Exists.intro); exact ⟨key, rfl⟩)
          case measure => simp [intOf]; omega
      · obtain rfl : k = l.length := by omega
        go_wp2_with fail
        rw [List.take_length] at hbn hall
        have HALL : Hid (∀ b ∈ recsOf l, b.length ≤ 2000) := by
          unfold recsOf
          rintro b hb
          obtain ⟨y, hy, rfl⟩ := List.mem_map.1 hb
          simpa using hall y hy
        have EA : Hid (s.compact n (recsOf l) = if 32 * ((n - 2) / 2) < roomL (recsOf l) ∨ s.v.1 = 999999999 then (s, 19) else
            if (changeD n s.a s.v.1 (1 - s.v.2.1) 0 (framesL (recsOf l)) s.d).2 = 0 then
              ({ d := (changeD n s.a s.v.1 (1 - s.v.2.1) 0 (framesL (recsOf l)) s.d).1, v := (s.v.1 + 1, 1 - s.v.2.1, (framesL (recsOf l)).length), a := 1 - s.a, recs := recsOf l, broken := false }, 0)
            else ({ s with d := (changeD n s.a s.v.1 (1 - s.v.2.1) 0 (framesL (recsOf l)) s.d).1, broken := true }, (changeD n s.a s.v.1 (1 - s.v.2.1) 0 (framesL (recsOf l)) s.d).2)) := by
          show _ = _
          unfold JS.compact
          rw [if_neg (by rw [HBR.out]; decide), if_neg (by rintro ⟨b, hb, h⟩; have := HALL.out b hb; omega)]
        have FLN : Hid ((framesL (recsOf l)).length = roomL (recsOf l)) := framesL_len _ HALL.out
        have hlb : roomL (recsOf l) ≤ 2004 * l.length := by
          have h1 := roomL_few (m := 2000) (recsOf l) HALL.out
          rw [recsOf_len] at h1; exact h1
        obtain ⟨len, elen⟩ : ∃ len, len = roomL (recsOf l) := ⟨_, rfl⟩
        rw [← elen] at hbn hlb FLN EA
        have hn2 := H.out.disk.ok.n2
        have hn4 := H.out.n4
        have hhf := H.out.hf
        have hj4 := H.out.blk
        have HJ := Lib.hid hj4
        obtain ⟨room, er⟩ : ∃ room, room = 32 * ((n - 2) / 2) := ⟨_, rfl⟩
        have HRM := Lib.hid (fun (w' : World) (hb : Below w.heap.size w w') => room_any (w := w') (jb := jb) ((n - 2) / 2) ((hj4.below hb hj4.lt).cellD 4 _ rfl) (by omega))
        have hroomb : room ≤ 1000000 := by omega
        rw [← er] at EA HRM
        have HRM2 : Hid (∀ w', Below w.heap.size w w' → Calls Tryz.prog 43 #[.pointer (some ⟨jb, 0, none⟩)] w' fun e w2 => e = .returned (.int .i64 (room : Int)) ∧ Below w'.heap.size w' w2) := fun w' hb => (HRM.out w' hb).mono fun e w2 h => ⟨h.1, by rw [h.2]; exact Below.refl _ _⟩
        obtain ⟨sd, ⟨num, hf, ln⟩, sa, srec, sbr⟩ := s
        dsimp only at EA HON HPD hhf
        have HNM : Hid (num ≤ 999999999) := H.out.num
        have hnum : num ≤ 999999999 := HNM.out
        have HB := Lib.hid hbl
        have HBJ := Lib.hid hbj
        have HBN := Lib.hid hbn
        have c0 := hbj.cellD 0 _ rfl
        have cn := hbn.cellD 0 _ rfl
        have j0 := (HJ.out.below hbl HJ.out.lt).cellD 0 _ rfl
        dsimp only at j0
        have ERM := Lib.hid er
        have ELN := Lib.hid elen
        have HHF := Lib.hid hhf
        clear hbl hbj hbn hall hj4 HRM er elen hhf
        go_wp2_with fail
        by_cases hA1 : room < len
        · have tA : decide ((room : Int) < (len : Int)) = true := decide_eq_true (by omega)
          have F := Lib.hid (fun w' hb => FS.out 19 w' (by rw [EA.out, if_pos (.inl hA1)]) hb)
          clear FS EA
          refine Free.wp_region_free 12 [(2, .det (.int .i64 (room : Int)))] (fun y => Below wr.heap.size wr y ∧ y.cell? ⟨w.heap.size, 0, none⟩ = some (.pointer (some ⟨jb, 0, none⟩)) ∧ y.cell? ⟨w.heap.size + 1, 0, none⟩ = some (.int .i64 (len : Int)) ∧ y.cell? ⟨jb, 0, none⟩ = some (.int .i64 (num : Int))) (by kernel_rfl) (by kernel_rfl) (Free.mono_det (fun j mk r hf => by simp only [Free.find] at hf; repeat' (first | cases hf | split at hf))) ⟨(Below.refl _ _).drew, c0, cn, j0⟩
            (fun _ _ h g => ⟨h.1.trans (Below.mono g h.1.size), cell_grw h.2.1 g, cell_grw h.2.2.1 g, cell_grw h.2.2.2 g⟩) ?_
          simp only [List.take_succ_cons, List.take_zero]
          iterate 2 (apply Free.chain_still (by first | exact Free.wanted_of rfl rfl rfl | rfl) rfl; (intro w' hB hA; obtain ⟨qB, q0, q1, q2⟩ := hB; clear hA  qB; go_light; go_simp <;> rfl); (try simp only [Act.put, List.setIfInBounds_toArray, List.set_cons_succ, List.set_cons_zero]))
          apply Free.chain_det (by first | exact Free.wanted_of rfl rfl rfl | rfl) rfl
          · intro w' hB hA
            refine Free.opRun_call (f := 43) (args := #[.pointer (some ⟨jb, 0, none⟩)]) (by clear hB hA; go_simp <;> rfl) ?_
            refine (HRM2.out w' (HB.out.trans (hB.1.mono HB.out.size))).mono ?_
            rintro e w3 ⟨rfl, hb3⟩
            exact ⟨_, rfl, hb3, rfl⟩
          simp only [Act.put, List.setIfInBounds_toArray, List.set_cons_succ, List.set_cons_zero]
          iterate 2 (apply Free.chain_still (by first | exact Free.wanted_of rfl rfl rfl | rfl) rfl; (intro w' hB hA; obtain ⟨qB, q0, q1, q2⟩ := hB; clear hA  qB; go_light; go_simp <;> rfl); (try simp only [Act.put, List.setIfInBounds_toArray, List.set_cons_succ, List.set_cons_zero]))
          iterate 6 (apply Free.chain_skip (by exact unwanted2 rfl rfl rfl rfl); simp only [Act.put, List.setIfInBounds_toArray, List.set_cons_succ, List.set_cons_zero])
          iterate 1 (apply Free.chain_still (by first | exact Free.wanted_of rfl rfl rfl | rfl) rfl; (intro w' hB hA; obtain ⟨qB, q0, q1, q2⟩ := hB; clear hA  qB; go_light; go_simp <;> rfl); (try simp only [Act.put, List.setIfInBounds_toArray, List.set_cons_succ, List.set_cons_zero]))
          apply Free.chain_nil
          intro w2 hB2 _ _
          simp only [List.drop_succ_cons, List.drop_zero]
          have G := Lib.hid (F.out _ (HB.out.trans (hB2.1.mono HB.out.size)))
          clear hB2 c0 cn j0
          go_wp2_with fail
          first
            | exact G.out
            | (go_ret; exact G.out)
        · have tA : decide ((room : Int) < (len : Int)) = false := decide_eq_false (by omega)
          by_cases hN : num = 999999999
          · have tN : ((num : Int) == 999999999) = true := by simp; omega
            have F := Lib.hid (fun w' hb => FS.out 19 w' (by rw [EA.out, if_pos (.inr hN)]) hb)
            clear FS EA hN
            refine Free.wp_region_free 12 [(2, .det (.int .i64 (room : Int)))] (fun y => Below wr.heap.size wr y ∧ y.cell? ⟨w.heap.size, 0, none⟩ = some (.pointer (some ⟨jb, 0, none⟩)) ∧ y.cell? ⟨w.heap.size + 1, 0, none⟩ = some (.int .i64 (len : Int)) ∧ y.cell? ⟨jb, 0, none⟩ = some (.int .i64 (num : Int))) (by kernel_rfl) (by kernel_rfl) (Free.mono_det (fun j mk r hf => by simp only [Free.find] at hf; repeat' (first | cases hf | split at hf))) ⟨(Below.refl _ _).drew, c0, cn, j0⟩
              (fun _ _ h g => ⟨h.1.trans (Below.mono g h.1.size), cell_grw h.2.1 g, cell_grw h.2.2.1 g, cell_grw h.2.2.2 g⟩) ?_
            simp only [List.take_succ_cons, List.take_zero]
            iterate 2 (apply Free.chain_still (by first | exact Free.wanted_of rfl rfl rfl | rfl) rfl; (intro w' hB hA; obtain ⟨qB, q0, q1, q2⟩ := hB; clear hA  qB; go_light; go_simp <;> rfl); (try simp only [Act.put, List.setIfInBounds_toArray, List.set_cons_succ, List.set_cons_zero]))
            apply Free.chain_det (by first | exact Free.wanted_of rfl rfl rfl | rfl) rfl
            · intro w' hB hA
              refine Free.opRun_call (f := 43) (args := #[.pointer (some ⟨jb, 0, none⟩)]) (by clear hB hA; go_simp <;> rfl) ?_
              refine (HRM2.out w' (HB.out.trans (hB.1.mono HB.out.size))).mono ?_
              rintro e w3 ⟨rfl, hb3⟩
              exact ⟨_, rfl, hb3, rfl⟩
            simp only [Act.put, List.setIfInBounds_toArray, List.set_cons_succ, List.set_cons_zero]
            iterate 2 (apply Free.chain_still (by first | exact Free.wanted_of rfl rfl rfl | rfl) rfl; (intro w' hB hA; obtain ⟨qB, q0, q1, q2⟩ := hB; clear hA  qB; go_light; go_simp <;> rfl); (try simp only [Act.put, List.setIfInBounds_toArray, List.set_cons_succ, List.set_cons_zero]))
            iterate 7 (apply Free.chain_still (by first | exact Free.wanted_of rfl rfl rfl | rfl) rfl; (intro w' hB hA; obtain ⟨qB, q0, q1, q2⟩ := hB; clear hA  qB; go_light; go_simp <;> rfl); (try simp only [Act.put, List.setIfInBounds_toArray, List.set_cons_succ, List.set_cons_zero]))
            apply Free.chain_nil
            intro w2 hB2 _ _
            simp only [List.drop_succ_cons, List.drop_zero]
            have G := Lib.hid (F.out _ (HB.out.trans (hB2.1.mono HB.out.size)))
            clear hB2 c0 cn j0
            go_wp2_with fail
            first
              | exact G.out
              | (go_ret; exact G.out)
          · have tN : ((num : Int) == 999999999) = false := by simp; omega
            refine Free.wp_region_free 12 [(2, .det (.int .i64 (room : Int)))] (fun y => Below wr.heap.size wr y ∧ y.cell? ⟨w.heap.size, 0, none⟩ = some (.pointer (some ⟨jb, 0, none⟩)) ∧ y.cell? ⟨w.heap.size + 1, 0, none⟩ = some (.int .i64 (len : Int)) ∧ y.cell? ⟨jb, 0, none⟩ = some (.int .i64 (num : Int))) (by kernel_rfl) (by kernel_rfl) (Free.mono_det (fun j mk r hf => by simp only [Free.find] at hf; repeat' (first | cases hf | split at hf))) ⟨(Below.refl _ _).drew, c0, cn, j0⟩
              (fun _ _ h g => ⟨h.1.trans (Below.mono g h.1.size), cell_grw h.2.1 g, cell_grw h.2.2.1 g, cell_grw h.2.2.2 g⟩) ?_
            simp only [List.take_succ_cons, List.take_zero]
            iterate 2 (apply Free.chain_still (by first | exact Free.wanted_of rfl rfl rfl | rfl) rfl; (intro w' hB hA; obtain ⟨qB, q0, q1, q2⟩ := hB; clear hA  qB; go_light; go_simp <;> rfl); (try simp only [Act.put, List.setIfInBounds_toArray, List.set_cons_succ, List.set_cons_zero]))
            apply Free.chain_det (by first | exact Free.wanted_of rfl rfl rfl | rfl) rfl
            · intro w' hB hA
              refine Free.opRun_call (f := 43) (args := #[.pointer (some ⟨jb, 0, none⟩)]) (by clear hB hA; go_simp <;> rfl) ?_
              refine (HRM2.out w' (HB.out.trans (hB.1.mono HB.out.size))).mono ?_
              rintro e w3 ⟨rfl, hb3⟩
              exact ⟨_, rfl, hb3, rfl⟩
            simp only [Act.put, List.setIfInBounds_toArray, List.set_cons_succ, List.set_cons_zero]
            iterate 2 (apply Free.chain_still (by first | exact Free.wanted_of rfl rfl rfl | rfl) rfl; (intro w' hB hA; obtain ⟨qB, q0, q1, q2⟩ := hB; clear hA  qB; go_light; go_simp <;> rfl); (try simp only [Act.put, List.setIfInBounds_toArray, List.set_cons_succ, List.set_cons_zero]))
            iterate 7 (apply Free.chain_still (by first | exact Free.wanted_of rfl rfl rfl | rfl) rfl; (intro w' hB hA; obtain ⟨qB, q0, q1, q2⟩ := hB; clear hA  qB; go_light; go_simp <;> rfl); (try simp only [Act.put, List.setIfInBounds_toArray, List.set_cons_succ, List.set_cons_zero]))
            apply Free.chain_nil
            intro w2 hB2 _ _
            simp only [List.drop_succ_cons, List.drop_zero]
            have hb2 := HB.out.trans (hB2.1.mono HB.out.size)
            have HJ2 := Lib.hid (HBJ.out.below hB2.1 HBJ.out.lt)
            have HN2 := Lib.hid (HBN.out.below hB2.1 HBN.out.lt)
            have HB2 := Lib.hid hb2
            clear hB2 hb2 c0 cn j0 HBJ HBN HRM2 FS
            go_wp2_with fail
            obtain ⟨bt, ebt⟩ : ∃ bt, bt = w2.heap.size := ⟨_, rfl⟩
            obtain ⟨V2, eV2⟩ : ∃ V2, V2 = w2.alloc (.cells #[.pointer none, .slice none 0 0] 81) := ⟨_, rfl⟩
            have HST : Hid (RC2 w jb len bt l (.int .i64 0) V2) := by
              refine ⟨0, rfl, Nat.zero_le _, ?_, ?_, ?_, ?_⟩
              · rw [eV2, ebt]
                exact Bld.new w w2 w.heap.size HB2.out (Nat.le_refl _)
              · rw [eV2]; exact HJ2.out.alloc _
              · rw [eV2]; exact HN2.out.alloc _
              · rw [eV2, ebt]; simp
            have hbt0 : w.heap.size + 1 < bt := by rw [ebt]; exact HN2.out.lt
            rw [← eV2, ← ebt]
            clear eV2 ebt
            go_loopw [49] (fun i wr => RC2 w jb len bt l i wr) (fun i _ => l.length - (intOf i).toNat)
            case atStart => exact HST.out
            case round =>
              clear HST
              obtain ⟨k, rfl, hk, hbb, hbj, hbn, hbtl⟩ := hrel
              by_cases hlt : k < l.length
              · obtain ⟨x, hx⟩ : ∃ x, l[k]? = some x := ⟨_, List.getElem?_eq_getElem hlt⟩
                obtain ⟨b1, o1, e1, hc1⟩ := (HS.out.below hbb.bl (Nat.le_refl _)).at_ hx
                have d1 : wr.cell? ⟨b1, o1 + k, none⟩ = some (.string x) := by have := hc1 0 _ rfl; simpa using this
                subst e1
                have hki : (k : Int) < (l.length : Int) := by omega
                have k0 : (0 : Int) ≤ (k : Int) := by omega
                have hx2 : x.size ≤ 2000 := by
                  have := HALL.out x.data.toList (by unfold recsOf; exact List.mem_map.2 ⟨x, List.mem_of_getElem? hx, rfl⟩)
                  simpa using this
                have HX := Lib.hid hx
                have HBB := Lib.hid hbb
                have HBJ := Lib.hid hbj
                have HBN := Lib.hid hbn
                have FR := Lib.hid (frame_any x wr (by omega) (HE.out.grow hbb.bl).h)
                obtain ⟨fx, efx⟩ : ∃ fx, fx = tx (frameL x.data.toList) := ⟨_, rfl⟩
                rw [← efx] at FR
                have EFX := Lib.hid efx
                have HTL := Lib.hid hbtl
                have hfl := frameL_len (b := x.data.toList) (by simpa using hx2)
                have FSZ : Hid (fx.size ≤ 2004) := by
                  show _ ≤ _
                  rw [efx, tx_size, hfl]
                  have : x.data.toList.length = x.size := by simp
                  omega
                have hpl : Hid ((framesL (recsOf (l.take k))).length ≤ 2004 * l.length) := by
                  have hal : ∀ b ∈ recsOf (l.take k), b.length ≤ 2000 := by
                    unfold recsOf
                    rintro y hy
                    obtain ⟨z, hz, rfl⟩ := List.mem_map.1 hy
                    exact HALL.out _ (by unfold recsOf; exact List.mem_map.2 ⟨z, List.mem_of_mem_take hz, rfl⟩)
                  show _ ≤ _
                  rw [framesL_len _ hal]
                  have h1 := roomL_few (m := 2000) (recsOf (l.take k)) hal
                  rw [recsOf_len, List.length_take, Nat.min_eq_left (by omega)] at h1
                  omega
                clear hc1 hx hbb hbj hbn efx hbtl hfl
                go_wp2_with fail
                refine FR.out.mono ?_
                rintro e w3 ⟨rfl, hb3⟩
                have HB3 := Lib.hid hb3
                have WS := Lib.hid ((HBB.out.grow hb3).str_k fx (by have := FSZ.out; have := hpl.out; omega))
                clear hb3 FR
                go_wp2_with fail
                refine WS.out.mono ?_
                rintro e w4 ⟨rfl, hb4, ho4, hl4⟩
                have KEY : Hid (RC2 w jb len bt l (.int .i64 ((k : Int) + 1)) w4) := by
                  have k1 := kept_blk ho4 (HBJ.out.below HB3.out HBJ.out.lt) (by decide) (by omega)
                  have k2 := kept_blk ho4 (HBN.out.below HB3.out HBN.out.lt) (by decide) (by omega)
                  refine ⟨k + 1, by go_num, by omega, ?_, k1, k2, ?_⟩
                  · rw [framesL_take HX.out]
                    rw [EFX.out, tx_data] at hb4
                    exact hb4
                  · rcases hb4.1 with ⟨_, v, k2, _⟩ | ⟨_, v, k2, _⟩
                    · exact (Array.getElem?_eq_some_iff.1 k2).1
                    · exact (Array.getElem?_eq_some_iff.1 k2).1
                clear WS hb4 ho4 hl4 HB3
                go_wp2_with fail
                go_roundw
                case rel =>
                  go_light
                  have key := KEY.out
                  first | exact key | ((repeat apply Exists.intro); exact ⟨key, rfl⟩)
                case measure => simp [intOf]; omega
              · obtain rfl : k = l.length := by omega
                rw [List.take_length] at hbb
                obtain ⟨txt, etx⟩ : ∃ txt, txt = framesL (recsOf l) := ⟨_, rfl⟩
                rw [← etx] at hbb EA FLN
                have hbr : sbr = false := HBR.out
                subst hbr
                have hd := H.out.disk
                have hj := HJ.out
                dsimp only at hj hd
                have hlt' : len ≤ 32 * ((n - 2) / 2) := by rw [← ERM.out]; omega
                have hlen2 : (txt.length : Int) = (len : Int) := by rw [FLN.out]
                have hmf : ∀ (fn : Fn) (first cap : Array Value) (w : World), (Instr.makeFunc fn first cap).run Tryz.prog w = .ok (.func fn first cap) w := fun _ _ _ _ => rfl
                have hat : sa ≤ 1 := H.out.at_
                have hhf1 : hf ≤ 1 := HHF.out
                have TC := Lib.hid (try_ce (g := 50) (bj := w.heap.size) (bt := bt) (w := wr) (cb := #[.pointer (some ⟨w.heap.size, 0, none⟩), .pointer (some ⟨bt, 0, none⟩), .pointer (some ⟨w.heap.size + 1, 0, none⟩)]) hd hj (enters_of Tryz.func50 (by kernel_rfl) rfl)
                  hbb.bl.size hbtl hbj (by omega)
                  (fun W hb => comp1_any (text := txt) (bl := w.heap.size + 1) hd (fun ht => HON.out (fun e => ht (by rw [etx, e]; rfl))) hn4 hj (hbb.grow hb) (hbj.below hb hbj.lt) (by rw [FLN.out]; exact hbn.below hb hbn.lt) (by omega) (by omega) hat hhf1 (by rw [FLN.out]; exact hlt') (by show num < _; omega) HPD.out HE.out))
                have EA2 := EA.out
                rw [if_neg (fun h => h.elim (fun h => hA1 h) hN)] at EA2
                obtain ⟨r, er⟩ : ∃ r, r = changeD n sa num (1 - hf) 0 txt sd := ⟨_, rfl⟩
                rw [← er] at EA2
                have EA3 := Lib.hid EA2
                have TC : Hid (Calls Tryz.prog 32 #[.pointer (some ⟨jb, 0, none⟩), .func (.func 50) #[] #[.pointer (some ⟨w.heap.size, 0, none⟩), .pointer (some ⟨bt, 0, none⟩), .pointer (some ⟨w.heap.size + 1, 0, none⟩)]] wr (TePost w w.heap.size jb b bs bm n sa ((n - 2) / 2) (1 - hf) txt.length pv rv (num, hf, ln) r)) := by rw [er]; exact TC.out
                have c0 := hbj.cellD 0 _ rfl
                clear EA EA2 er hd hj hbb hbn hbj hbtl etx hhf1 hat
                go_wp2_with fail
                refine TC.out.mono ?_
                rintro e w3 ⟨⟨rfl, ⟨bm', pv', u1, u2, u3, u4⟩, hc⟩, kb⟩
                have K3 := Lib.hid u2
                have U : Hid (DiskAt w3 b bs bm' pv' r.1 n ∧ (bm' = bm ∨ w.heap.size ≤ bm') ∧ (∀ k, pv'.ownBlock = some k → pv.ownBlock = some k ∨ w.heap.size ≤ k)) := ⟨u1, u3, u4⟩
                have HRW : Hid (RowT w3 0 rv srec) := H.out.row.keep fun k hk => K3.out.block k (World.ownsRow.lt H.out.row k hk).2 (fun h => h.elim (fun e => row_ne H.out.row H.out.blk (by decide) (e ▸ hk)) (row_notFp H.out.disk H.out.row (by decide) (by decide) (by decide) hk))
                have KJ : Hid (Keep (JFp jb b bs bm pv rv) w w3) := K3.out.mono (fun k _ h => h.elim .inl (fun h => .inr (.inr h)))
                clear u1 u2 u3 u4 TC c0
                obtain ⟨rd, c2⟩ := r
                dsimp only at hc
                rcases hc with ⟨z, hj3⟩ | ⟨z, hj3⟩
                · subst z
                  have HJ3 := Lib.hid hj3
                  have FINW : Hid (∀ (wz : World) (A' : Option Addr) (c' : Nat), Below w3.drew.heap.size w3.drew wz → RowT wz w3.drew.heap.size (.slice A' l.length c') (recsOf l) → R (.returned (.int .i64 0)) (wz.setCell ⟨jb, 6, none⟩ (.slice A' l.length c'))) := fun wz A' c' hb hr => by
                    have hk : Keep (fun _ => False) w3 wz := Keep.of_below ⟨hb.os, hb.tape, hb.output, hb.size, hb.block⟩
                    have hfr : ∀ k, (Value.slice A' l.length c').ownBlock = some k → w3.heap.size ≤ k := fun k e => (World.ownsRow.lt hr k e).1
                    have hr := row_base hr (Nat.zero_le _)
                    have hjz : Blk wz jb _ 63 := HJ3.out.keepB (hk.block jb HJ3.out.lt (fun h => h))
                    have hdz := U.out.1.keep hk (fun k hf' e => e)
                    have ks : Keep (fun k => k = jb) wz (wz.setCell ⟨jb, 6, none⟩ (.slice A' l.length c')) := (Keep.refl (fun k => k = jb) wz).setCell (p := ⟨jb, 6, none⟩) (fun _ => rfl) _
                    have hs3 := K3.out.size
                    rw [ER.out, EA3.out, if_pos rfl]
                    refine ⟨rfl, bm', pv', .slice A' l.length c', ⟨H.out.n4, hdz.keep ks (fun k hf' e => notFp hdz hjz (by decide) (by decide) (by decide) (e ▸ hf')), by have := hjz.set 6 (.slice A' l.length c'); exact this, hr.keep fun k e => ks.block k (World.ownsRow.lt hr k e).2 (fun e' => row_ne hr hjz (by decide) (e' ▸ e)), ?_, ?_, ?_, ?_⟩, ?_, U.out.2.1, U.out.2.2, fun k e => .inr (by have := hfr k e; omega)⟩
                    · show num + 1 ≤ 999999999; omega
                    · show 1 - hf ≤ 1; omega
                    · show txt.length ≤ _
                      rw [FLN.out]; exact hlt'
                    · show 1 - sa ≤ 1; omega
                    · exact (KJ.out.trans hk (fun k _ e => e.elim)).trans ks (fun k _ e => .inl e)
                  have CL := Lib.hid (clone_sl (w := w3.drew) (c := c) (HRS.out w3 KJ.out).drew hl)
                  have KB := Lib.hid kb
                  have q0 := kb.drew.cellD 0 _ rfl
                  clear hj3 kb EA3 HRS HS
                  go_wp2_with fail
                  go_region_with (refine CL.out.mono ?_; rintro e w4 ⟨A4, c4, rfl, hr4, hb4⟩; have hk4 := KB.out.drew.below hb4 KB.out.drew.lt; have q0 := hk4.cellD 0 _ rfl; have hj4 := HJ3.out.drew.below hb4 HJ3.out.drew.lt; have c6 := hj4.cellD 6 _ rfl; have f6 := hj4.frozen 6)
                  all_goals (have G := Lib.hid (FINW.out _ _ _ hb4 hr4); clear hb4 hr4 hj4 hk4 c6 f6 q0; go_wp2_with fail; first | exact G.out | (go_ret; exact G.out))
                · have hcb : (c2 == 0) = false := by simpa using z
                  have FIN : Hid (R (.returned (.int .i64 c2)) w3) := by
                    rw [ER.out, EA3.out, if_neg z]
                    exact ⟨rfl, bm', pv', rv, ⟨H.out.n4, U.out.1, hj3, HRW.out, H.out.num, H.out.hf, H.out.len, H.out.at_⟩, KJ.out, U.out.2.1, U.out.2.2, fun _ h => .inl h⟩
                  clear hj3 EA3
                  go_wp2_with fail
                  first
                    | exact FIN.out
                    | (go_ret; exact FIN.out)
end Go.Proofs.YthfjaaigncjhlaaGreatDoor

namespace Go.Proofs.YthfjaaigncjhlaaGreatDoor
open Go.RowKit Go.Blk Go.Jn Go.Dk Go.Mp Go.Rf Go.Shelf Go.Apl Go.Opn

/-- A row of records reads as a list. -/
theorem row_sl {w : World} {B : Nat} {A : Option Addr} {m c : Nat} {r : List (List UInt8)} (h : RowT w B (.slice A m c) r) : m = r.length ∧ SL w 1 encS A (r.map tx) ∧ (A = none ∨ ∃ b off, A = some ⟨b, off, none⟩) := by
  rcases h.2 with ⟨h1, h2⟩ | ⟨g, cap, cur, h1, _⟩
  · injection h1 with e1 e2 e3
    subst e1 e2 e3
    have hr : r = [] := List.length_eq_zero_iff.1 h2
    subst hr
    exact ⟨rfl, SL.nil, .inl rfl⟩
  · injection h1 with e1 e2 e3
    subst e1 e2 e3
    refine ⟨rfl, ⟨fun _ => ⟨g, 0, rfl, fun i e hi p u hu => ?_⟩⟩, .inr ⟨g, 0, rfl⟩⟩
    cases p with
    | zero =>
      have hu' : Value.string e = u := by simpa [encS] using hu
      subst hu'
      have := h.cells (g := g) rfl i (.string e) (by rw [flat_str, List.getElem?_map, hi]; rfl)
      rw [addr_add] at this
      simpa using this
    | succ p => simp [encS] at hu
/-- Records of a journal: a clone. -/
theorem records_any {w : World} {jb b bs bm n : Nat} {pv rv : Value} {s : JS} (h : JAt w jb b bs bm pv rv n s) (hl : s.recs.length ≤ 1000000) :
    Calls Tryz.prog 11 #[.pointer (some ⟨jb, 0, none⟩)] w fun e w' => ∃ A c, e = .returned (.slice A s.recs.length c) ∧ RowT w' w.heap.size (.slice A s.recs.length c) s.recs ∧ Below w.heap.size w w' := by
  have CL := Lib.hid (clone_row h.row hl)
  have c6 := h.blk.cellD 6 _ rfl
  obtain ⟨Ar, lr, cr, rfl⟩ := row_is h.row
  clear h
  go_enter Tryz.func11, Tryz.ntmps11
  go_wp2_with fail
  refine CL.out.mono ?_
  rintro e w' ⟨A, c, rfl, hr, hb⟩
  have G := Lib.hid (And.intro hr hb)
  clear hr hb CL c6
  go_wp2_with fail
  go_ret
  exact ⟨A, c, rfl, G.out⟩
theorem records_nil (w : World) : Calls Tryz.prog 11 #[.pointer none] w fun e w' => e = .returned (.slice none 0 0) ∧ w = w' := by
  go_enter Tryz.func11, Tryz.ntmps11
  go_wp2_with fail
  go_ret
  exact ⟨rfl, rfl⟩
def RS45 (w : World) (l m : List ByteArray) (i : Value) (wr : World) : Prop := ∃ k : Nat, k ≤ l.length ∧ i = .int .i64 k ∧ Below w.heap.size w wr ∧ l.take k = m.take k
set_option maxRecDepth 100000 in
set_option maxHeartbeats 1000000 in
theorem same45_any (A1 A2 : Option Addr) (c1 c2 : Nat) (l m : List ByteArray) (w : World) (h1 : SL w 1 encS A1 l) (h2 : SL w 1 encS A2 m) (hl : l.length ≤ 4611686018427387903) (_hm : m.length ≤ 4611686018427387903) :
    Calls Tryz.prog 10 #[.slice A1 l.length c1, .slice A2 m.length c2] w fun e w' => e = .returned (.bool (decide (l = m))) ∧ Below w.heap.size w w' := by
  obtain ⟨R, eR⟩ : ∃ R : Ending → World → Prop, R = fun e w' => e = .returned (.bool (decide (l = m))) ∧ Below w.heap.size w w' := ⟨_, rfl⟩
  rw [← eR]
  have FT : Hid (∀ w', l = m → Below w.heap.size w w' → R (.returned (.bool true)) w') := fun w' e hb => by rw [eR]; exact ⟨by rw [decide_eq_true e], hb⟩
  have FF : Hid (∀ w', l ≠ m → Below w.heap.size w w' → R (.returned (.bool false)) w') := fun w' e hb => by rw [eR]; exact ⟨by rw [decide_eq_false e], hb⟩
  clear eR
  have HST : Hid (RS45 w l m (.int .i64 0) w) := ⟨0, Nat.zero_le _, rfl, Below.refl _ _, rfl⟩
  have H1 := Lib.hid h1
  have H2 := Lib.hid h2
  clear h1 h2
  by_cases hlm : l.length = m.length
  · have hn : ((l.length : Int) != (m.length : Int)) = false := by simp; omega
    go_enter Tryz.func10, Tryz.ntmps10
    go_wp2_with fail
    go_loopw [5] (fun i wr => RS45 w l m i wr) (fun i _ => l.length - (intOf i).toNat)
    case atStart => exact HST.out
    case round =>
      clear HST
      obtain ⟨k, hk, rfl, hbl, htk⟩ := hrel
      by_cases hlt : k < l.length
      · obtain ⟨s, hs⟩ : ∃ s, l[k]? = some s := ⟨_, List.getElem?_eq_getElem hlt⟩
        obtain ⟨t, ht⟩ : ∃ t, m[k]? = some t := ⟨_, List.getElem?_eq_getElem (by omega)⟩
        obtain ⟨b1, o1, e1, hc1⟩ := (H1.out.below hbl (Nat.le_refl _)).at_ hs
        obtain ⟨b2, o2, e2, hc2⟩ := (H2.out.below hbl (Nat.le_refl _)).at_ ht
        have d1 : wr.drew.cell? ⟨b1, o1 + k, none⟩ = some (.string s) := by have := hc1 0 _ rfl; simpa using this
        have d2 : wr.drew.cell? ⟨b2, o2 + k, none⟩ = some (.string t) := by have := hc2 0 _ rfl; simpa using this
        subst e1 e2
        have hki : (k : Int) < (l.length : Int) := by omega
        have hki2 : (k : Int) < (m.length : Int) := by omega
        have k0 : (0 : Int) ≤ (k : Int) := by omega
        have HB := Lib.hid hbl
        have HTK := Lib.hid htk
        have HS := Lib.hid hs
        have HT := Lib.hid ht
        clear hc1 hc2 hs ht hbl htk
        go_wp2_with fail
        by_cases hst : s = t
        · have tq : (s.toList == t.toList) = true := by simp [hst]
          have tn : (s.toList != t.toList) = false := by simp [hst]
          refine Free.wp_region_free 9 [] (fun w2 => w2.cell? ⟨b1, o1 + k, none⟩ = some (.string s) ∧ w2.cell? ⟨b2, o2 + k, none⟩ = some (.string t)) (by kernel_rfl) (by kernel_rfl) ?_ ⟨d1, d2⟩ (fun _ _ h g => ⟨cell_grow' h.1 g, cell_grow' h.2 g⟩) ?_
          · intro j mk r hf
            simp only [Free.find] at hf
            cases hf
          simp only [List.take_succ_cons, List.take_zero]
          clear d1 d2
          iterate 9 (apply Free.chain_still (by first | exact Free.wanted_of rfl rfl rfl | rfl) rfl; (intro w' hB hA; obtain ⟨q0, q1⟩ := hB; clear hA ; go_light; go_simp <;> rfl); (try simp only [Act.put, List.setIfInBounds_toArray, List.set_cons_succ, List.set_cons_zero]))
          apply Free.chain_nil
          intro wz _ hg _
          simp only [List.drop_succ_cons, List.drop_zero]
          have hz := grow_drew' hg
          have HZ := Lib.hid (HB.out.trans (hz.mono HB.out.size))
          clear hg hz
          have KEY : Hid (RS45 w l m (.int .i64 ((k : Int) + 1)) wz) := ⟨k + 1, by omega, by go_num, HZ.out, by rw [List.take_add_one, List.take_add_one, HS.out, HT.out, HTK.out, hst]⟩
          go_wp2_with fail
          go_roundw
          case rel =>
            go_light
            have key := KEY.out
            first | exact key | ((repeat apply Exists.intro); exact ⟨key, rfl⟩)
          case measure => simp [intOf]; omega
        · have tq : (s.toList == t.toList) = false := by
            cases hq : (s.toList == t.toList) with
            | false => rfl
            | true =>
              refine absurd ?_ hst
              have h1 : s.toList = t.toList := by simpa using hq
              rw [Go.ByteArray.toList_eq, Go.ByteArray.toList_eq] at h1
              cases s; cases t; simp at h1; subst h1; rfl
          have tn : (s.toList != t.toList) = true := by simp [bne, tq]
          refine Free.wp_region_free 9 [] (fun w2 => w2.cell? ⟨b1, o1 + k, none⟩ = some (.string s) ∧ w2.cell? ⟨b2, o2 + k, none⟩ = some (.string t)) (by kernel_rfl) (by kernel_rfl) ?_ ⟨d1, d2⟩ (fun _ _ h g => ⟨cell_grow' h.1 g, cell_grow' h.2 g⟩) ?_
          · intro j mk r hf
            simp only [Free.find] at hf
            cases hf
          simp only [List.take_succ_cons, List.take_zero]
          clear d1 d2
          iterate 9 (apply Free.chain_still (by first | exact Free.wanted_of rfl rfl rfl | rfl) rfl; (intro w' hB hA; obtain ⟨q0, q1⟩ := hB; clear hA ; go_light; go_simp <;> rfl); (try simp only [Act.put, List.setIfInBounds_toArray, List.set_cons_succ, List.set_cons_zero]))
          apply Free.chain_nil
          intro wz _ hg _
          simp only [List.drop_succ_cons, List.drop_zero]
          have hz := grow_drew' hg
          have HZ := Lib.hid (HB.out.trans (hz.mono HB.out.size))
          clear hg hz
          have F := Lib.hid (FF.out wz (fun e => hst (by have h1 := HS.out; rw [e, HT.out] at h1; exact (Option.some.inj h1).symm)) HZ.out)
          clear FF FT
          go_wp2_with fail
          first
            | exact F.out
            | (go_ret; exact F.out)
      · obtain rfl : k = l.length := by omega
        have F := Lib.hid (FT.out wr (by rw [List.take_length, hlm, List.take_length] at htk; exact htk) hbl)
        clear hbl htk FF FT
        go_wp2_with fail
        first
          | exact F.out
          | (go_ret; exact F.out)
  · have hn : ((l.length : Int) != (m.length : Int)) = true := by simp; omega
    have F := Lib.hid (FF.out w (fun e => hlm (by rw [e])) (Below.refl _ _))
    clear FF FT HST
    go_enter Tryz.func10, Tryz.ntmps10
    go_wp2_with fail
    first
      | exact F.out
      | (go_ret; exact F.out)
end Go.Proofs.YthfjaaigncjhlaaGreatDoor

namespace Go.Proofs.YthfjaaigncjhlaaGreatDoor
open Go.RowKit Go.Blk Go.Jn Go.Dk Go.Mp Go.Rf Go.Shelf Go.Apl Go.Opn Go.ChangeShapes Go.WideShapes Go.Deep Go.OpenShut

theorem cellsStr45 : Tryz.prog.cellsOf 9 = 1 := by kernel_rfl
theorem cellsOp45 : Tryz.prog.cellsOf 40 = 6 := by kernel_rfl
theorem text45_of {H : Type} {enc : TypeId × Value → H} {w : World} {base : Nat} {spare : Nat → Bool} {held : Bool} {fuel : Nat} {cs : List Value} {x : DataW H × List MemPlace} (h : DataW.trod enc Tryz.prog w base spare held fuel 9 cs = some x) :
    ∃ a : ByteArray, a.size ≤ 9223372036854775807 ∧ ∀ (p : Nat) u, (encS a)[p]? = some u → cs[p]? = some u := by
  obtain ⟨n, rfl, _, hs⟩ := DataW.trod_string Tryz.underlying9 h
  unfold maxLen at hs
  refine ⟨n, hs, fun p u hu => ?_⟩
  match p, hu with
  | 0, hu => exact hu
  | p + 1, hu => simp [encS] at hu
instance : Inhabited ByteArray := ⟨⟨#[]⟩⟩
/-- An operation of the laws. -/
structure Op45 where
  kind : Int
  body : ByteArray
  A : Option Addr
  c : Nat
  list : List ByteArray
  after : Int
  writes : Int
  bytes : Int
structure Op45.Ok (w : World) (x : Op45) : Prop where
  k0 : 0 ≤ x.kind
  k1 : x.kind ≤ 255
  body : x.body.size ≤ 9223372036854775807
  len : x.list.length ≤ 9223372036854775807
  sl : SL w 1 encS x.A x.list
  size : ∀ a ∈ x.list, a.size ≤ 9223372036854775807
  a0 : -9223372036854775808 ≤ x.after
  a1 : x.after ≤ 9223372036854775807
  w0 : -9223372036854775808 ≤ x.writes
  w1 : x.writes ≤ 9223372036854775807
  b0 : -9223372036854775808 ≤ x.bytes
  b1 : x.bytes ≤ 9223372036854775807
def encO (x : Op45) : List Value := [.int .u8 x.kind, .string x.body, .slice x.A x.list.length x.c, .int .i64 x.after, .int .i64 x.writes, .int .i64 x.bytes]
instance : Inhabited Op45 := ⟨⟨0, ⟨#[]⟩, none, 0, [], 0, 0, 0⟩⟩
set_option maxRecDepth 100000 in
theorem op45_of {H : Type} {enc : TypeId × Value → H} {w : World} {base : Nat} {spare : Nat → Bool} {held : Bool} {fuel : Nat} {cs : List Value} {x : DataW H × List MemPlace} (hf : DataW.trod enc Tryz.prog w base spare held fuel 40 cs = some x) :
    ∃ a : Op45, a.Ok w ∧ ∀ (p : Nat) u, (encO a)[p]? = some u → cs[p]? = some u := by
  obtain ⟨a0, h0, w0⟩ := leaf_int (f := 3) (p := 0) Tryz.underlying5 (by kernel_rfl) hf
  obtain ⟨a1, h1, w1⟩ := leaf_string (f := 3) (p := 1) Tryz.underlying9 (by kernel_rfl) hf
  obtain ⟨A, c, l, h2, e1, e2, e3, e4⟩ := leaf_list (α := ByteArray) (ec := encS) (K := fun a => a.size ≤ 9223372036854775807) (f := 3) (p := 2) Tryz.underlying30 (by rw [cellsStr45]; decide) (fun f cs x h => text45_of h) (by kernel_rfl) hf
  rw [cellsStr45] at e3
  obtain ⟨a3, h3, w3⟩ := leaf_int (f := 3) (p := 3) Tryz.underlying3 (by kernel_rfl) hf
  obtain ⟨a4, h4, w4⟩ := leaf_int (f := 3) (p := 4) Tryz.underlying3 (by kernel_rfl) hf
  obtain ⟨a5, h5, w5⟩ := leaf_int (f := 3) (p := 5) Tryz.underlying3 (by kernel_rfl) hf
  obtain ⟨b00, b01⟩ := bounds_u8 w0
  obtain ⟨b30, b31⟩ := bounds_i64 w3
  obtain ⟨b40, b41⟩ := bounds_i64 w4
  obtain ⟨b50, b51⟩ := bounds_i64 w5
  unfold maxLen at w1
  refine ⟨⟨a0, a1, A, c, l, a3, a4, a5⟩, ⟨b00, b01, w1, e1, e3, e4, b30, b31, b40, b41, b50, b51⟩, fun p u hu => ?_⟩
  match p, hu with
  | 0, hu => cases hu; exact h0
  | 1, hu => cases hu; exact h1
  | 2, hu => cases hu; exact h2
  | 3, hu => cases hu; exact h3
  | 4, hu => cases hu; exact h4
  | 5, hu => cases hu; exact h5
  | p + 6, hu => simp [encO] at hu
set_option maxRecDepth 100000 in
theorem open_ops {H : Type} {enc : TypeId × Value → H} {w : World} {base : Nat} {spare : Nat → Bool} {held : Bool} {v : Value} {d : DataW H} {ps : List MemPlace} {r : Reach} {b0 : Nat} (hv : Value.okWide Tryz.prog w r b0 22 v) (h : DataW.Trod enc Tryz.prog w base spare held 22 v d ps) :
    ∃ (A : Option Addr) (c : Nat) (l : List Op45), v = .slice A l.length c ∧ l.length ≤ 9223372036854775807 ∧ l.length ≤ c ∧ SL w 6 encO A l ∧ ∀ a ∈ l, a.Ok w := by
  obtain ⟨f, x, hf⟩ := one_of Tryz.underlying22 hv h
  have := open_list (α := Op45) (ec := encO) (K := fun a => a.Ok w) Tryz.underlying22 (by rw [cellsOp45]; decide) (fun f cs x h => op45_of h) hf
  rw [cellsOp45] at this
  exact this
/-- What light says when it says yes. -/
def LightOk (n : Int) (l : List Op45) : Prop := n ≤ 80 ∧ l.length ≤ 30 ∧ ∀ x ∈ l, x.list.length ≤ 40
def RLo (l : List Op45) (vt vi : Value) : Prop := ∃ (t : Int) (k : Nat), vt = .int .i64 t ∧ vi = .int .i64 (k : Int) ∧ k ≤ l.length ∧ ∀ x ∈ l.take k, x.list.length ≤ 40
def RLi (l : List ByteArray) (vt vi : Value) : Prop := ∃ (t : Int) (k : Nat), vt = .int .i64 t ∧ vi = .int .i64 (k : Int) ∧ k ≤ l.length
set_option maxRecDepth 100000 in
set_option maxHeartbeats 400000 in
theorem light_any (n : Int) (A : Option Addr) (c : Nat) (l : List Op45) (w : World) (h : SL w 6 encO A l) (hok : ∀ x ∈ l, x.Ok w) (hl : l.length ≤ 9223372036854775807) :
    Calls Tryz.prog 5 #[.int .i64 n, .slice A l.length c] w fun e w' => ∃ b, e = .returned (.bool b) ∧ (b = true → LightOk n l) ∧ w = w' := by
  obtain ⟨R, eR⟩ : ∃ R : Ending → World → Prop, R = fun e w' => ∃ b, e = .returned (.bool b) ∧ (b = true → LightOk n l) ∧ w = w' := ⟨_, rfl⟩
  rw [← eR]
  have FN : Hid (R (.returned (.bool false)) w) := by rw [eR]; exact ⟨false, rfl, (fun h => by cases h), rfl⟩
  have FY : Hid (LightOk n l → R (.returned (.bool true)) w) := by rw [eR]; exact fun h => ⟨true, rfl, fun _ => h, rfl⟩
  clear eR
  have HS := Lib.hid h
  have HOK := Lib.hid hok
  have HST : Hid (RLo l (.int .i64 0) (.int .i64 0)) := ⟨0, 0, rfl, rfl, Nat.zero_le _, by simp⟩
  clear h hok
  by_cases h80 : 80 < n
  · have d80 : decide (80 < n) = true := decide_eq_true h80
    go_enter Tryz.func5, Tryz.ntmps5
    go_wp2_with fail
    first
      | exact FN.out
      | (go_ret; exact FN.out)
  · have d80 : decide (80 < n) = false := decide_eq_false h80
    by_cases h30 : 30 < l.length
    · have d30 : decide ((30 : Int) < (l.length : Int)) = true := decide_eq_true (by omega)
      go_enter Tryz.func5, Tryz.ntmps5
      go_wp2_with fail
      first
        | exact FN.out
        | (go_ret; exact FN.out)
    · have d30 : decide ((30 : Int) < (l.length : Int)) = false := decide_eq_false (by omega)
      go_enter Tryz.func5, Tryz.ntmps5
      go_wp2_with fail
      go_loop [5, 6] (fun t i => RLo l t i) (fun _ i => l.length - (intOf i).toNat)
      case atStart => exact HST.out
      case round =>
        clear HST
        obtain ⟨t, k, rfl, rfl, hk, hall⟩ := hrel
        have HALL := Lib.hid hall
        clear hall
        by_cases hlt : k < l.length
        · obtain ⟨x, hx⟩ : ∃ x, l[k]? = some x := ⟨_, List.getElem?_eq_getElem hlt⟩
          have hxo := HOK.out x (List.mem_of_getElem? hx)
          obtain ⟨b1, o1, e1, hc1⟩ := HS.out.at_ hx
          have d1 : w.cell? ⟨b1, o1 + k * 6 + 1, none⟩ = some (.string x.body) := by rw [Nat.add_assoc]; exact hc1 1 _ rfl
          have d2 : w.cell? ⟨b1, o1 + k * 6 + 2, none⟩ = some (.slice x.A x.list.length x.c) := by rw [Nat.add_assoc]; exact hc1 2 _ rfl
          subst e1
          have hki : (k : Int) < (l.length : Int) := by omega
          have k0 : (0 : Int) ≤ (k : Int) := by omega
          have HSI := Lib.hid hxo.sl
          have hlen := hxo.len
          have HX := Lib.hid hx
          obtain ⟨xk, body, xA, xc, li, xa, xw, xb⟩ := x
          dsimp only at d1 d2 HSI hlen
          clear hc1 hx hxo
          go_wp2_with fail
          generalize wrap64 (t + (body.size : Int)) = t1
          have HSI0 : Hid (RLi li (.int .i64 t1) (.int .i64 0)) := ⟨t1, 0, rfl, rfl, Nat.zero_le _⟩
          go_loop [5, 7] (fun t i => RLi li t i) (fun _ i => li.length - (intOf i).toNat)
          case atStart => exact HSI0.out
          case round =>
            clear HSI0
            obtain ⟨t2, m, rfl, rfl, hm⟩ := hrel
            by_cases hmt : m < li.length ∧ m < 50
            · obtain ⟨hm1, hm2⟩ := hmt
              obtain ⟨y, hy⟩ : ∃ y, li[m]? = some y := ⟨_, List.getElem?_eq_getElem hm1⟩
              obtain ⟨b2, o2, e2, hc2⟩ := HSI.out.at_ hy
              have d3 : w.cell? ⟨b2, o2 + m, none⟩ = some (.string y) := by have := hc2 0 _ rfl; simpa using this
              subst e2
              have hmi : (m : Int) < (li.length : Int) := by omega
              have hmi2 : (m : Int) < 50 := by omega
              have m0 : (0 : Int) ≤ (m : Int) := by omega
              have g1 : decide ((m : Int) < (li.length : Int)) = true := decide_eq_true hmi
              have g2 : decide ((m : Int) < 50) = true := decide_eq_true hmi2
              clear hc2 hy
              go_wp2_with fail
              have KEY : ∀ t3 : Int, Hid (RLi li (.int .i64 t3) (.int .i64 ((m : Int) + 1))) := fun t3 => ⟨t3, m + 1, rfl, by go_num, by omega⟩
              first
                | exact ⟨(KEY _).out, by simp [intOf]; omega⟩
                | (go_round; case rel => exact (KEY _).out; case measure => simp [intOf]; omega)
            ·
              by_cases hm1 : m < li.length
              · have g1 : decide ((m : Int) < (li.length : Int)) = true := decide_eq_true (by omega)
                have g2 : decide ((m : Int) < 50) = false := decide_eq_false (by omega)
                have g40 : decide ((40 : Int) < (li.length : Int)) = true := decide_eq_true (by omega)
                have F := FN
                clear FN FY hmt
                go_wp2_with fail
                first
                  | exact F.out
                  | (go_ret; exact F.out)
              · have g1 : decide ((m : Int) < (li.length : Int)) = false := decide_eq_false (by omega)
                clear hmt
                by_cases h40 : 40 < li.length
                · have g40 : decide ((40 : Int) < (li.length : Int)) = true := decide_eq_true (by omega)
                  have F := FN
                  clear FN FY
                  go_wp2_with fail
                  first
                    | exact F.out
                    | (go_ret; exact F.out)
                · have g40 : decide ((40 : Int) < (li.length : Int)) = false := decide_eq_false (by omega)
                  by_cases h20 : 20000 < t2
                  · have g20 : decide ((20000 : Int) < t2) = true := decide_eq_true h20
                    have F := FN
                    clear FN FY
                    go_wp2_with fail
                    first
                      | exact F.out
                      | (go_ret; exact F.out)
                  · have g20 : decide ((20000 : Int) < t2) = false := decide_eq_false h20
                    have KEY : Hid (RLo l (.int .i64 t2) (.int .i64 ((k : Int) + 1))) := ⟨t2, k + 1, rfl, by go_num, by omega, fun y hy => by
                      rw [List.take_add_one, HX.out] at hy
                      rcases List.mem_append.1 hy with hy | hy
                      · exact HALL.out y hy
                      · have e : y = ⟨xk, body, xA, xc, li, xa, xw, xb⟩ := by simpa using hy
                        rw [e]; show li.length ≤ 40; omega⟩
                    go_wp2_with fail
                    first
                      | exact ⟨KEY.out, by simp [intOf]; omega⟩
                      | (go_round; case rel => exact KEY.out; case measure => simp [intOf]; omega)
        · obtain rfl : k = l.length := by omega
          have F := Lib.hid (FY.out ⟨by omega, by omega, by have := HALL.out; rw [List.take_length] at this; exact this⟩)
          clear FY FN
          go_wp2_with fail
          first
            | exact F.out
            | (go_ret; exact F.out)
end Go.Proofs.YthfjaaigncjhlaaGreatDoor
