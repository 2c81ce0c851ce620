/- Package version: the order of amendments. No condition. -/
import Derived.Test.YtekfoaenomgjgaaGreatDoorYF
import Derived.Test.YtekfoaenomgjgaaGreatDoorSel
import Derived.Test.YtekfoaenomgjgaaGreatDoorShelfH
import Derived.Great.BuildSlice
set_option maxRecDepth 100000
set_option linter.unusedSimpArgs false
set_option linter.unusedVariables false
namespace Go.Cs
open Go
/-- Which of two numbers is the less. -/
def cmpI (x y : Int) : Int := if x < y then -1 else if y < x then 1 else 0
def orI : List Int → Int
 | [] => 0
 | x :: r => if x = 0 then orI r else x
/-- An amendment and its place. -/
abbrev Pl := (Pr × Hd) × Int
def encPl (x : Pl) : List Value := encAm x.1 ++ [.int .i64 x.2]
theorem encPl_len (x : Pl) : (encPl x).length = 23 := rfl
theorem encPl_one (x : Pl) : ∀ v ∈ encPl x, v.oneCell' = true := fun v hv => by
 simp only [encPl, List.mem_append, List.mem_singleton] at hv
 rcases hv with hv | rfl
 ·exact encAm_one _ v hv
 ·rfl
def cmpP (x y : Pl) : Int := orI [cmpI x.1.1.x.day y.1.1.x.day, cmpI x.1.1.x.number y.1.1.x.number, cmpI x.2 y.2]
end Go.Cs
namespace Go.Proofs.YtekfoaenomgjgaaGreatDoor
open Go.RowKit Go.W32 Go.Blk Go.Cs Go.Lib Go.Opn Go.Mg

theorem cmp_any (x y : Int) (w : World) : Calls Tryz.prog 142 #[.int .i64 x, .int .i64 y] w fun e w' => e = .returned (.int .i64 (cmpI x y)) ∧ w' = w := by
 go_enter Tryz.func142, Tryz.ntmps142
 go_wp2
 all_goals (go_ret; refine ⟨?_, rfl⟩; unfold cmpI; (repeat' split) <;> first | rfl | (exfalso; omega))
theorem drop_at {α : Type} {l : List α} {k : Nat} {x : α} (h : l[k]? = some x) : l.drop k = x :: l.drop (k + 1) := by
 have hl := (List.getElem?_eq_some_iff.1 h).1
 rw [List.drop_eq_getElem_cons hl]
 congr 1
 exact (List.getElem?_eq_some_iff.1 h).2
theorem or_any (A : Option Addr) (c : Nat) (l : List Int) (w : World) (hl : SL w 1 Cs.encI A l) (hn : l.length ≤ 1000) : Calls Tryz.prog 141 #[.slice A l.length c] w fun e w' => e = .returned (.int .i64 (orI l)) ∧ w' = w := by
 obtain ⟨R, eR⟩ : ∃ R : Ending → World → Prop, R = fun e w' => e = .returned (.int .i64 (orI l)) ∧ w' = w := ⟨_, rfl⟩
 rw [← eR]
 have FIN : Hid (∀ v, v = orI l → R (.returned (.int .i64 v)) w) := Lib.hid fun v h => by rw [eR, h]; exact ⟨rfl, rfl⟩
 clear eR
 have HL := Lib.hid hl
 have HN := Lib.hid hn
 clear hl hn
 go_enter Tryz.func141, Tryz.ntmps141
 go_wp2_with fail
 go_loopw [8] (fun v wr => ∃ k : Nat, v = .int .i64 (k : Int) ∧ k ≤ l.length ∧ Hid (orI l = orI (l.drop k)) ∧ wr = w) (fun v _ => (l.length : Int).toNat - (RowKit.intOf v).toNat)
 case atStart => exact ⟨0, rfl, Nat.zero_le _, Lib.hid rfl, rfl⟩
 case round =>
  obtain ⟨k, rfl, hk, ho, hw⟩ := hrel
  subst hw
  rcases Nat.lt_or_eq_of_le hk with hkl | hkl
  ·have hki : (k : Int) < (l.length : Int) := by omega
   have hkb : (k : Int) + 1 ≤ 9223372036854775807 := by have := HN.out; omega
   obtain ⟨d, ed⟩ : ∃ x, l[k]? = some x := ⟨_, List.getElem?_eq_getElem hkl⟩
   have hsl := HL.out
   obtain ⟨b, off, rfl⟩ := sl_addr hsl (by intro e; rw [e] at hkl; simp at hkl)
   have cd := sl_cell1 hsl ed
   have hd := drop_at ed
   have HO := ho
   by_cases h0 : d = 0
   ·have q : (d != 0) = false := by simp [h0]
    have HX : Hid (orI l = orI (l.drop (k + 1))) := Lib.hid (by rw [HO.out, hd]; show (if d = 0 then _ else _) = _; rw [if_pos h0])
    clear hd ed hsl h0 ho hk HL
    go_wp2_with fail
    go_roundw
    case rel => exact ⟨k + 1, rfl, hkl, HX, by trivial⟩
    case measure => simp [RowKit.intOf]; omega
   ·have q : (d != 0) = true := by simpa using h0
    have HF := Lib.hid (FIN.out d (by rw [HO.out, hd]; show _ = (if d = 0 then _ else _); rw [if_neg h0]))
    clear FIN hd ed hsl h0 ho hk HL
    go_wp2_with fail
    exact HF.out
  ·have hki : ¬ (k : Int) < (l.length : Int) := by omega
   have HF := Lib.hid (FIN.out 0 (by rw [ho.out, List.drop_of_length_le (by omega)]; rfl))
   clear FIN ho hk hkl
   go_wp2_with fail
   exact HF.out
/-- A world with more blocks and more draws. -/
def GR (w w' : World) : Prop := ∃ q os', w' = Sort.grow (w.drewN q) os'
theorem GR.refl (w : World) : GR w w := ⟨0, #[], by simp [Sort.grow, World.drewN]⟩
theorem GR.trans (a b c : World) (h : GR a b) (k : GR b c) : GR a c := by
 obtain ⟨q, os, rfl⟩ := h
 obtain ⟨q', os', rfl⟩ := k
 refine ⟨q + q', os ++ os', ?_⟩
 simp [Sort.grow, World.drewN, Array.append_assoc, Nat.add_assoc]
theorem GR.alloc (w : World) (o : Obj) : GR w (w.alloc o) := ⟨0, #[o], by rw [Sort.alloc_eq_grow]; simp [Sort.grow, World.drewN]⟩
theorem GR.drew (w : World) : GR w w.drew := ⟨1, #[], by unfold Sort.grow World.drewN World.drew; simp only [Array.append_empty]⟩
theorem GR.below {w w' : World} (h : GR w w') : Below w.heap.size w w' := by
 obtain ⟨q, os, rfl⟩ := h
 exact ⟨rfl, rfl, rfl, by simp [Sort.grow, World.drewN], fun k hk => by simp [Sort.grow, World.drewN, Array.getElem?_append, hk]⟩
/-- The numbers of two boxed amendments with their places. -/
structure PcB (b1 b2 : Nat) (x y : Pl) (w : World) : Prop where
 xd : w.cell? ⟨b1, 1, none⟩ = some (.int .i64 x.1.1.x.day)
 yd : w.cell? ⟨b2, 1, none⟩ = some (.int .i64 y.1.1.x.day)
 xn : w.cell? ⟨b1, 0, none⟩ = some (.int .i64 x.1.1.x.number)
 yn : w.cell? ⟨b2, 0, none⟩ = some (.int .i64 y.1.1.x.number)
 xi : w.cell? ⟨b1, 22, none⟩ = some (.int .i64 x.2)
 yi : w.cell? ⟨b2, 22, none⟩ = some (.int .i64 y.2)
theorem PcB.keep {b1 b2 : Nat} {x y : Pl} {w w' : World} (h : PcB b1 b2 x y w) (hr : GR w w') : PcB b1 b2 x y w' := by
 have hb := hr.below
 have k : ∀ {a : Addr} {v : Value}, w.cell? a = some v → w'.cell? a = some v := fun {a v} hv => by rw [hb.cell (World.block_lt_of_cell? w a hv)]; exact hv
 exact ⟨k h.xd, k h.yd, k h.xn, k h.yn, k h.xi, k h.yi⟩
theorem three_ints (x y z : Int) (w : World) : (Instr.buildSlice 22 3 #[(0, .int .i64 x), (1, .int .i64 y), (2, .int .i64 z)]).run Tryz.prog w = .ok (.slice (some ⟨w.heap.size, 0, none⟩) 3 3) (w.alloc (.cells #[.int .i64 x, .int .i64 y, .int .i64 z] 3)) := by kernel_rfl
theorem sl_ints {w : World} {z : Nat} {T : TypeId} {l : List Int} (h : Row w z T (l.map (Value.int .i64))) : SL w 1 Cs.encI (some ⟨z, 0, none⟩) l :=
 ⟨fun _ => ⟨z, 0, rfl, fun i e hi p u hu => by
  have hp : p = 0 := by have := (List.getElem?_eq_some_iff.1 hu).1; simp [Cs.encI] at this; exact this
  subst hp
  simp [Cs.encI] at hu
  subst hu
  rw [show 0 + (i * 1 + 0) = i by omega]
  exact h.at (by rw [List.getElem?_map, hi]; rfl)⟩⟩
def RsP (c1 c2 c3 : Int) : List (Nat × Free.Loud) := [(6, .det (.int .i64 c1)), (13, .det (.int .i64 c2)), (18, .det (.int .i64 c3)), (19, .ind (fun x => .slice (some ⟨x, 0, none⟩) 3 3) (fun x w => Row w x 3 [.int .i64 c1, .int .i64 c2, .int .i64 c3])), (20, .det (.int .i64 (orI [c1, c2, c3])))]
set_option maxHeartbeats 1000000 in
theorem pc_any (x y : Pl) (W : World) : Calls Tryz.prog 97 #[.agg (encPl x).toArray, .agg (encPl y).toArray] W fun e w' => e = .returned (.int .i64 (cmpP x y)) ∧ ∃ q os', w' = Sort.grow (W.drewN q) os' := by
 obtain ⟨R, eR⟩ : ∃ R : Ending → World → Prop, R = fun e w' => e = .returned (.int .i64 (cmpP x y)) ∧ ∃ q os', w' = Sort.grow (W.drewN q) os' := ⟨_, rfl⟩
 rw [← eR]
 obtain ⟨c1, e1⟩ : ∃ c1, c1 = cmpI x.1.1.x.day y.1.1.x.day := ⟨_, rfl⟩
 obtain ⟨c2, e2⟩ : ∃ c2, c2 = cmpI x.1.1.x.number y.1.1.x.number := ⟨_, rfl⟩
 obtain ⟨c3, e3⟩ : ∃ c3, c3 = cmpI x.2 y.2 := ⟨_, rfl⟩
 have FIN : Hid (∀ w', GR W w' → R (.returned (.int .i64 (orI [c1, c2, c3]))) w') := Lib.hid fun w' hb => by rw [eR, e1, e2, e3]; exact ⟨rfl, hb⟩
 clear eR
 obtain ⟨cs, ecs⟩ : ∃ cs, cs = encPl x := ⟨_, rfl⟩
 obtain ⟨ds, eds⟩ : ∃ ds, ds = encPl y := ⟨_, rfl⟩
 have hr1 : Row (W.alloc (.cells cs.toArray 169)) W.heap.size 169 cs := Row.new _ _ _
 have hr1' : Row ((W.alloc (.cells cs.toArray 169)).alloc (.cells ds.toArray 169)) W.heap.size 169 cs := hr1.below ((Below.refl _ _).alloc (Nat.le_refl _) _) hr1.lt
 have hr2 : Row ((W.alloc (.cells cs.toArray 169)).alloc (.cells ds.toArray 169)) (W.heap.size + 1) 169 ds := by
  have := Row.new (W.alloc (.cells cs.toArray 169)) 169 ds
  rwa [show (W.alloc (.cells cs.toArray 169)).heap.size = W.heap.size + 1 by simp] at this
 obtain ⟨W1, eW⟩ : ∃ W1, W1 = (W.alloc (.cells cs.toArray 169)).alloc (.cells ds.toArray 169) := ⟨_, rfl⟩
 rw [← eW] at hr1' hr2
 have hB0 : PcB W.heap.size (W.heap.size + 1) x y W1 := ⟨hr1'.at (by rw [ecs]; rfl), hr2.at (by rw [eds]; rfl), hr1'.at (by rw [ecs]; rfl), hr2.at (by rw [eds]; rfl), hr1'.at (by rw [ecs]; rfl), hr2.at (by rw [eds]; rfl)⟩
 have HG : Hid (GR W W1) := Lib.hid (by rw [eW]; exact GR.trans _ _ _ (GR.alloc _ _) (GR.alloc _ _))
 have EW : Hid ((W.alloc (.cells cs.toArray 169)).alloc (.cells ds.toArray 169) = W1) := Lib.hid eW.symm
 have HB0 := Lib.hid hB0
 have F1 := Lib.hid e1
 have F2 := Lib.hid e2
 have F3 := Lib.hid e3
 rw [← ecs, ← eds]
 clear hr1 hr1' hr2 ecs eds eW hB0 e1 e2 e3
 go_enter Tryz.func97, Tryz.ntmps97
 go_wp2_with (simp only [EW.out])
 letI : Fre2.Rel := ⟨GR, GR.refl, GR.trans⟩
 refine Fre2.wp_region_free 21 (RsP c1 c2 c3) (PcB W.heap.size (W.heap.size + 1) x y) (by kernel_rfl) (by kernel_rfl) ?_ (HB0.out.keep (GR.drew _)) (fun w1 w2 h r => h.keep r) ?_
 ·intro j mk r hf z w1 w2 hr rr
  simp only [RsP, Free.find] at hf
  repeat' split at hf
  all_goals first | (cases hf; done) | skip
  cases hf
  exact hr.below (GR.below rr) hr.lt
 simp only [List.take_succ_cons, List.take_zero]
 iterate 6 (apply Fre2.chain_still (by first|exact Free.wanted_of rfl rfl rfl|rfl) rfl; (intro w' hB hA; obtain ⟨q0, q1, q2, q3, q4, q5⟩ := hB; clear hA  q4 q5; go_light; go_simp <;> rfl); (try simp only [Act.put, Pt1, Pt2, Pt3]))
 apply Fre2.chain_det (by first|exact Free.wanted_of rfl rfl rfl|rfl) rfl
 ·intro w' hB hA
  refine Free.opRun_call (f := 142) (args := #[.int .i64 x.1.1.x.day, .int .i64 y.1.1.x.day]) (by clear hB hA; go_simp <;> rfl) ?_
  refine (cmp_any _ _ _).mono ?_
  rintro e w3 ⟨rfl, rfl⟩
  exact ⟨_, rfl, GR.refl _, by rw [F1.out]⟩
 simp only [Act.put, Pt1, Pt2, Pt3]
 iterate 6 (apply Fre2.chain_still (by first|exact Free.wanted_of rfl rfl rfl|rfl) rfl; (intro w' hB hA; obtain ⟨q0, q1, q2, q3, q4, q5⟩ := hB; clear hA  q0 q1; go_light; go_simp <;> rfl); (try simp only [Act.put, Pt1, Pt2, Pt3]))
 apply Fre2.chain_det (by first|exact Free.wanted_of rfl rfl rfl|rfl) rfl
 ·intro w' hB hA
  refine Free.opRun_call (f := 142) (args := #[.int .i64 x.1.1.x.number, .int .i64 y.1.1.x.number]) (by clear hB hA; go_simp <;> rfl) ?_
  refine (cmp_any _ _ _).mono ?_
  rintro e w3 ⟨rfl, rfl⟩
  exact ⟨_, rfl, GR.refl _, by rw [F2.out]⟩
 simp only [Act.put, Pt1, Pt2, Pt3]
 iterate 4 (apply Fre2.chain_still (by first|exact Free.wanted_of rfl rfl rfl|rfl) rfl; (intro w' hB hA; obtain ⟨q0, q1, q2, q3, q4, q5⟩ := hB; clear hA  q0 q1; go_light; go_simp <;> rfl); (try simp only [Act.put, Pt1, Pt2, Pt3]))
 apply Fre2.chain_det (by first|exact Free.wanted_of rfl rfl rfl|rfl) rfl
 ·intro w' hB hA
  refine Free.opRun_call (f := 142) (args := #[.int .i64 x.2, .int .i64 y.2]) (by clear hB hA; go_simp <;> rfl) ?_
  refine (cmp_any _ _ _).mono ?_
  rintro e w3 ⟨rfl, rfl⟩
  exact ⟨_, rfl, GR.refl _, by rw [F3.out]⟩
 simp only [Act.put, Pt1, Pt2, Pt3]
 apply Fre2.chain_ind (by first|exact Free.wanted_of rfl rfl rfl|rfl) rfl
 ·intro w' hB hA
  exact Free.opRun_of (exec_slice3 rfl (three_ints c1 c2 c3 w')) ⟨GR.alloc _ _, w'.heap.size, rfl, Row.new w' 3 [.int .i64 c1, .int .i64 c2, .int .i64 c3]⟩
 intro z
 simp only [Act.put, Pt1, Pt2, Pt3]
 apply Fre2.chain_det (by first|exact Free.wanted_of rfl rfl rfl|rfl) rfl
 ·intro w' hB hA
  have hz : Row w' z 3 [.int .i64 c1, .int .i64 c2, .int .i64 c3] := hA _ List.mem_cons_self (by kernel_rfl)
  refine Free.opRun_call (f := 141) (args := #[.slice (some ⟨z, 0, none⟩) 3 3]) (by clear hB hA hz; go_simp <;> rfl) ?_
  refine (or_any (some ⟨z, 0, none⟩) 3 [c1, c2, c3] w' (sl_ints hz) (by simp)).mono ?_
  rintro e w3 ⟨rfl, rfl⟩
  exact ⟨_, rfl, GR.refl _, rfl⟩
 simp only [Act.put, Pt1, Pt2, Pt3]
 apply Fre2.chain_nil
 intro wz hBz hg hh
 have HZ := Lib.hid (FIN.out wz (GR.trans _ _ _ HG.out (GR.trans _ _ _ (GR.drew _) hg)))
 clear hBz hg hh HB0
 go_wp2_with fail
 exact HZ.out
end Go.Proofs.YtekfoaenomgjgaaGreatDoor
