/- Package version: Order. Condition: the amendments lie in memory. -/
import Derived.Test.YtekfoaenomgjgaaGreatDoorVeB
set_option maxRecDepth 100000
set_option linter.unusedSimpArgs false
set_option linter.unusedVariables false
namespace Go.Cs
open Go
def plZ : Pl := default
/-- Amendments with their places. -/
def pls (l : List (Pr × Hd)) : List Pl := l.zipIdx.map fun p => (p.1, (p.2 : Int))
theorem pls_len (l : List (Pr × Hd)) : (pls l).length = l.length := by simp [pls]
theorem pls_at {l : List (Pr × Hd)} {k : Nat} {x : Pr × Hd} (h : l[k]? = some x) : (pls l)[k]? = some (x, (k : Int)) := by simp [pls, List.getElem?_zipIdx, h]
end Go.Cs
namespace Go.Proofs.YtekfoaenomgjgaaGreatDoor
open Go.RowKit Go.W32 Go.Blk Go.Cs Go.Lib Go.Opn Go.Mg

theorem info_pl : (Tryz.prog.info? 169).map (fun i => (i.zero, i.size, i.bytes)) = some (some (.agg (encPl plZ).toArray), 23, 208) := by kernel_rfl
theorem made_pls (n : Nat) (hn : n ≤ 4000) (W : World) : (Instr.makeSlice 167 (.int .i64 (n : Int)) (.int .i64 (n : Int))).run Tryz.prog W = .ok (.slice (some ⟨W.heap.size, 0, none⟩) n n) (W.alloc (.cells (madeCells (encPl plZ).toArray (n * 23)) 169)) := by
 obtain ⟨i, hi, hz, hs, hy⟩ := info_of info_pl
 have h := run_make (P := Tryz.prog) W 167 169 i _ Tryz.underlying167 hi hz .i64 .i64 (n : Int) (n : Int) (by omega) (by omega) (by rw [hy]; omega) (by omega)
 rw [h, hs, Int.toNat_natCast]
 all_goals rfl
theorem made_ints (n : Nat) (hn : n ≤ 4000) (W : World) : (Instr.makeSlice 22 (.int .i64 (n : Int)) (.int .i64 (n : Int))).run Tryz.prog W = .ok (.slice (some ⟨W.heap.size, 0, none⟩) n n) (W.alloc (.cells (madeCells (Cs.encI 0).toArray (n * 1)) 3)) := by
 obtain ⟨i, hi, hz, hs, hy⟩ := info_of info_int
 have h := run_make (P := Tryz.prog) W 22 3 i _ Tryz.underlying22 hi hz .i64 .i64 (n : Int) (n : Int) (by omega) (by omega) (by rw [hy]; omega) (by omega)
 rw [h, hs, Int.toNat_natCast]
 all_goals rfl
theorem exec_buildPl {ρ : Operand → Value} {op : Oper} {w : World} {x y : Operand} (ho : op.op = .build 169 #[(0, x), (1, y)]) (m : Pr × Hd) (k : Int) (hx : ρ x = .agg (encAm m).toArray) (hy : ρ y = .int .i64 k) :
  (execOp ρ op).run Tryz.prog w = .ok (.value (.agg (encPl (m, k)).toArray)) w := by
 unfold execOp
 simp only [ho, hx, hy, List.map_toArray, List.map_cons, List.map_nil]
 unfold encPl encAm encPat
 simp only [List.cons_append, List.nil_append]
 go_simp
/-- The first loop: the amendments get their places. -/
structure O1 (W : World) (l : List (Pr × Hd)) (k : Nat) (w : World) : Prop where
 own : w.ownsRow W.heap.size 169 23 (.slice (some ⟨W.heap.size, 0, none⟩) l.length l.length) l.length ((Sel.part (pls l) plZ k).flatMap encPl)
 below : Below W.heap.size W w
theorem O1.grow {W w w' : World} {l : List (Pr × Hd)} {k : Nat} (h : O1 W l k w) (hb : Below w.heap.size w w') : O1 W l k w' :=
 ⟨owns_keep h.own fun _ hg => hb.block _ (owns_lt h.own hg).2, h.below.trans (hb.mono h.below.size)⟩
/-- The second loop: their places are read. -/
structure O2 (w0 : World) (g2 : Nat) (pl : List Pl) (k : Nat) (w : World) : Prop where
 own : w.ownsRow w0.heap.size 3 1 (.slice (some ⟨g2, 0, none⟩) pl.length pl.length) pl.length ((Sel.part (pl.map (·.2)) 0 k).flatMap Cs.encI)
 below : Below w0.heap.size w0 w
theorem O2.grow {w0 w w' : World} {g2 : Nat} {pl : List Pl} {k : Nat} (h : O2 w0 g2 pl k w) (hb : Below w.heap.size w w') : O2 w0 g2 pl k w' :=
 ⟨owns_keep h.own fun _ hg => hb.block _ (owns_lt h.own hg).2, h.below.trans (hb.mono h.below.size)⟩
def OrPost (l : List (Pr × Hd)) (W : World) (e : Ending) (w' : World) : Prop :=
 Below W.heap.size W w' ∧ ∃ (A : Option Addr) (c : Nat) (pl : List Pl), e = .returned (.slice A pl.length c) ∧ SL w' 1 Cs.encI A (pl.map (·.2)) ∧ pl.Perm (pls l) ∧ pl.Pairwise (fun a b => ¬ b.lt a) ∧ ∀ k, A.map (·.block) = some k → W.heap.size ≤ k ∧ ∃ c t f, w'.heap[k]? = some (.cells c t f)
set_option maxHeartbeats 2000000 in
theorem or2_any (A : Option Addr) (c : Nat) (l : List (Pr × Hd)) (W : World) (hl : SL W 22 encAm A l) (hn : l.length ≤ 4000) : Calls Tryz.prog 65 #[.slice A l.length c] W (OrPost l W) := by
 obtain ⟨R, eR⟩ : ∃ R, R = OrPost l W := ⟨_, rfl⟩
 rw [← eR]
 have ER : Hid (∀ e w', OrPost l W e w' → R e w') := Lib.hid fun e w' h => by rw [eR]; exact h
 clear eR
 have HL := Lib.hid hl
 have hIA : (Tryz.prog.info? 62).map (·.size) = some 22 := by kernel_rfl
 have hIP : (Tryz.prog.info? 169).map (·.size) = some 23 := by kernel_rfl
 have hmk := made_pls l.length hn W
 obtain ⟨W1, e1⟩ : ∃ W1, W1 = W.alloc (.cells (madeCells (encPl plZ).toArray (l.length * 23)) 169) := ⟨_, rfl⟩
 have h1 : O1 W l 0 W1 := by
  rw [e1]
  refine ⟨?_, (Below.refl _ _).alloc (Nat.le_refl _) _⟩
  rw [Sel.part_zero, pls_len]
  exact Sel.own_made encPl_len (by decide) plZ W l.length l.length (Nat.le_refl _) (by unfold maxLen; omega) (Nat.le_refl _)
 rw [← e1] at hmk
 have HIA := Lib.hid hIA
 have HIP := Lib.hid hIP
 have HN := Lib.hid hn
 have H1 := Lib.hid h1
 clear hIA hIP h1 hl e1 hn
 go_enter Tryz.func65, Tryz.ntmps65
 go_wp2_with fail
 clear hmk
 go_loopw [14] (fun v wr => ∃ k : Nat, v = .int .i64 (k : Int) ∧ k ≤ l.length ∧ O1 W l k wr) (fun v _ => (l.length : Int).toNat - (RowKit.intOf v).toNat)
 case atStart => exact ⟨0, rfl, Nat.zero_le _, H1.out⟩
 case round =>
  clear H1
  obtain ⟨k, rfl, hk, hra⟩ := hrel
  rcases Nat.lt_or_eq_of_le hk with hkl | hkl
  ·have hki : (k : Int) < (l.length : Int) := by omega
   obtain ⟨x, ex⟩ : ∃ x, l[k]? = some x := ⟨_, List.getElem?_eq_getElem hkl⟩
   have hsl := HL.out.below hra.below (Nat.le_refl _)
   obtain ⟨b, off, rfl⟩ := sl_addr hsl (by intro e; rw [e] at hkl; simp at hkl)
   obtain ⟨cs, ecs⟩ : ∃ cs, cs = encAm x := ⟨_, rfl⟩
   have hcl : cs.length = 22 := by rw [ecs]; rfl
   have HC : Hid (wr.rangeAt b (off + k * 22) cs) := Lib.hid (by rw [ecs]; exact sl_range hsl ex)
   have HIC : Hid ((Tryz.prog.info? 62).map (·.size) = some cs.length) := by show _ = _; rw [hcl]; exact HIA.out
   obtain ⟨W5, e5⟩ : ∃ W5, W5 = wr.alloc (.cells cs.toArray 62) := ⟨_, rfl⟩
   have hb5 : Below wr.heap.size wr W5 := by rw [e5]; exact (Below.refl _ _).alloc (Nat.le_refl _) _
   have hr5 : Row W5 wr.heap.size 62 cs := by rw [e5]; exact Row.new _ _ _
   have HST := Lib.hid (Sel.store_box HIC.out (by rw [ecs]; exact encAm_one x) 5 18 wr W5 _ rfl e5)
   have HM5 := Lib.hid hr5.rg
   have h5 := hra.grow hb5
   have HSE : Hid (∀ (Q : Exit → Act → World → Prop) (ops : Array Oper) (rest : List Oper) (o : Oper) (a : Act), o.guard = none → o.op = .store 169 (.tmp 24) (.tmp 23) → a.eval (.tmp 24) = .pointer (some ⟨W.heap.size, k * 23, none⟩) → a.eval (.tmp 23) = .agg (encPl (x, (k : Int))).toArray → (∀ w9, Hid (O1 W l (k + 1) w9) → wpList Tryz.prog ops Q rest (a.put o.dst undef) w9) → wpList Tryz.prog ops Q (o :: rest) a W5) := Lib.hid (by
    intro Q ops rest o a hgd ho hx hy hK
    have hpl := Sel.part_len (pls l) plZ (k := k) (by rw [pls_len]; omega)
    rw [pls_len] at hpl
    have ho5 := h5.own
    rw [← hpl] at ho5
    refine Sel.wpList_store_elem hgd 169 (.tmp 24) (.tmp 23) ho encPl_len encPl_one (cap := (Sel.part (pls l) plZ k).length) ho5 k (by rw [hpl]; exact hkl) (x, (k : Int)) hx hy HIP.out ?_
    intro w9 o9 g9 _
    refine hK w9 (Lib.hid ⟨?_, h5.below.trans (below_grown g9 (fun g hg => by injection hg with e; omega) h5.below.size)⟩)
    rw [hpl, Sel.part_set _ _ (pls_at ex)] at o9
    exact o9)
   have HBP : Hid (∀ {ρ : Operand → Value} {op : Oper} {w : World}, op.op = .build 169 #[(0, .tmp 21), (1, .tmp 22)] → ρ (.tmp 21) = .agg cs.toArray → ρ (.tmp 22) = .int .i64 (k : Int) → (execOp ρ op).run Tryz.prog w = .ok (.value (.agg (encPl (x, (k : Int))).toArray)) w) := Lib.hid fun ho hx hy => exec_buildPl ho x k (by rw [hx, ecs]) hy
   have HCL := Lib.hid hcl
   have hkb : (k : Int) + 1 ≤ 9223372036854775807 := by have := HN.out; omega
   obtain ⟨es, ees⟩ : ∃ es, es = (encPl (x, (k : Int))).toArray := ⟨_, rfl⟩
   rw [← ees] at HSE HBP
   clear ecs hcl e5 hb5 hr5 h5 hsl ex hra ees hk
   go_wp2_with (first
    | (refine at_load (.tmp 17) ?_; refine wpList_load_mid rfl 62 (.tmp 17) rfl b (off + k * 22) rfl cs _ HC.out Tryz.underlying62 rfl HIC.out ?_)
    | (refine at_store (.tmp 5) ?_; refine HST.out _ _ _ _ _ rfl rfl rfl rfl _ (by simp [HCL.out]) ?_; simp only [Act.put, Pt1, Pt2, Pt3])
    | (refine at_load (.tmp 5) ?_; refine wpList_load_mid rfl 62 (.tmp 5) rfl wr.heap.size 0 rfl cs _ HM5.out Tryz.underlying62 rfl HIC.out ?_)
    | (refine at_build (.tmp 21) ?_; refine Row.still (by first|exact Free.wanted_of rfl rfl rfl|rfl) (HBP.out rfl rfl rfl) ?_; simp only [Act.put, Pt1, Pt2, Pt3])
    | (refine at_store (.tmp 24) ?_; refine HSE.out _ _ _ _ _ rfl rfl rfl rfl ?_; intro w9 H9; simp only [Act.put, Pt1, Pt2, Pt3]))
   go_roundw
   case rel => exact ⟨k + 1, rfl, hkl, H9.out⟩
   case measure => simp [RowKit.intOf]; omega
  ·have hki : ¬ (k : Int) < (l.length : Int) := by omega
   have hown := hra.own
   rw [Sel.part_all _ _ (by rw [pls_len]; omega)] at hown
   have SP := Lib.hid (sp_any (pls l) W.heap.size _ wr (by rw [pls_len]; exact hown) (by rw [pls_len]; exact HN.out))
   have HB := Lib.hid hra.below
   have HW0 : Hid (W.heap.size < wr.heap.size) := Lib.hid (World.ownsRow.lt hra.own _ rfl).2
   clear hown hra hk hkl
   go_wp2_with fail
   refine SP.out.mono ?_
   rintro e w2 ⟨rfl, hg2, pl, A2, c2, ev, hpp, hpw, hsl2⟩
   have hpl : pl.length = l.length := by rw [hpp.length_eq, pls_len]
   rw [pls_len] at ev
   injection ev with eA _ ec
   subst eA ec
   have hb2 : Below W.heap.size W w2 := HB.out.trans (below_grown hg2 (fun g hg => Nat.le_of_eq (Option.some.inj hg)) HB.out.size)
   have hmk := made_ints l.length HN.out w2
   obtain ⟨W3, e3⟩ : ∃ W3, W3 = w2.alloc (.cells (madeCells (Cs.encI 0).toArray (l.length * 1)) 3) := ⟨_, rfl⟩
   rw [← e3] at hmk
   have h3 : O2 w2 w2.heap.size pl 0 W3 := by
    rw [e3]
    refine ⟨?_, (Below.refl _ _).alloc (Nat.le_refl _) _⟩
    rw [Sel.part_zero, List.length_map, hpl]
    exact Sel.own_made (enc := Cs.encI) (sz := 1) (fun _ => rfl) Nat.one_pos 0 w2 l.length l.length (Nat.le_refl _) (by have := HN.out; unfold maxLen; omega) (Nat.le_refl _)
   have HB2 := Lib.hid hb2
   have H3 := Lib.hid h3
   have HPL := Lib.hid hpl
   have HPP := Lib.hid hpp
   have HPW := Lib.hid hpw
   have HSL := Lib.hid hsl2
   clear hg2 hpp hpw hsl2 hpl hb2 e3 h3 SP HB
   go_wp2_with fail
   clear hmk
   go_loopw [33] (fun v wr => ∃ k : Nat, v = .int .i64 (k : Int) ∧ k ≤ l.length ∧ O2 w2 w2.heap.size pl k wr) (fun v _ => (l.length : Int).toNat - (RowKit.intOf v).toNat)
   case atStart => exact ⟨0, rfl, Nat.zero_le _, H3.out⟩
   case round =>
    clear H3
    obtain ⟨k, rfl, hk, hra⟩ := hrel
    rcases Nat.lt_or_eq_of_le hk with hkl | hkl
    ·have hki : (k : Int) < (l.length : Int) := by omega
     obtain ⟨x, ex⟩ : ∃ x, pl[k]? = some x := ⟨_, List.getElem?_eq_getElem (by rw [HPL.out]; exact hkl)⟩
     obtain ⟨cs, ecs⟩ : ∃ cs, cs = encPl x := ⟨_, rfl⟩
     have hcl : cs.length = 23 := by rw [ecs]; rfl
     have HC : Hid (wr.rangeAt W.heap.size (k * 23) cs) := Lib.hid (by rw [ecs]; have h := sl_range (HSL.out.below hra.below (Nat.le_refl _)) ex; rwa [Nat.zero_add] at h)
     have HIC : Hid ((Tryz.prog.info? 169).map (·.size) = some cs.length) := by show _ = _; rw [hcl]; exact HIP.out
     obtain ⟨W5, e5⟩ : ∃ W5, W5 = wr.alloc (.cells cs.toArray 169) := ⟨_, rfl⟩
     have hb5 : Below wr.heap.size wr W5 := by rw [e5]; exact (Below.refl _ _).alloc (Nat.le_refl _) _
     have hr5 : Row W5 wr.heap.size 169 cs := by rw [e5]; exact Row.new _ _ _
     have HST := Lib.hid (Sel.store_box HIC.out (by rw [ecs]; exact encPl_one x) 8 37 wr W5 _ rfl e5)
     have h5 := hra.grow hb5
     have c22 := hr5.at (show cs[22]? = some (.int .i64 x.2) by rw [ecs]; rfl)
     have hpl2 : (Sel.part (pl.map (·.2)) 0 k).length = l.length := by rw [Sel.part_len _ _ (by rw [List.length_map, HPL.out]; omega), List.length_map, HPL.out]
     have ho5 := h5.own
     rw [HPL.out] at ho5
     have hoc := Sel.own_cell (enc := Cs.encI) (fun _ => rfl) (by rw [hpl2]; exact ho5) k 0 (Sel.part_at (pl.map (·.2)) 0 (by rw [List.length_map, HPL.out]; exact hkl)) x.2 (.int .i64 x.2) (by decide) rfl
     rw [hpl2, Sel.part_set _ _ (show (pl.map (·.2))[k]? = some x.2 by rw [List.getElem?_map, ex]; rfl), Nat.mul_one, Nat.add_zero] at hoc
     have cw := ho5.cellAt k (by omega)
     rw [show ((Sel.part (pl.map (·.2)) 0 k).flatMap Cs.encI)[k]? = some (.int .i64 0) by
      have h := Sel.flat_at (enc := Cs.encI) (sz := 1) (fun _ => rfl) (Sel.part_at (pl.map (·.2)) 0 (k := k) (by rw [List.length_map, HPL.out]; exact hkl)) (show (Cs.encI 0)[0]? = some (.int .i64 0) from rfl)
      rwa [Nat.mul_one, Nat.add_zero] at h] at cw
     have fw := ho5.frozenAt k
     have hlt2 : w2.heap.size ≤ W5.heap.size := h5.below.size
     have HN9 : Hid (O2 w2 w2.heap.size pl (k + 1) (W5.setCell ⟨w2.heap.size, k, none⟩ (.int .i64 x.2))) := Lib.hid ⟨by rw [HPL.out]; exact hoc.1, h5.below.trans (below_grown hoc.2 (fun g hg => Nat.le_of_eq (Option.some.inj hg)) hlt2)⟩
     have HCL := Lib.hid hcl
     have hkb : (k : Int) + 1 ≤ 9223372036854775807 := by have := HN.out; omega
     clear ecs hcl e5 hb5 hr5 h5 ex hra hk hoc ho5 hpl2 hlt2
     go_wp2_with (first
      | (refine at_load (.tmp 36) ?_; refine wpList_load_mid rfl 169 (.tmp 36) rfl W.heap.size (k * 23) rfl cs _ HC.out Tryz.underlying169 rfl HIC.out ?_)
      | (refine at_store (.tmp 8) ?_; refine HST.out _ _ _ _ _ rfl rfl rfl rfl _ (by simp [HCL.out]) ?_; simp only [Act.put, Pt1, Pt2, Pt3]))
     go_roundw
     case rel => exact ⟨k + 1, rfl, hkl, HN9.out⟩
     case measure => simp [RowKit.intOf]; omega
    ·have hki : ¬ (k : Int) < (l.length : Int) := by omega
     have hown := hra.own
     rw [Sel.part_all _ _ (by rw [List.length_map, HPL.out]; omega)] at hown
     have HF : Hid (R (.returned (.slice (some ⟨w2.heap.size, 0, none⟩) l.length l.length)) wr) := Lib.hid (ER.out _ _ ⟨HB2.out.trans (hra.below.mono HB2.out.size), some ⟨w2.heap.size, 0, none⟩, l.length, pl, by rw [HPL.out], by
      have h := hown
      rw [show pl.length = (pl.map (·.2)).length by rw [List.length_map]] at h
      exact sl_of_owns (fun _ => rfl) h, HPP.out, HPW.out, fun k e => by
       injection e with e
       rw [← e]
       refine ⟨HB2.out.size, ?_⟩
       rcases hra.own.2 with ⟨h, _⟩ | ⟨g, cap, cur, h, _, hg, _⟩
       ·cases h
       ·injection h with h _
        injection h with h
        injection h with h _
        rw [h]; exact ⟨_, _, _, hg⟩⟩)
     clear hown hra hk hkl
     go_wp2_with fail
     exact HF.out
end Go.Proofs.YtekfoaenomgjgaaGreatDoor
