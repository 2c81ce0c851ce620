/- Package patch: a clause copied. Condition: its conditions lie in memory. -/
import Derived.Test.YtekfoaenomgjgaaGreatDoorCvV
set_option maxRecDepth 100000
set_option linter.unusedSimpArgs false
set_option linter.unusedVariables false
set_option linter.unnecessarySimpa false
namespace Go.Proofs.YtekfoaenomgjgaaGreatDoor
open Go.RowKit Go.W32 Go.Blk Go.Cs Go.Lib Go.Opn Go.Mg Go.Cv

theorem cl2b_any (A : Option Addr) (c : Nat) (l : List (Int × Int)) (w : World) (hl : SL w 2 encCond A l) (hn : l.length ≤ 1000000) :
  Calls Tryz.prog 63 #[.slice A l.length c] w fun e w' => ∃ A' c', e = .returned (.slice A' l.length c') ∧ w'.ownsRow w.heap.size 133 2 (.slice A' l.length c') l.length (l.flatMap encCond) ∧ Below w.heap.size w w' := by
 obtain ⟨i, h1, h2, h3, h4⟩ := info_of info_c
 exact Cln.clone_any Tryz.clc (ec := encCond) i _ 2 16 h1 h2 h3 h4 rfl (by decide) Tryz.sizeOf133 (fun _ => rfl) (fun x v hv => by simp [encCond] at hv; rcases hv with rfl | rfl <;> rfl) A c l w hl (by unfold maxLen; omega) (by omega)
theorem zk : (#[.int .i64 0, .int .i64 0, .int .i64 0, .int .i64 0, .slice none 0 0, .int .i64 0, .int .i64 0, .bool false, .bool false, .int .i64 0, .int .i64 0, .int .i64 0, .int .i64 0, .int .i64 0, .int .i64 0, .bool false] : Array Value) = (encKl (Cls.zero, (none, 0))).toArray := rfl
/-- A clause whose conditions lie in a row of one's own. -/
def CpPost (k : Kl) (W : World) (e : Ending) (w' : World) : Prop := ∃ A' c', e = .returned (.agg (encKl (k.1, (A', c'))).toArray) ∧ w'.ownsRow W.heap.size 133 2 (.slice A' k.1.start.length c') k.1.start.length (k.1.start.flatMap encCond) ∧ Below W.heap.size W w'
set_option maxHeartbeats 2000000 in
theorem copied_any (k : Kl) (W : World) (hs : SL W 2 encCond k.2.1 k.1.start) (hn : k.1.start.length ≤ 1000000) : Calls Tryz.prog 57 #[.agg (encKl k).toArray] W (CpPost k W) := by
 obtain ⟨ds, eds⟩ : ∃ ds, ds = encKl k := ⟨_, rfl⟩
 obtain ⟨zs, ezs⟩ : ∃ zs, zs = encKl (Cls.zero, (none, 0)) := ⟨_, rfl⟩
 have hdl : ds.length = 16 := by rw [eds]; rfl
 obtain ⟨hr1, hr2, hbw⟩ := two_boxes2 W 45 45 ds zs
 obtain ⟨W2, e2⟩ : ∃ W2, W2 = (W.alloc (.cells ds.toArray 45)).alloc (.cells zs.toArray 45) := ⟨_, rfl⟩
 rw [← e2] at hr1 hr2 hbw
 have E2 : Hid ((W.alloc (.cells ds.toArray 45)).alloc (.cells #[.int .i64 0, .int .i64 0, .int .i64 0, .int .i64 0, .slice none 0 0, .int .i64 0, .int .i64 0, .bool false, .bool false, .int .i64 0, .int .i64 0, .int .i64 0, .int .i64 0, .int .i64 0, .int .i64 0, .bool false] 45) = W2) := Lib.hid (by rw [zk, ← ezs]; exact e2.symm)
 have q4 := hr1.at (show ds[4]? = some (.slice k.2.1 k.1.start.length k.2.2) by rw [eds]; rfl)
 have CC := Lib.hid (cl2b_any k.2.1 k.2.2 k.1.start W2 (hs.below hbw (Nat.le_refl _)) hn)
 have HR1 := Lib.hid hr1
 have HR2 := Lib.hid hr2
 have HBW := Lib.hid hbw
 have EDS := Lib.hid eds
 have EZS := Lib.hid ezs
 rw [← eds]
 clear eds ezs hdl hr1 hr2 hbw e2 hs
 go_enter Tryz.func57, Tryz.ntmps57
 go_wp2_with (simp only [E2.out])
 refine CC.out.mono ?_
 rintro e w3 ⟨A', c', rfl, ho3, hb3⟩
 have hr3 := HR1.out.below hb3 HR1.out.lt
 have hz3 := HR2.out.below hb3 HR2.out.lt
 have q43 := hr3.at (show ds[4]? = some (.slice k.2.1 k.1.start.length k.2.2) by rw [EDS.out]; rfl)
 have f43 := Blk.Blk.frozen (show Blk.Blk w3 W.heap.size ds 45 from hr3) 4
 obtain ⟨ns, ens⟩ : ∃ ns, ns = encKl (k.1, (A', c')) := ⟨_, rfl⟩
 have hset : ds.set 4 (.slice A' k.1.start.length c') = ns := by rw [EDS.out, ens]; rfl
 obtain ⟨W4, e4⟩ : ∃ W4, W4 = w3.setCell ⟨W.heap.size, 4, none⟩ (.slice A' k.1.start.length c') := ⟨_, rfl⟩
 have hr4 : Row W4 W.heap.size 45 ns := by
  have h := Blk.Blk.set (show Blk.Blk w3 W.heap.size ds 45 from hr3) 4 (.slice A' k.1.start.length c')
  rw [hset] at h; rw [e4]; exact h
 have hz4 : Row W4 (W.heap.size + 1) 45 zs := by
  rw [e4]
  exact Blk.Blk.set_ne (show Blk.Blk w3 (W.heap.size + 1) zs 45 from hz3) (a := ⟨W.heap.size, 4, none⟩) (by show W.heap.size ≠ W.heap.size + 1; omega) _
 have hlt : W.heap.size < W2.heap.size := HR1.out.lt
 have hlt2 : W.heap.size + 1 < W2.heap.size := HR2.out.lt
 have ho4 : W4.ownsRow W2.heap.size 133 2 (.slice A' k.1.start.length c') k.1.start.length (k.1.start.flatMap encCond) := by rw [e4]; exact owns_set ho3 hlt
 have hb4 : Below W.heap.size W W4 := (HBW.out.trans (hb3.mono HBW.out.size)).trans (by rw [e4]; exact below_setCell (a := ⟨W.heap.size, 4, none⟩) (Nat.le_refl _) _)
 have E4 : Hid (w3.setCell ⟨W.heap.size, 4, none⟩ (.slice A' k.1.start.length c') = W4) := Lib.hid e4.symm
 have hnl : ns.length = 16 := by rw [ens]; rfl
 have HMN := Lib.hid hr4.rg
 have HIN := Lib.hid (info_k ns hnl)
 have HST : Hid (∀ (Q : Exit → Act → World → Prop) (ops : Array Oper) (rest : List Oper) (o : Oper) (a : Act), o.guard = none → o.op = .store 45 (.tmp 2) (.tmp 7) → a.eval (.tmp 2) = .pointer (some ⟨W.heap.size + 1, 0, none⟩) → a.eval (.tmp 7) = .agg ns.toArray → (∀ w', Hid (Row w' (W.heap.size + 1) 45 ns ∧ w'.ownsRow W.heap.size 133 2 (.slice A' k.1.start.length c') k.1.start.length (k.1.start.flatMap encCond) ∧ Below W.heap.size W w') → wpList Tryz.prog ops Q rest (a.put o.dst undef) w') → wpList Tryz.prog ops Q (o :: rest) a W4) := Lib.hid (by
  intro Q ops rest o a hgd ho hx hy hk
  refine Hk.wpList_store_own hgd 45 (.tmp 2) (.tmp 7) ho (W.heap.size + 1) hx ns hy zs 45 hz4 HIN.out (by rw [hnl, EZS.out]; rfl) (by rw [ens]; exact encKl_one _) ?_
  intro w' k1 k2 _
  refine hk w' (Lib.hid ⟨k1, owns_mono (owns_keep ho4 fun g hg => ?_) (by omega), hb4.trans (below_grown k2 (fun g hg => by injection hg with e; omega) hb4.size)⟩)
  have hl := owns_lt ho4 hg
  exact k2.block _ hl.2 (fun e => by injection e with e; omega))
 have ENS := Lib.hid ens
 clear hset e4 hr4 hz4 ho4 hb4 ho3 hb3 hr3 hz3 hnl ens CC q4
 go_wp2_with (first
  | (simp only [E4.out])
  | (refine at_load (.tmp 1) ?_; refine wpList_load_mid rfl 45 (.tmp 1) rfl W.heap.size 0 rfl ns _ HMN.out Tryz.underlying45 rfl HIN.out ?_)
  | (refine at_store (.tmp 2) ?_; refine HST.out _ _ _ _ _ rfl rfl rfl rfl ?_; intro w9 H9; simp only [Act.put, Pt1, Pt2, Pt3]))
 refine bodyPost_ret (v := .agg ns.toArray) (Hk.results_cell_row (fn := Tryz.f57) (p := 2) (ty := 45) rfl _ _ (W.heap.size + 1) 45 ns.toArray (0, 0) _ rfl H9.out.1 Tryz.underlying45 rfl (by rw [HIN.out]; simp)) rfl ?_
 exact ⟨A', c', by rw [ENS.out], H9.out.2⟩
end Go.Proofs.YtekfoaenomgjgaaGreatDoor
