/- Package journal: content. Condition: the disk is on. -/
import Derived.Test.YthfjaaigncjhlaaGreatDoorJo8
import Derived.Test.YthfjaaigncjhlaaGreatDoorJo9
import Derived.Test.YthfjaaigncjhlaaGreatDoorBldS
import Derived.Test.YthfjaaigncjhlaaGreatDoorFre2
namespace Go.Jn
theorem flat_secs (st : List UInt8) (base : Nat) : ∀ m, 32 * (base + m) ≤ st.length → (List.range' 0 m).flatMap (fun k => sec st (base + k)) = (st.drop (32 * base)).take (32 * m)
  | 0, _ => by simp
  | m + 1, h => by
    rw [List.range'_concat, List.flatMap_append, flat_secs st base m (by omega)]
    simp only [Nat.zero_add, Nat.one_mul, List.flatMap_cons, List.flatMap_nil, List.append_nil]
    unfold sec
    rw [Nat.mul_add 32 m 1, Nat.mul_one, List.take_add, List.drop_drop]
    congr 3
    omega
theorem half_secs (st : List UInt8) (size h len : Nat) (hl : 32 * (2 + h * size + (len + 31) / 32) ≤ st.length) :
    ((if len = 0 then [] else Go.Jn.ksOf 0 len).flatMap (fun k => sec st (2 + h * size + k))).take len = half st size h len := by
  by_cases h0 : len = 0
  · subst h0; simp [half]
  · rw [if_neg h0]
    unfold ksOf
    rw [Nat.zero_add, Nat.zero_div, Nat.sub_zero, flat_secs st (2 + h * size) _ hl, List.take_take, Nat.min_eq_left (by omega)]
    rfl
theorem flat_secs_len {st : List UInt8} {size h len : Nat} (hl : 32 * (2 + h * size + (len + 31) / 32) ≤ st.length) :
    len ≤ ((if len = 0 then [] else Go.Jn.ksOf 0 len).flatMap (fun k => sec st (2 + h * size + k))).length := by
  by_cases h0 : len = 0
  · omega
  · rw [if_neg h0]
    unfold ksOf
    rw [Nat.zero_add, Nat.zero_div, Nat.sub_zero, flat_secs st (2 + h * size) _ hl, List.length_take, List.length_drop]
    omega
end Go.Jn
namespace Go.Proofs.YthfjaaigncjhlaaGreatDoor
open Go.RowKit Go.Blk Go.Jn Go.Dk Go.Mp Go.Rf Go.Shelf
attribute [local go_sem] Oper.semAt_some

theorem Bld.str_k {w0 w : World} {B b : Nat} {l : List UInt8} (h : Bld w0 B b l w) (s : ByteArray) (hl : l.length + s.size ≤ 140737488355328) :
    Calls Tryz.prog 49 #[.pointer (some ⟨b, 0, none⟩), .string s] w fun e w' => e = .returned (.tuple #[.int .i64 s.size, .nilIface]) ∧ Bld w0 B b (l ++ s.data.toList) w' ∧ Lib.OthersKept 5 (some b) w w' ∧ Below B w w' := by
  obtain ⟨h1, h2, h3⟩ := h
  refine (Any.Builder_WriteString_k blays166 bextra B b (Lib.byteCells l) s w h1 (by simpa [Lib.byteCells] using hl) (Nat.le_trans h3 h2.size)).mono ?_
  rintro e w' ⟨rfl, h4, h5, h6⟩
  refine ⟨rfl, ⟨.inr ?_, h2.trans h5, h3⟩, h6, h5⟩
  have e1 : Lib.byteCells (l ++ s.data.toList) = Lib.byteCells l ++ Lib.strCells s := by simp [Lib.byteCells, Lib.strCells]
  rw [e1]; exact h4
theorem Bld.read_k {w0 w : World} {B b : Nat} {l : List UInt8} (h : Bld w0 B b l w) :
    Calls Tryz.prog 51 #[.pointer (some ⟨b, 0, none⟩)] w fun e w' => e = .returned (.string ⟨l.toArray⟩) ∧ Bld w0 B b l w' ∧ Lib.OthersKept 5 (some b) w w' ∧ Below B w w' := by
  obtain ⟨h1, h2, h3⟩ := h
  refine (Tryz.Builder_String_any_k B b l w h1 (Nat.le_trans h3 h2.size)).mono ?_
  rintro e w' ⟨rfl, h4, h5, h6⟩
  exact ⟨rfl, ⟨h4, h2.trans h5, h3⟩, h6, h5⟩
theorem bld_own {β : Type} (w0 : World) (B b B' : Nat) (f : β → List UInt8) (hB : B ≤ B') : OwnFrom B' (fun s W => Bld w0 B b (f s) W) := by
  intro s X Y row h hg hr
  obtain ⟨h1, h2, h3⟩ := h
  have hne : ∀ k c t fz, X.heap[k]? = some (Obj.cells c t fz) → Y.heap[k]? = X.heap[k]? := fun k c t fz hk => hg.block k (Array.getElem?_eq_some_iff.1 hk).1 (fun e => by
    obtain ⟨_, o, ho, hc⟩ := hr k e.symm
    rw [hk] at ho; cases ho; cases hc)
  have go : ∀ p, Lib.BuilderAtF 81 5 B b p (Lib.byteCells (f s)) X → Lib.BuilderAtF 81 5 B b p (Lib.byteCells (f s)) Y := by
    rintro p ⟨k1, v, k2, ⟨k3, k4⟩, k5⟩
    refine ⟨k1, v, (hne b _ _ _ k2).trans k2, ⟨k3, ?_⟩, k5⟩
    rcases k4 with k4 | ⟨g, cap, cur, fz, j1, j2, j3, j4⟩
    · exact .inl k4
    · exact .inr ⟨g, cap, cur, fz, j1, j2, (hne g _ _ _ j3).trans j3, j4⟩
  exact ⟨h1.imp (go _) (go _), h2.grown hg (Nat.le_trans h3 h2.size) (fun r e => Nat.le_trans hB (hr r e).1), h3⟩
theorem kept_blk {w w' : World} {e : TypeId} {b k : Nat} {cs : List Value} {T : TypeId} (h : Lib.OthersKept e (some b) w w') (hk : Blk w k cs T) (hT : T ≠ e) (hb : k ≠ b) : Blk w' k cs T :=
  h k _ hk (by simpa using hb) (fun c fz hh => by cases hh; exact hT rfl)
/-- What a round of content keeps. -/
def CI (w : World) (st : List UInt8) (base jb len half q : Nat) (pre : List Nat) (W : World) : Prop :=
  Bld w w.heap.size (w.heap.size + 1) (pre.flatMap (fun k => sec st (base + k))) W ∧ Blk W w.heap.size [.pointer (some ⟨jb, 0, none⟩)] 29 ∧
    Blk W (q + 3) [.int .i64 (len : Int)] 3 ∧ Blk W (q + 2) [.int .i64 ((0 : Nat) : Int)] 3 ∧ Blk W (q + 1) [.int .i64 (half : Int)] 3 ∧ Blk W q [.pointer (some ⟨jb, 0, none⟩)] 29
/-- All blocks but those that the iterator reads. -/
def FI (q jb : Nat) (k : Nat) : Prop := k ≠ q + 3 ∧ k ≠ q + 2 ∧ k ≠ q + 1 ∧ k ≠ q ∧ k ≠ jb
/-- What the end of content keeps. -/
def CP (w : World) (l : List UInt8) (jb len D : Nat) (x : World) : Prop :=
  Bld w w.heap.size (w.heap.size + 1) l x ∧ Blk x w.heap.size [.pointer (some ⟨jb, 0, none⟩)] 29 ∧ x.heap[D]? = some (.deferred (some [])) ∧ x.cell? ⟨w.heap.size, 0, none⟩ = some (.pointer (some ⟨jb, 0, none⟩)) ∧ x.cell? ⟨jb, 2, none⟩ = some (.int .i64 (len : Int))
theorem blk_ownR {β : Type} (k : Nat) (cs : List Value) (t : TypeId) : Own (fun (_ : β) W => Blk W k cs t) := by
  intro s X Y row h hg hr
  refine (hg.block k h.lt (fun e => ?_)).trans h
  obtain ⟨o, ho, hc⟩ := hr k e.symm
  rw [show X.heap[k]? = _ from h] at ho; cases ho; cases hc
theorem CI_own (w : World) (st : List UInt8) (base jb len half q B : Nat) (hB : w.heap.size ≤ B) : OwnFrom B (CI w st base jb len half q) :=
  OwnFrom.and (bld_own _ _ _ _ _ hB) (OwnFrom.and (Own.from (blk_ownR _ _ _) _) (OwnFrom.and (Own.from (blk_ownR _ _ _) _) (OwnFrom.and (Own.from (blk_ownR _ _ _) _) (OwnFrom.and (Own.from (blk_ownR _ _ _) _) (Own.from (blk_ownR _ _ _) _)))))
set_option maxRecDepth 100000 in
set_option maxHeartbeats 400000 in
theorem content_any {w : World} {jb b bs bm n a : Nat} {pv rv : Value} {br : Bool} {v : Nat × Nat × Nat} {d : DD} (hd : DiskAt w b bs bm pv d n) (hon : d.on = true) (hn : 4 ≤ n) (hj : Blk w jb (cellsJ v a ((n - 2) / 2) b rv br) 63) (h1 : v.2.1 ≤ 1) (h2 : v.2.2 ≤ 32 * ((n - 2) / 2)) :
    Calls Tryz.prog 36 #[.pointer (some ⟨jb, 0, none⟩)] w fun e w' => e = .returned (.string (tx (half (eff d) ((n - 2) / 2) v.2.1 v.2.2))) ∧ Below w.heap.size w w' := by
  have hn2 := hd.ok.n2
  obtain ⟨num, h, len⟩ := v
  dsimp only at h1 h2 ⊢
  obtain ⟨size, es⟩ : ∃ size, size = (n - 2) / 2 := ⟨_, rfl⟩
  rw [← es] at hj h2 ⊢
  have hhs : h * size ≤ size := by
    have : h = 0 ∨ h = 1 := by omega
    rcases this with rfl | rfl <;> simp
  have hL : 32 * (2 + h * size + (len + 31) / 32) ≤ (eff d).length := by rw [eff_len hd.ok]; omega
  have HSE := Lib.hid (half_secs (eff d) size h len hL)
  have HLE := Lib.hid (flat_secs_len hL)
  have HSL : Hid (∀ k, k ∈ ksOf 0 len → 2 + h * size + k < n ∧ (sec (eff d) (2 + h * size + k)).length = 32) := fun k hk => by
    unfold ksOf at hk
    rw [List.mem_range'_1] at hk
    exact ⟨by omega, sec_len (by rw [eff_len hd.ok]; omega)⟩
  have HD := Lib.hid (fun (w' : World) (hb : Below w.heap.size w w') (s : Nat) (hs : s < n) => jread_on (jb := jb) (w := w') (by exact (hj.below hb hj.lt).cellD 5 _ rfl) (hd.below hb) hon s hs)
  have HJ := Lib.hid hj
  have hlen : len ≤ 64000 := by omega
  have HB0 := Lib.hid (Below.refl w.heap.size w)
  obtain ⟨res, eres⟩ : ∃ res, res = tx (half (eff d) size h len) := ⟨_, rfl⟩
  rw [← eres]
  have ER := Lib.hid eres
  clear hd hon hj eres hL
  obtain ⟨st, est⟩ : ∃ st, st = eff d := ⟨_, rfl⟩
  rw [← est] at HSE HLE HSL HD ER
  clear est
  have hmf : ∀ (fn : Fn) (first cap : Array Value) (w : World), (Instr.makeFunc fn first cap).run Tryz.prog w = .ok (.func fn first cap) w := fun _ _ _ _ => rfl
  refine calls_at 4 Tryz.func36 rfl ?_
  simp only [Tryz.ntmps36, List.size_toArray, List.length_cons, List.length_nil, Nat.reduceAdd, Nat.reduceSub, Array.replicate_succ, Array.replicate_zero, List.push_toArray, List.append_toArray, List.nil_append, List.cons_append]
  refine wpAt_seq (wpAt_of_wp ?_)
  go_wp2_with fail
  refine wpAt_seq (wpAt_of_wp ?_)
  go_wp2_with fail
  refine wpAt_seq (wpAt_seq (wpAt_of_wp ?_))
  go_wp2_with fail
  obtain ⟨V, eV⟩ : ∃ V, V = (w.alloc (.cells #[.pointer (some ⟨jb, 0, none⟩)] 29)).alloc (.cells #[.pointer none, .slice none 0 0] 81) := ⟨_, rfl⟩
  have HBV : Hid (Below w.heap.size w V) := by rw [eV]; exact ((Below.refl _ w).alloc (Nat.le_refl _) _).alloc (by simp) _
  have kJ : Hid (Blk V w.heap.size [.pointer (some ⟨jb, 0, none⟩)] 29) := by rw [eV]; exact (Blk.new w _ _).alloc _
  have kB : Hid (Bld w w.heap.size (w.heap.size + 1) [] V) := by
    rw [eV]
    have := Bld.new w (w.alloc (.cells #[.pointer (some ⟨jb, 0, none⟩)] 29)) w.heap.size ((Below.refl _ w).alloc (Nat.le_refl _) _) (Nat.le_refl _)
    rw [show (w.alloc (.cells #[.pointer (some ⟨jb, 0, none⟩)] 29)).heap.size = w.heap.size + 1 by simp] at this
    exact this
  have VS : Hid (V.heap.size = w.heap.size + 2) := by rw [eV]; show _ = _; simp
  rw [← eV]
  clear eV
  have c0 := kJ.out.cellD 0 _ rfl
  have hjV := HJ.out.below HBV.out HJ.out.lt
  have c1 := hjV.cellD 1 _ rfl
  have c2 := hjV.cellD 2 _ rfl
  dsimp only at c1 c2
  refine Free.wp_region_free 11 [] (fun y => Below V.heap.size V y ∧ y.cell? ⟨w.heap.size, 0, none⟩ = some (.pointer (some ⟨jb, 0, none⟩)) ∧ y.cell? ⟨jb, 1, none⟩ = some (.int .i64 (h : Int)) ∧ y.cell? ⟨jb, 2, none⟩ = some (.int .i64 (len : Int))) (by kernel_rfl) (by kernel_rfl) (Free.mono_det (fun j mk r hf => by cases hf)) ⟨(Below.refl _ _).drew, c0, c1, c2⟩
    (fun _ _ h g => ⟨h.1.trans (Below.mono g h.1.size), cell_grw h.2.1 g, cell_grw h.2.2.1 g, cell_grw h.2.2.2 g⟩) ?_
  simp only [List.take_succ_cons, List.take_zero]
  clear c0 c1 c2 hjV
  iterate 11 (apply Free.chain_still (by first | exact Free.wanted_of rfl rfl rfl | rfl) rfl; (intro w' hB hA; obtain ⟨qB, q1, q2, q3⟩ := hB; clear hA  qB; go_light; go_simp <;> rfl); (try simp only [Act.put, List.setIfInBounds_toArray, List.set_cons_succ, List.set_cons_zero]))
  apply Free.chain_nil
  intro V1 hB1 _ _
  simp only [List.drop_succ_cons, List.drop_zero]
  have HB1 := Lib.hid (HBV.out.trans (hB1.1.mono HBV.out.size))
  have KB1 := Lib.hid (kB.out.grow hB1.1)
  have KJ1 := Lib.hid (kJ.out.below hB1.1 kJ.out.lt)
  have VS1 : Hid (w.heap.size + 2 ≤ V1.heap.size) := by have := hB1.1.size; rw [VS.out] at this; exact this
  clear hB1 kB kJ HBV VS
  go_wp2_with fail
  refine (sectors_any jb h 0 len).mono ?_
  rintro e w' ⟨rfl, hw'⟩
  obtain ⟨q, eq⟩ : ∃ q, q = V1.heap.size := ⟨_, rfl⟩
  rw [← eq]
  rw [← eq] at VS1
  have HBW : Hid (Below w.heap.size w w') := by
    rw [hw']
    exact (((HB1.out.alloc HB1.out.size _).alloc (by have := HB1.out.size; simp; omega) _).alloc (by have := HB1.out.size; simp; omega) _).alloc (by have := HB1.out.size; simp; omega) _
  have HI0 : Hid (CI w st (2 + h * size) jb len h q [] w') := by
    rw [hw', eq]
    refine ⟨?_, (((KJ1.out.alloc _).alloc _).alloc _).alloc _, ?_, ?_, ?_, ?_⟩
    · exact (((KB1.out.grow ((Below.refl _ _).alloc (Nat.le_refl _) _)).grow ((Below.refl _ _).alloc (Nat.le_refl _) _)).grow ((Below.refl _ _).alloc (Nat.le_refl _) _)).grow ((Below.refl _ _).alloc (Nat.le_refl _) _)
    · exact new_at (by simp)
    · exact old_at (new_at (by simp))
    · exact old_at (old_at (new_at (by simp)))
    · exact old_at (old_at (old_at (new_at rfl)))
  have hsz : w'.heap.size = q + 4 := by rw [hw', eq]; simp
  have hjb : jb < w.heap.size := HJ.out.lt
  have hq : w.heap.size + 2 ≤ q := VS1.out
  have HSA : Hid (SecAt w' (q + 3) (q + 2) (q + 1) q jb len 0 h size) :=
    ⟨HI0.out.2.2.1.cellD 0 _ rfl, HI0.out.2.2.2.1.cellD 0 _ rfl, HI0.out.2.2.2.2.1.cellD 0 _ rfl, HI0.out.2.2.2.2.2.cellD 0 _ rfl, (HJ.out.below HBW.out HJ.out.lt).cellD 4 _ rfl⟩
  obtain ⟨base, eb⟩ : ∃ base, base = 2 + h * size := ⟨_, rfl⟩
  have EB := Lib.hid eb
  rw [← eb] at HI0 HSE HLE HSL
  clear hw' eb KB1 KJ1 HB1 eq
  go_wp2_with fail
  refine wpAt_block ?_
  refine wp_rangeP (α := Nat) (n := 4) (encs := encK base) (F := FI q jb) (gf := 76) rfl (enters_of Tryz.func76 (by kernel_rfl) rfl) (fun k hk => ⟨by omega, by omega, by omega, by omega, by omega⟩)
    (EB.out ▸ sectors_seq 3 (q + 3) (q + 2) (q + 1) q jb (by decide) (FI q jb) h 0 len size (fun h => h.1 rfl) (fun h => h.2.1 rfl) (fun h => h.2.2.1 rfl) (fun h => h.2.2.2.1 rfl) (fun h => h.2.2.2.2 rfl) h1 (by omega) (by omega) (by omega) w' HSA.out) (fun _ => rfl)
    (CI w st base jb len h q) (fun _ _ => False) (CI_own w st base jb len h q _ (by omega)) HI0.out ?a1 ?assign ?body ?done ?panic
  case panic => intro D ch W _ hf _; exact hf.elim
  case assign =>
    intro l x W K hK
    gi_wp2
    exact hK
  case body =>
    clear HI0 HSA
    go_light
    rintro l pre k W hCI hNx
    have HCI := Lib.hid hCI
    have hk : k ∈ ksOf 0 len := hNx.subset (by simp)
    obtain ⟨hs1, hs2⟩ := HSL.out k hk
    have hpl : (pre.flatMap (fun k => sec st (base + k))).length ≤ 100000000 := by
      have h1 : ∀ x ∈ pre, (sec st (base + x)).length = 32 := fun x hx => (HSL.out x (hNx.subset (by simp [hx]))).2
      have h2 : pre.length ≤ (ksOf 0 len).length := by have := hNx.length_le; simp at this; omega
      have h3 : (ksOf 0 len).length ≤ 4000 := by unfold ksOf; rw [List.length_range']; omega
      have h4 : ∀ p : List Nat, (∀ x ∈ p, (sec st (base + x)).length = 32) → (p.flatMap (fun k => sec st (base + k))).length = 32 * p.length := fun p => by
        induction p with
        | nil => intro _; rfl
        | cons y p ih =>
          intro h
          rw [List.flatMap_cons, List.length_append, h y (by simp), ih (fun x hx => h x (by simp [hx])), List.length_cons]; omega
      rw [h4 pre h1]; omega
    have c0 := hCI.2.1.cellD 0 _ rfl
    obtain ⟨s, hse⟩ : ∃ s : Nat, s = base + k := ⟨_, rfl⟩
    have es : (s : Int) = (base : Int) + (k : Int) := by omega
    have RD := Lib.hid (HD.out W hCI.1.bl s (by omega))
    have WS := Lib.hid (hCI.1.str_k (tx (sec st s)) (by rw [tx_size, hse, hs2]; omega))
    rw [tx_data] at WS
    obtain ⟨x, ex⟩ : ∃ x, x = tx (sec st s) := ⟨_, rfl⟩
    rw [← ex] at RD WS
    rw [← es]
    have HSX := Lib.hid hse
    clear hNx hk hs1 hs2 hpl hCI ex es hse
    gi_wp2
    refine ⟨trivial, Free.calls_in ?_⟩
    refine RD.out.mono ?_
    rintro e w2 ⟨rfl, rfl⟩
    gi_wp2
    refine ⟨trivial, Free.calls_in ?_⟩
    refine WS.out.mono ?_
    rintro e w2 ⟨rfl, hb2, ho2, hl2⟩
    have FIN : Hid (KeepsFrom w'.heap.size W w2 ∧ Keep (FI q jb) W w2 ∧ CI w st base jb len h q (pre ++ [k]) w2) := by
      obtain ⟨k1, k2, k3, k4, k5, k6⟩ := HCI.out
      have n1 := kept_blk ho2 k2 (by decide) (by omega)
      have n2 := kept_blk ho2 k3 (by decide) (by omega)
      have n3 := kept_blk ho2 k4 (by decide) (by omega)
      have n4 := kept_blk ho2 k5 (by decide) (by omega)
      have n5 := kept_blk ho2 k6 (by decide) (by omega)
      refine ⟨⟨?_, fun j o hj ho hc => ho2 j o ho (by simp; omega) (fun c fz e => by rw [e] at hc; cases hc)⟩, ⟨hl2.os, hl2.tape, hl2.output, ?_, fun j hj hF => ?_⟩, ?_, n1, n2, n3, n4, n5⟩
      · exact hl2.size
      · exact hl2.size
      · rcases Classical.em (j < w.heap.size) with hjw | hjw
        · exact hl2.block j hjw
        · have : j = q + 3 ∨ j = q + 2 ∨ j = q + 1 ∨ j = q := by unfold FI at hF; omega
          rcases this with rfl | rfl | rfl | rfl
          · exact n2.trans k3.symm
          · exact n3.trans k4.symm
          · exact n4.trans k5.symm
          · exact n5.trans k6.symm
      · rw [List.flatMap_append, List.flatMap_cons, List.flatMap_nil, List.append_nil, ← HSX.out]; exact hb2
    clear hb2 ho2 hl2 RD WS HCI
    gi_wp2
    exact FIN.out
  case done =>
    clear HI0 HSA
    go_light
    rintro D xs W hD rfl hCI hmk
    have HCI := Lib.hid hCI
    have c0 := hCI.2.1.cellD 0 _ rfl
    refine wpAt_seq (n := 4) (wpAt_of_wp (n := 4) ?_)
    dsimp only
    have HLD : Hid (len ≤ (List.flatMap (fun k => sec st (base + k)) (if len = 0 then [] else ksOf 0 len)).length) := HLE.out
    obtain ⟨l, el⟩ : ∃ l, l = List.flatMap (fun k => sec st (base + k)) (if len = 0 then [] else ksOf 0 len) := ⟨_, rfl⟩
    have hB := hCI.1
    rw [← el] at hB HLD HSE
    have kJ := hCI.2.1
    have c2 := (HJ.out.below hB.bl HJ.out.lt).cellD 2 _ rfl
    dsimp only at c2
    have E2 : Hid (∀ y, Bld w w.heap.size (w.heap.size + 1) l y → y.cell? ⟨jb, 2, none⟩ = some (.int .i64 (len : Int))) := fun y hy => (HJ.out.below hy.bl HJ.out.lt).cellD 2 _ rfl
    letI : Fre2.Rel := ⟨fun x y => CP w l jb len D x → CP w l jb len D y, fun _ h => h, fun _ _ _ h k x => k (h x)⟩
    refine Fre2.wp_region_free 6 [(0, .det (.string ⟨l.toArray⟩))] (CP w l jb len D) (by kernel_rfl) (by kernel_rfl) ?_ ⟨hB.grow (drewN_below W 1), kJ, hmk, c0, c2⟩
      (fun _ _ h g => g h) ?_
    · exact Fre2.mono_det (fun j mk r hf => by simp only [Free.find] at hf; repeat' (first | cases hf | split at hf))
    simp only [List.take_succ_cons, List.take_zero]
    clear c0 c2 hB kJ hmk hCI
    apply Fre2.chain_det (by first | exact Free.wanted_of rfl rfl rfl | rfl) rfl
    · intro y hB' _
      refine Free.opRun_call (f := 51) (args := #[.pointer (some ⟨w.heap.size + 1, 0, none⟩)]) (by clear hB'; go_simp <;> rfl) ?_
      refine (hB'.1.read_k).mono ?_
      rintro e w3 ⟨rfl, hb3, ho3, _⟩
      have kk := kept_blk ho3 hB'.2.1 (by decide) (by omega)
      exact ⟨_, rfl, fun _ => ⟨hb3, kk, ho3 D _ hB'.2.2.1 (by simp; omega) (fun c fz e => by cases e), kk.cellD 0 _ rfl, E2.out _ hb3⟩, rfl⟩
    simp only [Act.put, List.setIfInBounds_toArray, List.set_cons_succ, List.set_cons_zero]
    iterate 5 (apply Fre2.chain_still (by first | exact Free.wanted_of rfl rfl rfl | rfl) rfl; (intro w' hB hA; obtain ⟨qB, qJ, qD, q0, q2⟩ := hB; clear hA  qB qJ qD; go_light; go_simp <;> rfl); (try simp only [Act.put, List.setIfInBounds_toArray, List.set_cons_succ, List.set_cons_zero]))
    apply Fre2.chain_nil
    intro w4 hB4 _ _
    simp only [List.drop_succ_cons, List.drop_zero]
    have HB4 := Lib.hid hB4
    have HX : Hid ((⟨l.toArray⟩ : ByteArray).extract 0 len = res) := by
      show _ = _
      rw [ER.out, ← HSE.out]
      apply ByteArray.ext
      simp [tx]
    have hle : len ≤ (⟨l.toArray⟩ : ByteArray).size := by show len ≤ l.toArray.size; simpa using HLD.out
    obtain ⟨x, ex⟩ : ∃ x : ByteArray, x = ⟨l.toArray⟩ := ⟨_, rfl⟩
    rw [← ex] at HX hle ⊢
    clear hB4 ex
    go_wp2_with fail
    rw [HX.out]
    refine wpAt_of_wp (n := 4) ?_
    go_wp2_with fail
    refine ⟨by simp, .inl ⟨D, _, rfl, run_takeDeferred HB4.out.2.2.1, ?_⟩⟩
    refine ⟨_, results_tmp rfl _ _ _, rfl, ?_⟩
    exact HB4.out.1.bl.grown (grownBy_putObj' _ D _) (by have := HB4.out.1.bl.size; omega) (fun k e => by cases e; omega)
end Go.Proofs.YthfjaaigncjhlaaGreatDoor
