/- Package disclose: Prove. Condition: the variables of digest and of strconv hold their numbers; texts of at most 10^9 bytes. -/
import Derived.Test.YtamiaalfjmppaaaDoorDi4
import Derived.Maps.AppendAt
import Derived.RangeFuncBox
import Derived.Lib.OwnBridge
namespace Go.Proofs.YtamiaalfjmppaaaDoor
open Go.RowKit Go.Blk Go.Shelf Go.Rf Go.Opn Go.Di
attribute [local go_sem] Oper.semAt_some

theorem infoStr : (Tryd.prog.info? 9).map (fun i => (i.zero, i.size, i.bytes)) = some (some (.string ⟨#[]⟩), 1, 16) := by kernel_rfl
theorem row_form {w : World} {B e s n : Nat} {v : Value} {xs : List Value} (h : w.ownsRow B e s v n xs) : ∃ A c, v = .slice A n c := by
  obtain ⟨_, ⟨h1, h2⟩ | ⟨g, cap, cur, h1, _⟩⟩ := h
  · exact ⟨none, 0, by rw [h1, h2]⟩
  · exact ⟨_, _, h1⟩
theorem row_below {w w' : World} {B e s n : Nat} {v : Value} {xs : List Value} (h : w.ownsRow B e s v n xs) (hb : Below w.heap.size w w') : w'.ownsRow B e s v n xs :=
  h.kept (grown_of hb) (by cases v.ownBlock <;> simp)
def PV (w : World) (l : List ByteArray) (pre : List (Nat × Bool)) (W : World) : Prop :=
  ((∃ v, Boxed W w.heap.size 23 v ∧ W.ownsRow w.heap.size 9 1 v (outP l pre).length ((outP l pre).map Value.string) ∧ True) ∧
    (∃ A' c', Boxed W (w.heap.size + 1) 23 (.slice A' (restP l pre).length c') ∧ (restP l pre).length ≤ c' ∧ SL w 1 encS A' (restP l pre))) ∧ Below w.heap.size w W
theorem PV_own (w : World) (l : List ByteArray) (B : Nat) (hB : w.heap.size ≤ B) : OwnFrom B (PV w l) :=
  OwnFrom.and (OwnFrom.and (Own.from (holdsRow_own w.heap.size w.heap.size 23 9 1 (fun pre => (outP l pre).length) (fun pre => (outP l pre).map Value.string) (fun _ _ => True)) _)
    (fun s X Y row h hg hr => by
      obtain ⟨A', c', h1, h2, h3⟩ := h
      exact ⟨A', c', h1.kept hg (fun e => by obtain ⟨_, o, ho, hc⟩ := hr _ e.symm; rw [show X.heap[w.heap.size + 1]? = _ from h1] at ho; cases ho; cases hc), h2, h3⟩)) (ownFrom_below (Nat.le_refl _) hB)
theorem put_block {w : World} {n g k : Nat} {d : Array (List UInt8)} (h : k ≠ g) : (Sort.putRow Go.Proofs.encStr (Sort.ahead w n) g 0 d).heap[k]? = w.heap[k]? := by
  unfold Sort.putRow Sort.mapBlock Sort.ahead
  simp only [Array.getElem?_modify]
  rw [if_neg (fun e => h e.symm)]
theorem enc_str (l : List ByteArray) : l.map Value.string = (l.map (fun b => b.data.toList)).map Go.Proofs.encStr := by
  rw [List.map_map]
  apply List.map_congr_left
  intro b _
  show Value.string b = Value.string ⟨b.data.toList.toArray⟩
  simp
theorem sl_own {w : World} {B g n cap : Nat} {l : List ByteArray} (h : w.ownsRow B 9 1 (.slice (some ⟨g, 0, none⟩) n cap) n (l.map Value.string)) : SL w 1 encS (some ⟨g, 0, none⟩) l := by
  refine ⟨fun _ => ⟨g, 0, rfl, fun i e hi p u hu => ?_⟩⟩
  have hp : p = 0 := by
    have := (List.getElem?_eq_some_iff.1 hu).1
    simp [encS] at this; omega
  subst hp
  cases hu
  have hl : l.length = n := by simpa using h.1
  rw [Nat.zero_add, Nat.mul_one, Nat.add_zero, h.cellAt i (by have := (List.getElem?_eq_some_iff.1 hi).1; omega), List.getElem?_map, hi]; rfl
theorem pv_end {w W wy w5 : World} {l out rest' : List ByteArray} {pre' : List (Nat × Bool)} {v0 v1 : Value} {g cap c1 : Nat} {rb : ByteArray} {A' : Option Addr} (B : Nat) (hB : Below w.heap.size w W) (hbW : Below W.heap.size W wy)
    (hrow : wy.ownsRow w.heap.size 9 1 v0 out.length (out.map Value.string)) (hgr : wy.grownBy w5 v0.ownBlock) (hown : w5.ownsRow w.heap.size 9 1 (.slice (some ⟨g, 0, none⟩) (out.length + 1) cap) (out.length + 1) (out.map Value.string ++ [.string rb]))
    (hv5 : Boxed w5 w.heap.size 23 v0) (h75 : Boxed w5 (w.heap.size + 1) 23 v1) (hsl : SL w 1 encS A' rest') (eO : outP l pre' = out ++ [rb]) (eR : restP l pre' = rest') (hc : rest'.length ≤ c1) :
    KeepsFrom B W ((w5.setCell ⟨w.heap.size, 0, none⟩ (.slice (some ⟨g, 0, none⟩) (out.length + 1) cap)).setCell ⟨w.heap.size + 1, 0, none⟩ (.slice A' rest'.length c1)) ∧
    Below w.heap.size W ((w5.setCell ⟨w.heap.size, 0, none⟩ (.slice (some ⟨g, 0, none⟩) (out.length + 1) cap)).setCell ⟨w.heap.size + 1, 0, none⟩ (.slice A' rest'.length c1)) ∧
    PV w l pre' ((w5.setCell ⟨w.heap.size, 0, none⟩ (.slice (some ⟨g, 0, none⟩) (out.length + 1) cap)).setCell ⟨w.heap.size + 1, 0, none⟩ (.slice A' rest'.length c1)) := by
  have hb : Below w.heap.size W ((w5.setCell ⟨w.heap.size, 0, none⟩ (.slice (some ⟨g, 0, none⟩) (out.length + 1) cap)).setCell ⟨w.heap.size + 1, 0, none⟩ (.slice A' rest'.length c1)) :=
    (((hbW.mono hB.size).grown hgr (Nat.le_trans hB.size hbW.size) (fun k e => (hrow.lt k e).1)).setCell (p := ⟨w.heap.size, 0, none⟩) (Nat.le_refl _) _).setCell (p := ⟨w.heap.size + 1, 0, none⟩) (by show _ ≤ w.heap.size + 1; omega) _
  have k2 : KeepsOthers wy w5 := KeepsOthers.of_grownBy hgr fun j o ej hj => by
    rcases hrow.2 with ⟨rfl, _⟩ | ⟨g', cap', cur, rfl, _, hgb, _⟩
    · simp [Value.ownBlock] at ej
    · obtain rfl : g' = j := by simpa [Value.ownBlock] using ej
      rw [hgb] at hj; cases hj; rfl
  refine ⟨((((keeps_of hbW).trans k2).trans (KeepsOthers.setCell _ _ _)).trans (KeepsOthers.setCell _ _ _)).from _, hb, ⟨⟨.slice (some ⟨g, 0, none⟩) (out.length + 1) cap, ?_, ?_, trivial⟩, A', c1, ?_, ?_, ?_⟩, hB.trans hb⟩
  · exact (hv5.set _).other (by omega) _
  · rw [eO]
    have r5 := hown.kept (grownBy_setCell' w5 w.heap.size (.slice (some ⟨g, 0, none⟩) (out.length + 1) cap)) (.inr (hv5.not_row (by decide) hown).symm)
    have r6 := r5.kept (grownBy_setCell' _ (w.heap.size + 1) (.slice A' rest'.length c1)) (.inr ((h75.other (by omega) _).not_row (by decide) r5).symm)
    simpa using r6
  · rw [eR]; exact (h75.other (by omega) _).set _
  · rw [eR]; exact hc
  · rw [eR]; exact hsl
set_option maxRecDepth 100000 in
set_option maxHeartbeats 4000000 in
theorem prove_in (l : List ByteArray) (A : Option Addr) (c i : Nat) (w : World) (R : Ending → World → Prop) (hi : i < l.length) (hc : l.length ≤ c) (hn : l.length < 1000000000) (hs : SL w 1 encS A l) (hsh : Short l) (hT : HasT w)
    (hR : ∀ w' A' c', Below w.heap.size w w' → (pathL l i).length ≤ c' → SL w' 1 encS A' (pathL l i) → R (.returned (.tuple #[.slice A' (pathL l i).length c', .int .i64 0])) w') :
    Calls Tryd.prog 18 #[.slice A l.length c, .int .i64 (i : Int)] w R := by
  have HT := Lib.hid hT
  have HS := Lib.hid hs
  have HR := Lib.hid hR
  have HSH := Lib.hid hsh
  clear hT hs hR hsh
  have g1 : decide ((i : Int) < 0) = false := decide_eq_false (by omega)
  have g2 : decide ((l.length : Int) ≤ (i : Int)) = false := decide_eq_false (by omega)
  refine calls_marks 4 Tryd.func18 rfl ?_
  simp only [Tryd.ntmps18, List.size_toArray, List.length_cons, List.length_nil, Nat.reduceAdd, Nat.reduceSub, Array.replicate_succ, Array.replicate_zero, List.push_toArray, List.append_toArray, List.nil_append, List.cons_append]
  go_wp2_with fail
  refine (levels_any i l.length _).mono ?_
  rintro e w' ⟨rfl, rfl⟩
  go_wp2_with fail
  have hsz : ((((w.alloc (.cells #[.slice none 0 0] 23)).alloc (.cells #[.slice A l.length c] 23)).alloc (.cells #[.int .i64 (i : Int)] 3)).alloc (.cells #[.int .i64 (l.length : Int)] 3)).heap.size = w.heap.size + 4 := by simp
  have HB0 : Hid (Below w.heap.size w ((((w.alloc (.cells #[.slice none 0 0] 23)).alloc (.cells #[.slice A l.length c] 23)).alloc (.cells #[.int .i64 (i : Int)] 3)).alloc (.cells #[.int .i64 (l.length : Int)] 3))) :=
    ((((Below.refl _ w).alloc (Nat.le_refl _) _).alloc (by simp) _).alloc (by simp; omega) _).alloc (by simp; omega) _
  obtain ⟨W0, eW0⟩ : ∃ W0, W0 = ((((w.alloc (.cells #[.slice none 0 0] 23)).alloc (.cells #[.slice A l.length c] 23)).alloc (.cells #[.int .i64 (i : Int)] 3)).alloc (.cells #[.int .i64 (l.length : Int)] 3)) := ⟨_, rfl⟩
  have HI0 : Hid (PV w l [] W0) := by
    rw [eW0]
    refine ⟨⟨⟨.slice none 0 0, ?_, World.ownsRow_nil _ _ _ _, trivial⟩, A, c, ?_, hc, HS.out⟩, HB0.out⟩
    · exact old_at (old_at (old_at (new_at rfl)))
    · exact old_at (old_at (new_at (by simp)))
  have b1 : W0.cell? ⟨w.heap.size + 1 + 1, 0, none⟩ = some (.int .i64 (i : Int)) := by rw [eW0]; exact Boxed.cell (t := 3) (old_at (new_at (by simp)))
  have b2 : W0.cell? ⟨w.heap.size + 1 + 1 + 1, 0, none⟩ = some (.int .i64 (l.length : Int)) := by rw [eW0]; exact Boxed.cell (t := 3) (new_at (by simp))
  rw [← eW0] at hsz HB0 ⊢
  clear eW0
  refine wp_rangeX (α := Nat × Bool) (encs := encL) (n0 := w.heap.size) 4 (by decide) rfl (enters_of Tryd.func77 (by kernel_rfl) rfl) (by omega) (levels_seq 3 _ _ _ i l.length (by decide) (by omega) (by omega) W0 b1 b2) (fun _ => rfl)
    (PV w l) (fun _ _ _ => False) (PV_own w l _ (by omega)) (fun _ _ _ _ _ hs _ _ => hs) HI0.out ?a1 ?assign ?body ?done ?stop
  case stop =>
    rintro D c pre W _ _ h _
    exact h.elim
  case assign =>
    intro l x W K hK
    gi_wp2
    exact hK
  case body =>
    clear HI0 b1 b2
    have HSZ := Lib.hid hsz
    clear hsz
    go_light
    rintro r pre ⟨k, b⟩ W hPV hNx
    obtain ⟨m2, hk, hml⟩ := next_ok pre i l (by omega) hNx
    have HPV := Lib.hid hPV
    obtain ⟨⟨⟨v, hv, hrow, _⟩, A', c', hb7, hc', hsl⟩, hB⟩ := hPV
    have hpl : pre.length < l.length := by
      have h1 := hNx.length_le
      have h2 := lev_len l.length i
      simp at h1; omega
    have hol := outP_length pre l
    have hrs := HSH.out.rest pre
    have EO := Lib.hid (outP_snoc (k, b) pre l)
    have ER := Lib.hid (restP_snoc (k, b) pre l)
    obtain ⟨rest, erest⟩ : ∃ rest, rest = restP l pre := ⟨_, rfl⟩
    obtain ⟨out, eout⟩ : ∃ out, out = outP l pre := ⟨_, rfl⟩
    rw [← erest] at m2 hk hml hb7 hc' hsl hrs EO ER
    rw [← eout] at hrow hol EO
    obtain ⟨Ar, cr, rfl⟩ := row_form hrow
    obtain ⟨bb, oo, rfl, _⟩ := hsl.cells (fun e => by rw [e] at m2; simp at m2)
    obtain ⟨k1, k2, _, _⟩ := half_facts rest.length m2 (by omega)
    have k0 := half_pos rest.length
    rw [← hk] at k0 k1 k2
    obtain ⟨m, em⟩ : ∃ m, m = rest.length := ⟨_, rfl⟩
    rw [← em] at m2 hml hb7 hc' k1 k2
    have hol2 : out.length < l.length := by omega
    clear hol
    have hvc := hv.cell
    have h7c := hb7.cell
    clear erest eout hk hNx
    cases b with
    | true =>
      have CR : Hid (∀ w', Below W.heap.size W w' → Calls Tryd.prog 16 #[.slice (some ⟨bb, oo + k, none⟩) (m - k) (c' - k)] w' fun e w2 => e = .returned (.string (rootL (rest.drop k))) ∧ Below w'.heap.size w' w2) := fun w' hb => by
        have := root_any (rest.drop k) (some ⟨bb, oo + k, none⟩) (c' - k) w' (by rw [List.length_drop]; omega) (by rw [List.length_drop]; omega) (sl_drop (hsl.below (hB.trans (hb.mono hB.size)) (Nat.le_refl _))) (hrs.drop _) (HT.out.below (hB.trans (hb.mono hB.size)) (Nat.le_refl _))
        rw [List.length_drop, if_neg (drop_ne (by omega)), ← em] at this; exact this
      obtain ⟨rb, erb⟩ : ∃ rb, rb = rootL (rest.drop k) := ⟨_, rfl⟩
      rw [← erb] at CR
      have EM := Lib.hid em
      have ERB := Lib.hid erb
      clear em erb
      have hck : ¬ c' = k := by omega
      have z1 : (0 : Int) ≤ (k : Int) := by omega
      have z2 : (k : Int) ≤ (m : Int) := by omega
      have z3 : (k : Int) ≤ (c' : Int) := by omega
      gi_wp2
      refine Free.wpIn_region_free 6 [(4, .det (.string rb)), (5, .ind (fun b => .slice (some ⟨b, 0, none⟩) 1 1) (fun b w2 => w2.heap[b]? = some (.cells #[.string rb] 9 (0, 0)) ∧ W.heap.size ≤ b))] (fun w2 => Below W.heap.size W w2 ∧ w2.cell? ⟨w.heap.size, 0, none⟩ = some (.slice Ar out.length cr) ∧ w2.cell? ⟨w.heap.size + 1, 0, none⟩ = some (.slice (some ⟨bb, oo, none⟩) m c')) (by kernel_rfl) (by kernel_rfl) (by kernel_rfl) (fun _ _ h => h) ?_ ⟨(Below.refl _ _).drew, hvc, h7c⟩ (fun _ _ h g => ⟨h.1.trans (Below.mono g h.1.size), cell_grow h.2.1 g, cell_grow h.2.2 g⟩) ?_
      · intro j mk r hf y w1 w2 hr gr
        simp only [Free.find] at hf
        repeat' split at hf
        all_goals (first | (cases hf; exact ⟨(gr.block _ (Array.getElem?_eq_some_iff.1 hr.1).1).trans hr.1, hr.2⟩) | cases hf)
      simp only [List.take_succ_cons, List.take_zero]
      clear hvc h7c
      iterate 4 (apply Free.chain_still (by first | exact Free.wanted_of rfl rfl rfl | rfl) rfl; (intro w' hB hA; obtain ⟨qB, q1, q2⟩ := hB; clear hA  qB; go_light; go_simp <;> rfl); (try simp only [Act.put, List.setIfInBounds_toArray, List.set_cons_succ, List.set_cons_zero]))
      apply Free.chain_det (by first | exact Free.wanted_of rfl rfl rfl | rfl) rfl
      · intro w' hB hA
        refine Free.opRun_call (f := 16) (args := #[.slice (some ⟨bb, oo + k, none⟩) (m - k) (c' - k)]) (by clear hB hA; go_simp <;> rfl) ?_
        refine (CR.out w' hB.1).mono ?_
        rintro e w3 ⟨rfl, hb3⟩
        exact ⟨_, rfl, hb3, rfl⟩
      simp only [Act.put, List.setIfInBounds_toArray, List.set_cons_succ, List.set_cons_zero]
      apply Free.chain_ind rfl rfl
      · intro w' hB hA
        refine Free.opRun_of (v := .slice (some ⟨w'.heap.size, 0, none⟩) 1 1) (w' := w'.alloc (.cells #[.string rb] 9)) (by clear hB hA; go_light; go_simp <;> rfl) ⟨Free.Grow.alloc _ _, _, rfl, new_at rfl, hB.1.size⟩
      intro b
      simp only [Act.put, List.setIfInBounds_toArray, List.set_cons_succ, List.set_cons_zero]
      apply Free.chain_nil
      intro wy hBz _ hh
      obtain ⟨hbz, hbl⟩ : wy.heap[b]? = some (.cells #[.string rb] 9 (0, 0)) ∧ W.heap.size ≤ b := hh _ List.mem_cons_self
      simp only [List.drop_succ_cons, List.drop_zero]
      obtain ⟨hbW, _, _⟩ := hBz
      have hrow2 := row_below hrow hbW
      have hv2 : Boxed wy w.heap.size 23 (.slice Ar out.length cr) := (hbW.block _ hv.lt).trans hv
      have h72 : Boxed wy (w.heap.size + 1) 23 (.slice (some ⟨bb, oo, none⟩) m c') := (hbW.block _ hb7.lt).trans hb7
      obtain ⟨i0, hi0, hz0, hz1, hz2⟩ := info_parts infoStr
      refine wpList_append_own _ rfl (.tmp 26) (.tmp 31) 23 rfl w.heap.size 9 i0 (.string ⟨#[]⟩) 1 16 Tryd.underlying23 hi0 hz0 hz1 hz2 rfl (by decide) (.slice Ar out.length cr) out.length (out.map Value.string) rfl hrow2 ⟨b, 0, none⟩ 1 1 [.string rb] rfl rfl (fun j u hu => ?_) (by simp [Value.oneCell']) (by have : maxLen = 9223372036854775807 := rfl; omega) (by omega) (Nat.le_trans hB.size hbW.size) ?_
      · match j, hu with
        | 0, hu => cases hu; simp [World.cell?, Addr.add, hbz]
      intro v' w5 hown hgr _
      obtain ⟨g, cap, rfl⟩ := ownsRow_succ hown
      have hv5 := hv2.kept hgr (hv2.not_row (by decide) hrow2)
      have h75 := h72.kept hgr (h72.not_row (by decide) hrow2)
      have hc5 := hv5.cell
      have hf5 := hv5.frozen
      have hc7 : (w5.setCell ⟨w.heap.size, 0, none⟩ (.slice (some ⟨g, 0, none⟩) (out.length + 1) cap)).cell? ⟨w.heap.size + 1, 0, none⟩ = some (.slice (some ⟨bb, oo, none⟩) m c') := (h75.other (by omega) _).cell
      have hf7 : (w5.setCell ⟨w.heap.size, 0, none⟩ (.slice (some ⟨g, 0, none⟩) (out.length + 1) cap)).frozen? ⟨w.heap.size + 1, 0, none⟩ = false := (h75.other (by omega) _).frozen
      clear hh
      go_wp2_with fail
      gi_wp2
      have ht : (rest.take k).length = k := by rw [List.length_take, ← EM.out]; omega
      have := pv_end (l := l) (pre' := pre ++ [(k, true)]) (rest' := rest.take k) (A' := some ⟨bb, oo, none⟩) (c1 := c') W0.heap.size hB hbW hrow2 hgr hown hv5 h75 (hsl.take k) (by rw [EO.out, ERB.out]; rfl) (by rw [ER.out]; rfl) (by omega)
      rw [ht] at this
      exact this
    | false =>
      have CR : Hid (∀ w', Below W.heap.size W w' → Calls Tryd.prog 16 #[.slice (some ⟨bb, oo, none⟩) k c'] w' fun e w2 => e = .returned (.string (rootL (rest.take k))) ∧ Below w'.heap.size w' w2) := fun w' hb => by
        have ht : (rest.take k).length = k := by rw [List.length_take, ← em]; omega
        have := root_any (rest.take k) (some ⟨bb, oo, none⟩) c' w' (by omega) (by omega) ((hsl.below (hB.trans (hb.mono hB.size)) (Nat.le_refl _)).take k) (hrs.take _) (HT.out.below (hB.trans (hb.mono hB.size)) (Nat.le_refl _))
        rw [ht, if_neg (take_ne k0 (by omega))] at this; exact this
      obtain ⟨rb, erb⟩ : ∃ rb, rb = rootL (rest.take k) := ⟨_, rfl⟩
      rw [← erb] at CR
      have EM := Lib.hid em
      have ERB := Lib.hid erb
      clear em erb
      have hck : ¬ c' = k := by omega
      have z1 : (0 : Int) ≤ (k : Int) := by omega
      have z2 : (k : Int) ≤ (m : Int) := by omega
      have z3 : (k : Int) ≤ (c' : Int) := by omega
      gi_wp2
      refine Free.wpIn_region_free 6 [(4, .det (.string rb)), (5, .ind (fun b => .slice (some ⟨b, 0, none⟩) 1 1) (fun b w2 => w2.heap[b]? = some (.cells #[.string rb] 9 (0, 0)) ∧ W.heap.size ≤ b))] (fun w2 => Below W.heap.size W w2 ∧ w2.cell? ⟨w.heap.size, 0, none⟩ = some (.slice Ar out.length cr) ∧ w2.cell? ⟨w.heap.size + 1, 0, none⟩ = some (.slice (some ⟨bb, oo, none⟩) m c')) (by kernel_rfl) (by kernel_rfl) (by kernel_rfl) (fun _ _ h => h) ?_ ⟨(Below.refl _ _).drew, hvc, h7c⟩ (fun _ _ h g => ⟨h.1.trans (Below.mono g h.1.size), cell_grow h.2.1 g, cell_grow h.2.2 g⟩) ?_
      · intro j mk r hf y w1 w2 hr gr
        simp only [Free.find] at hf
        repeat' split at hf
        all_goals (first | (cases hf; exact ⟨(gr.block _ (Array.getElem?_eq_some_iff.1 hr.1).1).trans hr.1, hr.2⟩) | cases hf)
      simp only [List.take_succ_cons, List.take_zero]
      clear hvc h7c
      iterate 4 (apply Free.chain_still (by first | exact Free.wanted_of rfl rfl rfl | rfl) rfl; (intro w' hB hA; obtain ⟨qB, q1, q2⟩ := hB; clear hA  qB; go_light; go_simp <;> rfl); (try simp only [Act.put, List.setIfInBounds_toArray, List.set_cons_succ, List.set_cons_zero]))
      apply Free.chain_det (by first | exact Free.wanted_of rfl rfl rfl | rfl) rfl
      · intro w' hB hA
        refine Free.opRun_call (f := 16) (args := #[.slice (some ⟨bb, oo, none⟩) k c']) (by clear hB hA; go_simp <;> rfl) ?_
        refine (CR.out w' hB.1).mono ?_
        rintro e w3 ⟨rfl, hb3⟩
        exact ⟨_, rfl, hb3, rfl⟩
      simp only [Act.put, List.setIfInBounds_toArray, List.set_cons_succ, List.set_cons_zero]
      apply Free.chain_ind rfl rfl
      · intro w' hB hA
        refine Free.opRun_of (v := .slice (some ⟨w'.heap.size, 0, none⟩) 1 1) (w' := w'.alloc (.cells #[.string rb] 9)) (by clear hB hA; go_light; go_simp <;> rfl) ⟨Free.Grow.alloc _ _, _, rfl, new_at rfl, hB.1.size⟩
      intro b
      simp only [Act.put, List.setIfInBounds_toArray, List.set_cons_succ, List.set_cons_zero]
      apply Free.chain_nil
      intro wy hBz _ hh
      obtain ⟨hbz, hbl⟩ : wy.heap[b]? = some (.cells #[.string rb] 9 (0, 0)) ∧ W.heap.size ≤ b := hh _ List.mem_cons_self
      simp only [List.drop_succ_cons, List.drop_zero]
      obtain ⟨hbW, _, _⟩ := hBz
      have hrow2 := row_below hrow hbW
      have hv2 : Boxed wy w.heap.size 23 (.slice Ar out.length cr) := (hbW.block _ hv.lt).trans hv
      have h72 : Boxed wy (w.heap.size + 1) 23 (.slice (some ⟨bb, oo, none⟩) m c') := (hbW.block _ hb7.lt).trans hb7
      obtain ⟨i0, hi0, hz0, hz1, hz2⟩ := info_parts infoStr
      refine wpList_append_own _ rfl (.tmp 36) (.tmp 41) 23 rfl w.heap.size 9 i0 (.string ⟨#[]⟩) 1 16 Tryd.underlying23 hi0 hz0 hz1 hz2 rfl (by decide) (.slice Ar out.length cr) out.length (out.map Value.string) rfl hrow2 ⟨b, 0, none⟩ 1 1 [.string rb] rfl rfl (fun j u hu => ?_) (by simp [Value.oneCell']) (by have : maxLen = 9223372036854775807 := rfl; omega) (by omega) (Nat.le_trans hB.size hbW.size) ?_
      · match j, hu with
        | 0, hu => cases hu; simp [World.cell?, Addr.add, hbz]
      intro v' w5 hown hgr _
      obtain ⟨g, cap, rfl⟩ := ownsRow_succ hown
      have hv5 := hv2.kept hgr (hv2.not_row (by decide) hrow2)
      have h75 := h72.kept hgr (h72.not_row (by decide) hrow2)
      have hc5 := hv5.cell
      have hf5 := hv5.frozen
      have hc7 : (w5.setCell ⟨w.heap.size, 0, none⟩ (.slice (some ⟨g, 0, none⟩) (out.length + 1) cap)).cell? ⟨w.heap.size + 1, 0, none⟩ = some (.slice (some ⟨bb, oo, none⟩) m c') := (h75.other (by omega) _).cell
      have hf7 : (w5.setCell ⟨w.heap.size, 0, none⟩ (.slice (some ⟨g, 0, none⟩) (out.length + 1) cap)).frozen? ⟨w.heap.size + 1, 0, none⟩ = false := (h75.other (by omega) _).frozen
      clear hh
      go_wp2_with fail
      gi_wp2
      have ht : (rest.drop k).length = m - k := by rw [List.length_drop, ← EM.out]
      have := pv_end (l := l) (pre' := pre ++ [(k, false)]) (rest' := rest.drop k) (A' := some ⟨bb, oo + k, none⟩) (c1 := c' - k) W0.heap.size hB hbW hrow2 hgr hown hv5 h75 (sl_drop hsl) (by rw [EO.out, ERB.out]; rfl) (by rw [ER.out]; rfl) (by omega)
      rw [ht] at this
      exact this
  case done =>
    clear HI0 b1 b2
    rintro D xs W hD rfl ⟨⟨⟨v, hv, hrow, _⟩, _⟩, hB⟩ hK
    obtain ⟨out, eout⟩ : ∃ out, out = outP l (lev i l.length) := ⟨_, rfl⟩
    rw [← eout] at hrow
    have EP : Hid (pathL l i = out.reverse) := by rw [eout]; rfl
    have HRF : Hid (∀ w' A' c', Below w.heap.size w w' → out.length ≤ c' → SL w' 1 encS A' out.reverse → R (.returned (.tuple #[.slice A' out.length c', .int .i64 0])) w') := by
      intro w' A' c' h1 h2 h3
      have := HR.out w' A' c' h1 (by rw [EP.out, List.length_reverse]; exact h2) (by rw [EP.out]; exact h3)
      rw [EP.out, List.length_reverse] at this; exact this
    obtain ⟨Ar, cr, rfl⟩ := row_form hrow
    have hvc := hv.cell
    have HK := Lib.hid hK
    have HB := Lib.hid hB
    have HV := Lib.hid hv
    have HROW := Lib.hid hrow
    have HD : Hid (w.heap.size ≤ D) := by show _ ≤ _; omega
    clear hK hB hv hrow eout HR EP hD hsz
    cases out with
    | nil =>
      go_wp2_with fail
      refine (Tryd.slices_Reverse_string_empty _ _ _).mono ?_
      rintro e w2 ⟨rfl, rfl⟩
      go_wp2_with fail
      refine ⟨by simp, .inl ⟨_, _, rfl, run_takeDeferred HK.out, ?_⟩⟩
      refine ⟨_, results_tmp2 rfl _ _ _, ?_⟩
      exact HRF.out _ _ _ (HB.out.trans (belowK_b (w := w) (Nat.le_refl _) _ D _ _ HD.out HK.out rfl rfl)) (Nat.zero_le _) SL.nil
    | cons o1 os =>
      have hrow := HROW.out
      rw [enc_str] at hrow
      obtain ⟨g, cap, e1, hbg, hgl, hncap, hcm, hlen, hH⟩ := Lib.holds_of_ownsRow (enc := Go.Proofs.encStr) hrow (fun e => by cases e)
      injection e1 with e2 e3 e4
      have e5 := e4.symm
      subst e2
      subst e5
      obtain ⟨zs, ezs⟩ : ∃ zs, zs = (o1 :: os).map (fun b => b.data.toList) := ⟨_, rfl⟩
      rw [← ezs] at hrow hlen hH
      have CV := Lib.hid (fun (q : Nat) => Lib.ownsRow_putRow (q := q) (k := (o1 :: os).length) (ys := zs.reverse) hrow (by rw [List.length_reverse]; exact hlen) (Nat.le_refl _))
      have hgn : w.heap.size ≠ g := fun e => by
        have h9 := HV.out
        rcases HROW.out.2 with ⟨h0, _⟩ | ⟨g', cap', cur, h1, _, h3, _⟩
        · cases h0
        · cases h1
          unfold Boxed at h9
          rw [e, h3] at h9
          cases h9
      have hdg : D ≠ g := fun e => by
        have h9 := HK.out
        rcases HROW.out.2 with ⟨h0, _⟩ | ⟨g', cap', cur, h1, _, h3, _⟩
        · cases h0
        · cases h1
          rw [e, h3] at h9
          cases h9
      have CRV := Lib.hid (Tryd.slices_Reverse_string g 0 cap zs W hH (by rw [hlen]; have : maxLen = 9223372036854775807 := rfl; omega))
      rw [hlen] at CRV
      have HZS := Lib.hid ezs
      have HLEN := Lib.hid hlen
      clear hrow hH ezs hlen
      go_wp2_with fail
      refine CRV.out.mono ?_
      rintro e w2 ⟨rfl, q, rfl⟩
      have hvc2 : (Sort.putRow Go.Proofs.encStr (Sort.ahead W q) g 0 zs.reverse.toArray).cell? ⟨w.heap.size, 0, none⟩ = some (.slice (some ⟨g, 0, none⟩) (o1 :: os).length cap) := by
        rw [World.cell?_of_block (put_block hgn)]; exact hvc
      have HK2 : Hid ((Sort.putRow Go.Proofs.encStr (Sort.ahead W q) g 0 zs.reverse.toArray).heap[D]? = some (.deferred (some []))) := (put_block hdg).trans HK.out
      have HB2 : Hid (Below w.heap.size w (Sort.putRow Go.Proofs.encStr (Sort.ahead W q) g 0 zs.reverse.toArray)) := Lib.below_putRow HB.out hbg
      have SLR : Hid (SL (Sort.putRow Go.Proofs.encStr (Sort.ahead W q) g 0 zs.reverse.toArray) 1 encS (some ⟨g, 0, none⟩) (o1 :: os).reverse) := by
        have h9 := CV.out q
        rw [← HLEN.out, ← List.length_reverse, List.take_length, show zs.reverse.map Go.Proofs.encStr = (o1 :: os).reverse.map Value.string by rw [HZS.out, ← List.map_reverse, ← enc_str]] at h9
        exact sl_own h9
      clear CV CRV
      go_wp2_with fail
      refine ⟨by simp, .inl ⟨_, _, rfl, run_takeDeferred HK2.out, ?_⟩⟩
      refine ⟨_, results_tmp2 rfl _ _ _, ?_⟩
      have hbk := belowK_b (w := w) (Nat.le_refl _) (Sort.putRow Go.Proofs.encStr (Sort.ahead W q) g 0 zs.reverse.toArray) D _ (.deferred none) HD.out HK2.out rfl rfl
      refine HRF.out _ _ _ (HB2.out.trans hbk) hncap (SLR.out.keep (fun p v hv => ?_))
      rw [World.cell?_of_block (World.putObj_heap_other (fun e => by rw [World.cell?, e, HK2.out] at hv; cases hv))]; exact hv
set_option maxRecDepth 100000 in
theorem prove_out (A : Option Addr) (l c : Nat) (i : Int) (w : World) (h : i < 0 ∨ (l : Int) ≤ i) :
    Calls Tryd.prog 18 #[.slice A l c, .int .i64 i] w fun e w' => e = .returned (.tuple #[.slice none 0 0, .int .i64 1]) ∧ Below w.heap.size w w' := by
  refine calls_marks 4 Tryd.func18 rfl ?_
  simp only [Tryd.ntmps18, List.size_toArray, List.length_cons, List.length_nil, Nat.reduceAdd, Nat.reduceSub, Array.replicate_succ, Array.replicate_zero, List.push_toArray, List.append_toArray, List.nil_append, List.cons_append]
  by_cases g1 : i < 0
  · clear h
    go_wp2_with fail
    refine ⟨_, results_tmp2 rfl _ _ _, rfl, ?_⟩
    exact Below.refl _ _
  · have g2 : (l : Int) ≤ i := by omega
    clear h
    go_wp2_with fail
    refine ⟨_, results_tmp2 rfl _ _ _, rfl, ?_⟩
    exact Below.refl _ _
/-- What Prove returns: the path, or an error. -/
def PrPost (l : List ByteArray) (i : Int) (w : World) (e : Ending) (w' : World) : Prop := Below w.heap.size w w' ∧
  ((0 ≤ i ∧ i < (l.length : Int) ∧ ∃ A' c', (pathL l i.toNat).length ≤ c' ∧ SL w' 1 encS A' (pathL l i.toNat) ∧ e = .returned (.tuple #[.slice A' (pathL l i.toNat).length c', .int .i64 0])) ∨
   (¬ (0 ≤ i ∧ i < (l.length : Int)) ∧ e = .returned (.tuple #[.slice none 0 0, .int .i64 1])))
theorem prove_dis (l : List ByteArray) (A : Option Addr) (c : Nat) (i : Int) (w : World) (hc : l.length ≤ c) (hn : l.length < 1000000000) (hs : SL w 1 encS A l) (hsh : Short l) (hT : HasT w) :
    Calls Tryd.prog 18 #[.slice A l.length c, .int .i64 i] w (PrPost l i w) := by
  by_cases h : 0 ≤ i ∧ i < (l.length : Int)
  · obtain ⟨I, rfl⟩ : ∃ I : Nat, i = (I : Int) := ⟨i.toNat, by omega⟩
    refine prove_in l A c I w _ (by omega) hc hn hs hsh hT (fun w' A' c' hb h1 h2 => ⟨hb, .inl ⟨h.1, h.2, A', c', ?_⟩⟩)
    rw [Int.toNat_natCast]
    exact ⟨h1, h2, rfl⟩
  · refine (prove_out A l.length c i w (by omega)).mono ?_
    rintro e w' ⟨rfl, hb⟩
    exact ⟨hb, .inr ⟨h, rfl⟩⟩
end Go.Proofs.YtamiaalfjmppaaaDoor
