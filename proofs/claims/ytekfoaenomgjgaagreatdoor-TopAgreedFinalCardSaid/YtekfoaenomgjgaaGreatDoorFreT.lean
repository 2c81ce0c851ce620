/- A region that draws its order, whose forced end calls the body of a range over a function: the rule of Free inside a fence. Condition: the first part defers nothing. -/
import Derived.Test.YtekfoaenomgjgaaGreatDoorFreI
import Derived.StillTail
set_option linter.unusedSimpArgs false
set_option linter.unusedVariables false
namespace Go.Free
open Go Go.RowKit

section
variable {P : Program} {m : Nat}
theorem op_F {F : Fence} (hF : F = Fence.wide ∨ ∃ l0, F = Fence.wide.inRound l0) {o : Oper} {a : Act} {w : World} {next next' : Act → World → Prop} {Q : Exit → Act → World → Prop} (hd : ∀ c, o.op ≠ .defer c) (hn : ∀ a w, next a w → next' a w)
  (h : o.wp P a w next (fun _ _ _ => False)) : o.wpIn F m P a w next' Q := by
 have hs : Oper.semAt F.round a.eval o = execOp a.eval o := Oper.semAt_eq _ _ _ hd
 have hdep : F.depth = none := by rcases hF with rfl | ⟨l0, rfl⟩ <;> rfl
 have hfn : ∀ f, F.fn f := by rcases hF with rfl | ⟨l0, rfl⟩ <;> exact fun _ => trivial
 have hcall : ∀ {f : FuncId} {args : Array Value} {w : World} {R : Ending → World → Prop}, Calls P f args w R → CallsIn F (m - 1) P f args w R := by
  rcases hF with rfl | ⟨l0, rfl⟩
  ·exact fun h => callsIn_wide.2 h
  ·exact fun h => calls_in h
 have hrow : ∀ {row : String} {args : Array Value} {w : World} {R : Value → World → Prop}, Rows P row args w R → RowsIn F (m - 1) P row args w R := by
  rcases hF with rfl | ⟨l0, rfl⟩
  ·exact fun h c cs _ => let ⟨v, w', r, s⟩ := h c cs; ⟨v, w', r, stepsIn_wide.2 s⟩
  ·exact fun h => rows_in h
 refine ⟨fun _ _ => hfn _, ?_⟩
 rw [hs]
 unfold Oper.wp at h
 generalize (execOp a.eval o).run P w = r at h ⊢
 cases r with
 | halt x w' => cases x <;> exact h.elim
 | ok x w' =>
  cases x with
  | value v => exact hn _ _ h
  | skip => exact hn _ _ h
  | defer d => exact hn _ _ h
  | enter f args =>
   refine ⟨fun e => (by rw [hdep] at e; cases e), hcall (Calls.mono h ?_)⟩
   intro e w2 he
   cases e with
   | returned v => exact hn _ _ he
   | panicked ch => exact he.elim
   | outgrown => obtain ⟨_, _, h⟩ := he; exact h.elim
  | row r args =>
   refine ⟨fun e => (by rw [hdep] at e; cases e), hrow (Rows.mono h ?_)⟩
   intro e w2 he
   exact hn _ _ he
  | _ => exact h.elim
theorem opIn_F {F : Fence} (hF : F = Fence.wide ∨ ∃ l0, F = Fence.wide.inRound l0) {ops : Array Oper} {i : Nat} (hd : ∀ o, ops[i]? = some o → ∀ c, o.op ≠ .defer c) {K K' : Act → World → Prop} {Q : Exit → Act → World → Prop} {a : Act} {w : World} (hn : ∀ a w, K a w → K' a w)
  (h : wpOp P ops (fun _ _ _ => False) i K a w) : wpOpIn F m P ops Q i K' a w := by
 have hfn : ∀ f, F.fn f := by rcases hF with rfl | ⟨l0, rfl⟩ <;> exact fun _ => trivial
 unfold wpOp at h
 unfold wpOpIn
 cases ho : ops[i]? with
 | none => rw [ho] at h; exact hn _ _ h
 | some o =>
  rw [ho] at h
  dsimp only at h ⊢
  split at h
  ·rename_i hw
   rw [if_pos hw]
   rcases h with h | ⟨_, a2, w2, hl⟩
   ·exact op_F hF (hd o ho) hn h
   ·exact hl.elim
  ·rename_i hw
   rw [if_neg hw]
   exact ⟨fun _ _ => hfn _, hn _ _ h⟩
theorem wpOpIn_mono' {F : Fence} {ops : Array Oper} {Q : Exit → Act → World → Prop} {i : Nat} {a : Act} {w : World} {K K' : Act → World → Prop} (h : ∀ a w, K a w → K' a w) (hh : wpOpIn F m P ops Q i K a w) : wpOpIn F m P ops Q i K' a w := wpOpIn_mono h hh
theorem anyIn_of_seq {F : Fence} {md : Region.Mode} {ops : Array Oper} {Q : Exit → Act → World → Prop} : ∀ (l : List Oper) (k : Nat) (listed : Array Bool) (a : Act) (w : World), (∀ j, l[j]? = ops[k + j]?) →
  Region.seqB md ops l.length k listed = true → wpListIn F m P ops Q l a w → wpAnyIn F m P md ops Q l.length listed a w
 | [], _, _, _, _, _, hB, h => ⟨by simpa [Region.seqB] using hB, h⟩
 | o :: l, k, listed, a, w, hl, hB, h => by
  have h0 : ops[k]? = some o := by simpa using (hl 0).symm
  simp only [List.length_cons, Region.seqB, Bool.and_eq_true, decide_eq_true_eq] at hB
  refine ⟨fun h1 => (by rw [hB.1] at h1; cases h1), fun i hi => ?_⟩
  rw [hB.1] at hi
  have hik : i = k := by simpa using hi
  subst hik
  have hw : wpOpIn F m P ops Q i (wpListIn F m P ops Q l) a w := by unfold wpOpIn; simp only [h0]; exact h
  exact wpOpIn_mono' (fun a' w' h' => anyIn_of_seq l (i + 1) _ a' w' (fun j => by have := hl (j + 1); simpa [Nat.add_assoc, Nat.add_comm 1 j] using this) hB.2 h') hw
end
section
variable {P : Program} {ops : Array Oper} {b : Array Nat} {Rs : List (Nat × Loud)} {B : World → Prop} {a0 : Act}
theorem region_freeT {F : Fence} (hF : F = Fence.wide ∨ ∃ l0, F = Fence.wide.inRound l0) {N : Nat} {n : Nat} {w0 : World} {Q : Exit → Act → World → Prop} (ok : OK ops n b) (hnd : ∀ i, i < n → ∀ o, ops[i]? = some o → ∀ c, o.op ≠ .defer c) (hmono : LoudMono Rs) (hBm : ∀ w w', B w → Grow w w' → B w')
  (hall : ∀ u, ∃ v, (∀ j, j < n → StepT P ops b Rs B a0 n u v j) ∧ (∀ w, B w → Grow w0 w → (∀ p ∈ hist ops Rs a0 n u v n, p.2 w) → wpListIn F N P ops Q (ops.toList.drop n) (frm ops a0 v (fun i => decide (i < n)) n) w)) :
  ∀ (m : Nat) (listed : Array Bool) (a : Act) (w : World), left listed n = m → (∃ u v, J P ops b Rs B a0 n w0 u v listed a w) → wpAnyIn F N P .any ops Q (m + (ops.size - n)) listed a w := by
 intro m
 induction m with
 | zero =>
  rintro listed a w hm ⟨u, v, hJ⟩
  have hl : ∀ j, j < n → listed.getD j false = true := by
   intro j hj
   have := List.countP_eq_zero.1 hm j (by simpa using hj)
   simpa using this
  have e : listed = Array.replicate n true ++ Array.replicate (ops.size - n) false := by
   apply Array.ext
   ·rw [hJ.inv.size]; simp; have := ok.le; omega
   ·intro i h1 h2
    by_cases hi : i < n
    ·have := hl i hi
     simp [h1] at this
     rw [this, Array.getElem_append_left (by simpa using hi)]; simp
    ·have := hJ.inv.tail i (by omega) (by rw [← hJ.inv.size]; exact h1)
     simp [h1] at this
     rw [this, Array.getElem_append_right (by simp; omega)]; simp
  obtain ⟨v', tr', hfin⟩ := hall u
  have hva := vals_alike ok hJ.inv hJ.bw hJ.tr tr' (fun _ _ => rfl) hJ.facts
  have ef : a = frm ops a0 v' (fun i => decide (i < n)) n := by
   rw [hJ.fr]
   refine act_ext (by rw [frm_defers, frm_defers]) (by rw [frm_size, frm_size]) (fun t => frm_slot _ _ _ _ t n (fun j hj _ => ⟨by rw [hl j hj]; simp [hj], fun _ => (hva j hj (hl j hj)).1⟩))
  have hw := hfin w hJ.bw hJ.gw (fun p hp => by
   obtain ⟨h1, mk, r, hf, hwt, h2⟩ := hist_mem hp
   rw [h2]
   exact hJ.facts p.1 h1 (hl p.1 h1) mk r hf (by rw [(hva p.1 h1 (hl p.1 h1)).2]; exact hwt))
  rw [← ef] at hw
  have hlen : (ops.toList.drop n).length = ops.size - n := by simp
  have := anyIn_of_seq (md := .any) (ops.toList.drop n) n listed a w (fun j => by simp [List.getElem?_drop]) (by rw [hlen, e]; exact ok.seq) hw
  rw [hlen] at this
  rw [Nat.zero_add]; exact this
 | succ m ih =>
  rintro listed a w hm ⟨u, v, hJ⟩
  rw [show m + 1 + (ops.size - n) = (m + (ops.size - n)) + 1 by omega]
  refine ⟨fun hnil => ?_, fun i hi => ?_⟩
  ·exfalso
   have hex : ∃ k, k < n ∧ listed.getD k false = false ∧ ∀ j, j < k → listed.getD j false = true := by
    have : ∀ N, N ≤ n → (∀ j, j < N → listed.getD j false = true) ∨ ∃ k, k < n ∧ listed.getD k false = false ∧ ∀ j, j < k → listed.getD j false = true := by
     intro N
     induction N with
     | zero => intro _; left; intro j hj; omega
     | succ N ihN =>
      intro hN
      rcases ihN (by omega) with h | h
      ·cases hl : listed.getD N false with
       | false => right; exact ⟨N, by omega, hl, h⟩
       | true =>
         left; intro j hj; by_cases e : j = N
         ·subst e; exact hl
         ·exact h j (by omega)
      ·exact .inr h
    rcases this n (Nat.le_refl _) with h | h
    ·have : left listed n = 0 := List.countP_eq_zero.2 (fun j hj => by have := h j (by simpa using hj); simp at this ⊢; exact this)
     omega
    ·exact h
   obtain ⟨k, hk, hkl, hlow⟩ := hex
   have hks : k < ops.size := by have := ok.le; omega
   have : k ∈ Region.ready .any ops listed := mem_ready.2 ⟨getD_in (by rw [hJ.inv.size]; exact hks) hkl, _, some_getD hks, fun e he hb => hlow e.on (ok.edge k hks e he hb).1⟩
   rw [hnil] at this; cases this
  ·have hin : i < n := by
    rcases Nat.lt_or_ge i n with h | h
    ·exact h
    ·exfalso
     obtain ⟨_, o, ho, _⟩ := mem_ready.1 hi
     have his : i < ops.size := (Array.getElem?_eq_some_iff.1 ho).1
     have : left listed n = 0 := List.countP_eq_zero.2 (fun j hj => by
      have hjn : j < n := by simpa using hj
      have := bef_ready ok hJ.inv hi (by omega) (ok.tail i j h his hjn)
      simp at this ⊢; exact this)
     omega
   obtain ⟨hul, o, ho, _⟩ := mem_ready.1 hi
   have his : i < ops.size := (Array.getElem?_eq_some_iff.1 ho).1
   have hls : i < listed.size := by rw [hJ.inv.size]; exact his
   have hc : left (listed.setIfInBounds i true) n = m := by have := left_set (n := n) hin hls (getD_both hul); omega
   exact opIn_F hF (hnd i hin) (fun a' w' h => ih _ a' w' hc h) (J_step ok hmono hBm (fun u => let ⟨v, h, _⟩ := hall u; ⟨v, h⟩) hJ hin hi)
end
section
variable {P : Program}
/-- THE RULE, inside a fence, the forced end walked inside it too. -/
theorem wpIn_region_freeT {F : Fence} (hF : F = Fence.wide ∨ ∃ l0, F = Fence.wide.inRound l0) {N id : Nat} {Q : Exit → Act → World → Prop} {a : Act} {w : World} {l : List Oper} (n : Nat) (Rs : List (Nat × Loud)) (B : World → Prop)
  (hm : P.follows .mixedOrders = true) (hok : okFree l.toArray n = true) (hnd : noDef (l.take n).toArray = true) (hmono : LoudMono Rs) (hB0 : B w.drew) (hBm : ∀ w w', B w → Grow w w' → B w')
  (h : chain P l.toArray (Region.before l.toArray) Rs B (fun a' hs => ∀ w', B w' → Grow w.drew w' → (∀ p ∈ hs, p.2 w') → wpListIn F N P l.toArray Q (l.drop n) a' w') (l.take n) 0 a []) :
  (Code.region id l.toArray true).wpIn F N P Q a w := by
 have ok := OK.of hok
 have hle : n ≤ l.length := by simpa using ok.le
 have hall : ∀ u, ∃ v, (∀ j, j < n → StepT P l.toArray (Region.before l.toArray) Rs B a n u v j) ∧ (∀ w', B w' → Grow w.drew w' → (∀ p ∈ hist l.toArray Rs a n u v n, p.2 w') → wpListIn F N P l.toArray Q (l.toArray.toList.drop n) (frm l.toArray a v (fun i => decide (i < n)) n) w') := by
  intro u
  have e0 : frm l.toArray a (fun _ => undef) (fun i => decide (i < 0)) n = a := by
   rw [frm_lt _ 0 n (by omega)]; rfl
  exact chain_out ok.le u (l.take n) 0 (fun _ => undef) (by simp; omega) (fun j hj => by
   have : j < n := by simp at hj; omega
   simp [this]) (fun j hj => by omega) (by rw [e0]; exact h)
 refine wpIn_region_any hm ?_
 have inv0 : HeadInv .any l.toArray n (Array.replicate l.toArray.size false) :=
  ⟨by simp, fun j oj _ hl => (by rw [getD_replicate_false] at hl; cases hl), fun t _ ht => getD_in (by simpa using ht) (getD_replicate_false _ _)⟩
 obtain ⟨v, tr, _⟩ := hall (fun _ => 0)
 have hleft : left (Array.replicate l.toArray.size false) n = n := by
  unfold left
  have : (List.range n).countP (fun j => !(Array.replicate l.toArray.size false).getD j false) = (List.range n).length := List.countP_eq_length.2 (fun j _ => by rw [getD_replicate_false]; rfl)
  rw [this]; simp
 have J0 : J P l.toArray (Region.before l.toArray) Rs B a n w.drew (fun _ => 0) v (Array.replicate l.toArray.size false) a w.drew := by
  refine ⟨inv0, tr, ?_, hB0, Grow.refl _, fun j hj hl => (by rw [getD_replicate_false] at hl; cases hl)⟩
  have : (fun j => (Array.replicate l.toArray.size false).getD j false) = fun i => decide (i < 0) := by funext j; rw [getD_replicate_false]; simp
  rw [this, frm_lt _ 0 n (by omega)]; rfl
 have hndi : ∀ i, i < n → ∀ o, l.toArray[i]? = some o → ∀ c, o.op ≠ .defer c := fun i hi o ho => noDef_at (ops := (l.take n).toArray) hnd (i := i) (by simpa [List.getElem?_take, hi] using ho)
 have := region_freeT (w0 := w.drew) (Q := Q) (N := N) hF ok hndi hmono hBm hall n _ a w.drew hleft ⟨_, v, J0⟩
 rw [show n + (l.toArray.size - n) = l.toArray.size by simp; omega] at this
 exact this
end
end Go.Free
