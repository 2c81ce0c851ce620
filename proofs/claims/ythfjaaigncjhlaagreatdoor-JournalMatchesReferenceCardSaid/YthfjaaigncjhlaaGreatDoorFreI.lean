/- A region that draws its order, in a round of a range over a function: the rule of Free. Condition: the region defers nothing, and no way out is 'outgrown'. -/
import Derived.Test.YthfjaaigncjhlaaGreatDoorFree
import Derived.OrdersIn
import Derived.RangeFuncCalls
import Derived.Laws.Tables
namespace Go.Free
open Go Go.RowKit

def noDef (ops : Array Oper) : Bool := ops.all fun o => match o.op with
  | .defer _ => false
  | _ => true
theorem noDef_at {ops : Array Oper} (h : noDef ops = true) {i : Nat} {o : Oper} (ho : ops[i]? = some o) : ∀ c, o.op ≠ .defer c := by
  intro c hc
  unfold noDef at h
  rw [Array.all_eq_true] at h
  obtain ⟨hi, rfl⟩ := Array.getElem?_eq_some_iff.1 ho
  have := h i hi
  rw [hc] at this
  cases this
section
variable {P : Program} {l0 m : Nat}
theorem rows_in {row : String} {args : Array Value} {w : World} {R : Value → World → Prop} (h : Rows P row args w R) : RowsIn (Fence.wide.inRound l0) m P row args w R :=
  fun c cs _ => let ⟨v, w', r, s⟩ := h c cs; ⟨v, w', r, stepsIn_wide.2 s⟩
theorem calls_in {f : FuncId} {args : Array Value} {w : World} {R : Ending → World → Prop} (h : Calls P f args w R) : CallsIn (Fence.wide.inRound l0) m P f args w R :=
  CallsIn.inRound l0 (callsIn_wide.2 h)
theorem op_in {o : Oper} {a : Act} {w : World} {next next' : Act → World → Prop} {Q : Exit → Act → World → Prop} (hd : ∀ c, o.op ≠ .defer c) (hn : ∀ a w, next a w → next' a w) (h : o.wp P a w next Q) :
    o.wpIn (Fence.wide.inRound l0) m P a w next' Q := by
  refine ⟨fun _ _ => trivial, ?_⟩
  rw [Fence.inRound_round, Oper.semAt_some _ _ _ hd]
  unfold Oper.wp at h
  generalize (execOp a.eval o).run P w = r at h ⊢
  cases r with
  | halt x w' => cases x <;> first | exact h | exact h.elim
  | ok x w' =>
    cases x with
    | value v => exact hn _ _ h
    | skip => exact hn _ _ h
    | defer d => exact hn _ _ h
    | enter f args =>
      refine ⟨fun e => by simp [Fence.inRound, Fence.wide] at e, calls_in (Calls.mono h ?_)⟩
      intro e w2 he
      cases e <;> first | exact hn _ _ he | exact he
    | row r args =>
      refine ⟨fun e => by simp [Fence.inRound, Fence.wide] at e, rows_in (Rows.mono h ?_)⟩
      intro e w2 he
      exact hn _ _ he
    | _ => exact h.elim
theorem any_in {md : Region.Mode} {ops : Array Oper} {Q : Exit → Act → World → Prop} (hd : noDef ops = true) (hno : ∀ a w, ¬ Q .outgrown a w) :
    ∀ fuel listed a w, wpAny P md ops Q fuel listed a w → wpAnyIn (Fence.wide.inRound l0) m P md ops Q fuel listed a w := by
  intro fuel
  induction fuel with
  | zero => exact fun _ _ _ h => h
  | succ fuel ih =>
    rintro listed a w ⟨h0, h1⟩
    refine ⟨h0, fun i hi => ?_⟩
    have h2 := h1 i hi
    unfold wpOp at h2
    unfold wpOpIn
    cases ho : ops[i]? with
    | none => rw [ho] at h2; exact ih _ _ _ h2
    | some o =>
      rw [ho] at h2
      dsimp only at h2 ⊢
      split at h2
      · rename_i hw
        rw [if_pos hw]
        rcases h2 with h2 | ⟨_, a2, w2, hl⟩
        · exact op_in (noDef_at hd ho) (fun a w h => ih _ _ _ h) h2
        · exact absurd hl (hno a2 w2)
      · rename_i hw
        rw [if_neg hw]
        exact ⟨fun _ _ => trivial, ih _ _ _ h2⟩
end
section
variable {P : Program}
theorem any_region_free {Q : Exit → Act → World → Prop} {a : Act} {w : World} {l : List Oper} (n : Nat) (Rs : List (Nat × Loud)) (B : World → Prop)
    (hok : okFree l.toArray n = true) (hmono : LoudMono Rs) (hB0 : B w.drew) (hBm : ∀ w w', B w → Grow w w' → B w')
    (h : chain P l.toArray (Region.before l.toArray) Rs B (fun a' hs => ∀ w', B w' → Grow w.drew w' → (∀ p ∈ hs, p.2 w') → wpList P l.toArray Q (l.drop n) a' w') (l.take n) 0 a []) :
    wpAny P .any l.toArray Q l.toArray.size (Array.replicate l.toArray.size false) a w.drew := by
  have ok := OK.of hok
  have hle : n ≤ l.length := by simpa using ok.le
  have hall : ∀ u, ∃ v, (∀ j, j < n → StepT P l.toArray (Region.before l.toArray) Rs B a n u v j) ∧ (∀ w', B w' → Grow w.drew w' → (∀ p ∈ hist l.toArray Rs a n u v n, p.2 w') → wpList P l.toArray Q (l.toArray.toList.drop n) (frm l.toArray a v (fun i => decide (i < n)) n) w') := by
    intro u
    have e0 : frm l.toArray a (fun _ => undef) (fun i => decide (i < 0)) n = a := by
      rw [frm_lt _ 0 n (by omega)]; rfl
    exact chain_out ok.le u (l.take n) 0 (fun _ => undef) (by simp; omega) (fun j hj => by
      have : j < n := by simp at hj; omega
      simp [this]) (fun j hj => by omega) (by rw [e0]; exact h)
  have inv0 : HeadInv .any l.toArray n (Array.replicate l.toArray.size false) :=
    ⟨by simp, fun j oj _ hl => (by rw [getD_replicate_false] at hl; cases hl), fun t _ ht => getD_in (by simpa using ht) (getD_replicate_false _ _)⟩
  obtain ⟨v, tr, _⟩ := hall (fun _ => 0)
  have hleft : left (Array.replicate l.toArray.size false) n = n := by
    unfold left
    have : (List.range n).countP (fun j => !(Array.replicate l.toArray.size false).getD j false) = (List.range n).length := List.countP_eq_length.2 (fun j _ => by rw [getD_replicate_false]; rfl)
    rw [this]; simp
  have J0 : J P l.toArray (Region.before l.toArray) Rs B a n w.drew (fun _ => 0) v (Array.replicate l.toArray.size false) a w.drew := by
    refine ⟨inv0, tr, ?_, hB0, Grow.refl _, fun j hj hl => (by rw [getD_replicate_false] at hl; cases hl)⟩
    have : (fun j => (Array.replicate l.toArray.size false).getD j false) = fun i => decide (i < 0) := by funext j; rw [getD_replicate_false]; simp
    rw [this, frm_lt _ 0 n (by omega)]; rfl
  have := region_free (w0 := w.drew) (Q := Q) ok hmono hBm hall n _ a w.drew hleft ⟨_, v, J0⟩
  rw [show n + (l.toArray.size - n) = l.toArray.size by simp; omega] at this
  exact this
/-- THE RULE in a round. -/
theorem wpIn_region_free {id l0 m : Nat} {Q : Exit → Act → World → Prop} {a : Act} {w : World} {l : List Oper} (n : Nat) (Rs : List (Nat × Loud)) (B : World → Prop)
    (hm : P.follows .mixedOrders = true) (hok : okFree l.toArray n = true) (hnd : noDef l.toArray = true) (hno : ∀ a w, ¬ Q .outgrown a w) (hmono : LoudMono Rs) (hB0 : B w.drew) (hBm : ∀ w w', B w → Grow w w' → B w')
    (h : chain P l.toArray (Region.before l.toArray) Rs B (fun a' hs => ∀ w', B w' → Grow w.drew w' → (∀ p ∈ hs, p.2 w') → wpList P l.toArray Q (l.drop n) a' w') (l.take n) 0 a []) :
    (Code.region id l.toArray true).wpIn (Fence.wide.inRound l0) m P Q a w :=
  wpIn_region_any hm (any_in hnd hno _ _ _ _ (any_region_free n Rs B hok hmono hB0 hBm h))
/-- One operation by a plain law. -/
theorem listIn_plain {l0 m : Nat} {ops : Array Oper} {Q : Exit → Act → World → Prop} {a : Act} {w : World} {o : Oper} {rest : List Oper} (hg : o.guard = none) (hd : ∀ c, o.op ≠ .defer c)
    (h : o.wp P a w (wpListIn (Fence.wide.inRound l0) m P ops Q rest) Q) : wpListIn (Fence.wide.inRound l0) m P ops Q (o :: rest) a w := by
  unfold wpListIn
  rw [if_pos (by simp [Region.wanted, hg])]
  exact op_in hd (fun _ _ h => h) h
theorem listIn_store_row {l0 m : Nat} {ops : Array Oper} {rest : List Oper} {o : Oper} {a : Act} {w : World} {Q : Exit → Act → World → Prop} (hgd : o.guard = none) (ty : TypeId) (x y : Operand) (ho : o.op = .store ty x y)
    (g : Nat) (cells : Array Value) (hx : a.eval x = .pointer (some ⟨g, 0, none⟩)) (hy : a.eval y = .agg cells)
    (t : TypeId) (old : Array Value) (hg : w.heap[g]? = some (.cells old t (0, 0))) (hi : (P.info? ty).map (·.size) = some cells.size)
    (hold : old.size = cells.size) (h1 : cells.all (·.oneCell') = true)
    (h : wpListIn (Fence.wide.inRound l0) m P ops Q rest (a.put o.dst undef) (w.setRow g cells)) : wpListIn (Fence.wide.inRound l0) m P ops Q (o :: rest) a w :=
  listIn_plain hgd (by rw [ho]; exact fun c hc => by cases hc) (wp_store_row ty x y ho g cells hx hy t old hg hi hold h1 h)
end
end Go.Free
