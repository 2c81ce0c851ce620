/- A region that draws its order, in a round of a range over a function: the rule of Free. Condition: the region defers nothing, and no way out is 'outgrown'. -/
import Derived.Test.YtekfoaenomgjgaaGreatDoorFree
import Derived.OrdersIn
import Derived.RangeFuncCalls
import Derived.Laws.Tables
set_option linter.unusedSimpArgs false
set_option linter.unusedVariables false
namespace Go.Free
open Go Go.RowKit

def noDef (ops : Array Oper) : Bool := ops.all fun o => match o.op with
 | .defer _ => false
 | _ => true
theorem noDef_at {ops : Array Oper} (h : noDef ops = true) {i : Nat} {o : Oper} (ho : ops[i]? = some o) : ∀ c, o.op ≠ .defer c := by
 intro c hc
 unfold noDef at h
 rw [Array.all_eq_true] at h
 obtain ⟨hi, rfl⟩ := Array.getElem?_eq_some_iff.1 ho
 have := h i hi
 rw [hc] at this
 cases this
section
variable {P : Program} {l0 m : Nat}
theorem rows_in {row : String} {args : Array Value} {w : World} {R : Value → World → Prop} (h : Rows P row args w R) : RowsIn (Fence.wide.inRound l0) m P row args w R :=
 fun c cs _ => let ⟨v, w', r, s⟩ := h c cs; ⟨v, w', r, stepsIn_wide.2 s⟩
theorem calls_in {f : FuncId} {args : Array Value} {w : World} {R : Ending → World → Prop} (h : Calls P f args w R) : CallsIn (Fence.wide.inRound l0) m P f args w R :=
 CallsIn.inRound l0 (callsIn_wide.2 h)
theorem op_in {o : Oper} {a : Act} {w : World} {next next' : Act → World → Prop} {Q : Exit → Act → World → Prop} (hd : ∀ c, o.op ≠ .defer c) (hn : ∀ a w, next a w → next' a w) (h : o.wp P a w next Q) :
  o.wpIn (Fence.wide.inRound l0) m P a w next' Q := by
 refine ⟨fun _ _ => trivial, ?_⟩
 rw [Fence.inRound_round, Oper.semAt_some _ _ _ hd]
 unfold Oper.wp at h
 generalize (execOp a.eval o).run P w = r at h ⊢
 cases r with
 | halt x w' => cases x <;> first | exact h | exact h.elim
 | ok x w' =>
  cases x with
  | value v => exact hn _ _ h
  | skip => exact hn _ _ h
  | defer d => exact hn _ _ h
  | enter f args =>
   refine ⟨fun e => by simp [Fence.inRound, Fence.wide] at e, calls_in (Calls.mono h ?_)⟩
   intro e w2 he
   cases e <;> first | exact hn _ _ he | exact he
  | row r args =>
   refine ⟨fun e => by simp [Fence.inRound, Fence.wide] at e, rows_in (Rows.mono h ?_)⟩
   intro e w2 he
   exact hn _ _ he
  | _ => exact h.elim
end
section
variable {P : Program}
/-- One operation by a plain law. -/
theorem listIn_plain {l0 m : Nat} {ops : Array Oper} {Q : Exit → Act → World → Prop} {a : Act} {w : World} {o : Oper} {rest : List Oper} (hg : o.guard = none) (hd : ∀ c, o.op ≠ .defer c)
  (h : o.wp P a w (wpListIn (Fence.wide.inRound l0) m P ops Q rest) Q) : wpListIn (Fence.wide.inRound l0) m P ops Q (o :: rest) a w := by
 unfold wpListIn
 rw [if_pos (by simp [Region.wanted, hg])]
 exact op_in hd (fun _ _ h => h) h
theorem listIn_store_row {l0 m : Nat} {ops : Array Oper} {rest : List Oper} {o : Oper} {a : Act} {w : World} {Q : Exit → Act → World → Prop} (hgd : o.guard = none) (ty : TypeId) (x y : Operand) (ho : o.op = .store ty x y)
  (g : Nat) (cells : Array Value) (hx : a.eval x = .pointer (some ⟨g, 0, none⟩)) (hy : a.eval y = .agg cells)
  (t : TypeId) (old : Array Value) (hg : w.heap[g]? = some (.cells old t (0, 0))) (hi : (P.info? ty).map (·.size) = some cells.size)
  (hold : old.size = cells.size) (h1 : cells.all (·.oneCell') = true)
  (h : wpListIn (Fence.wide.inRound l0) m P ops Q rest (a.put o.dst undef) (w.setRow g cells)) : wpListIn (Fence.wide.inRound l0) m P ops Q (o :: rest) a w :=
 listIn_plain hgd (by rw [ho]; exact fun c hc => by cases hc) (wp_store_row ty x y ho g cells hx hy t old hg hi hold h1 h)
end
end Go.Free
