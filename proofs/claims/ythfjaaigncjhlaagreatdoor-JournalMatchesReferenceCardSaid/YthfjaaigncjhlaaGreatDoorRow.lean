/- Single operations of a region that does not draw its order, by what they are known to do. No condition. -/
import Derived.Test.YthfjaaigncjhlaaGreatDoorFree
import Derived.BigFrame
namespace Go.Row
open Go Go.RowKit
section
variable {P : Program} {ops : Array Oper} {Q : Exit → Act → World → Prop} {a : Act} {w : World} {rest : List Oper} {o : Oper}
theorem step (hw : Region.wanted o (yielded ops a.tmps) = true) {K : Value → World → Prop} (h1 : Free.opRun P o a.eval w K) (h2 : ∀ v w', K v w' → wpList P ops Q rest (a.put o.dst v) w') : wpList P ops Q (o :: rest) a w :=
  BigFrame.wpList_want hw fun _ hK => Free.opRun_wp h1 fun v w' hv => hK _ _ (h2 v w' hv)
theorem moved (hw : Region.wanted o (yielded ops a.tmps) = true) {v : Value} {w' : World} (h1 : (execOp a.eval o).run P w = .ok (.value v) w') (h2 : wpList P ops Q rest (a.put o.dst v) w') : wpList P ops Q (o :: rest) a w :=
  step hw (K := fun u x => u = v ∧ x = w') (Free.opRun_of h1 ⟨rfl, rfl⟩) (by rintro _ _ ⟨rfl, rfl⟩; exact h2)
theorem still (hw : Region.wanted o (yielded ops a.tmps) = true) {v : Value} (h1 : (execOp a.eval o).run P w = .ok (.value v) w) (h2 : wpList P ops Q rest (a.put o.dst v) w) : wpList P ops Q (o :: rest) a w := moved hw h1 h2
end
end Go.Row
