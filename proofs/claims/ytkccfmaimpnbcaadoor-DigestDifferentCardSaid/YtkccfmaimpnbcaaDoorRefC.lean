/- The reference's constants (layer 28). No condition. -/
import Derived.Test.YtkccfmaimpnbcaaDoorLHead28
namespace Go.Proofs.YtkccfmaimpnbcaaDoor
open Go.RowKit Go.W32 Go.Blk

set_option maxRecDepth 100000 in
set_option maxHeartbeats 1000000 in
theorem constants_any (w : World) : Calls Tryd.prog 20 #[] w fun e w' => e = .returned (.slice (some ⟨w.heap.size, 0, none⟩) 64 64) ∧ Blk w' w.heap.size (KC.map W) 28 ∧ Below w.heap.size w w' := by
  go_enter Tryd.func20, Tryd.ntmps20
  go_wp2
  go_ret
  exact ⟨rfl, Blk.newA _ _ _, (Below.refl _ _).alloc (Nat.le_refl _) _⟩
end Go.Proofs.YtkccfmaimpnbcaaDoor
