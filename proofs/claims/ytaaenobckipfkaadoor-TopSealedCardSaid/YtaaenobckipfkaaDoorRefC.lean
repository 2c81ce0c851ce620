/- The reference's constants (layer 28). No condition. -/
import Derived.Test.YtaaenobckipfkaaDoorTab
namespace Go.Proofs.YtaaenobckipfkaaDoor
open Go.RowKit Go.W32 Go.Blk

set_option maxRecDepth 100000 in
set_option maxHeartbeats 1000000 in
theorem constants_any (w : World) : Calls Tryd.prog 85 #[] w fun e w' => e = .returned (.slice (some ⟨w.heap.size, 0, none⟩) 64 64) ∧ Blk w' w.heap.size (KC.map W) 99 ∧ Below w.heap.size w w' := by
  go_enter Tryd.func85, Tryd.ntmps85
  go_wp2
  go_ret
  exact ⟨rfl, Blk.newA _ _ _, (Below.refl _ _).alloc (Nat.le_refl _) _⟩
end Go.Proofs.YtaaenobckipfkaaDoor
