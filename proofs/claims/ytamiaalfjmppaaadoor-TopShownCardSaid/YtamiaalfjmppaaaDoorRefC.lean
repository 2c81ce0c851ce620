/- The reference's constants (layer 28). No condition. -/
import Derived.Test.YtamiaalfjmppaaaDoorTab
namespace Go.Proofs.YtamiaalfjmppaaaDoor
open Go.RowKit Go.W32 Go.Blk

set_option maxRecDepth 100000 in
set_option maxHeartbeats 1000000 in
theorem constants_any (w : World) : Calls Tryd.prog 79 #[] w fun e w' => e = .returned (.slice (some ⟨w.heap.size, 0, none⟩) 64 64) ∧ Blk w' w.heap.size (KC.map W) 86 ∧ Below w.heap.size w w' := by
  go_enter Tryd.func79, Tryd.ntmps79
  go_wp2
  go_ret
  exact ⟨rfl, Blk.newA _ _ _, (Below.refl _ _).alloc (Nat.le_refl _) _⟩
end Go.Proofs.YtamiaalfjmppaaaDoor
