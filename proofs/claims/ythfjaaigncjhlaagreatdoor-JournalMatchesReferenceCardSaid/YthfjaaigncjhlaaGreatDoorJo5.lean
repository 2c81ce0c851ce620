/- Package journal: check of a code that is no error. -/
import Derived.Test.YthfjaaigncjhlaaGreatDoorJo4
namespace Go.Proofs.YthfjaaigncjhlaaGreatDoor
open Go.RowKit Go.Blk Go.Jn
set_option maxRecDepth 100000 in
theorem check_ok (w : World) : Calls Tryz.prog 70 #[.int .i64 0] w fun e w' => e = .returned (.tuple #[]) ∧ w = w' := by
  obtain ⟨R, eR⟩ : ∃ R : Ending → World → Prop, R = fun e w' => e = .returned (.tuple #[]) ∧ w = w' := ⟨_, rfl⟩
  rw [← eR]
  have F : Hid (R (.returned (.tuple #[])) w) := by rw [eR]; exact ⟨rfl, rfl⟩
  clear eR
  go_enter Tryz.func70, Tryz.ntmps70
  go_wp2_with fail
  first
    | exact F.out
    | exact ⟨_, rfl, rfl, F.out⟩
    | exact ⟨_, rfl, F.out⟩
    | exact bodyPost_ret (results_none rfl _ _ _) rfl F.out
end Go.Proofs.YthfjaaigncjhlaaGreatDoor
