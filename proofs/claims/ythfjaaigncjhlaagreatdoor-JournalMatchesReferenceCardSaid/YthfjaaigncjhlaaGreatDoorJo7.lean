/- Package journal: check of an error, the room. No condition. -/
import Derived.Test.YthfjaaigncjhlaaGreatDoorJo6
import Derived.Test.YthfjaaigncjhlaaGreatDoorJnV
namespace Go.Proofs.YthfjaaigncjhlaaGreatDoor
open Go.RowKit Go.Blk Go.Jn Go.Dk Go.Mp
/-- The panic that an error of the disk starts. -/
def bad (c : Int) : List PanicEntry := [{ v := .iface 99 (.int .i64 c), recovered := false }]
set_option maxRecDepth 100000 in
theorem check_bad (c : Int) (w : World) (hc : (c == 0) = false) : Calls Tryz.prog 70 #[.int .i64 c] w fun e w' => e = .panicked (bad c) ∧ w = w' := by
  have hc2 : (c != 0) = true := by rw [bne, hc]; rfl
  obtain ⟨R, eR⟩ : ∃ R : Ending → World → Prop, R = fun e w' => e = .panicked (bad c) ∧ w = w' := ⟨_, rfl⟩
  rw [← eR]
  have F : Hid (R (.panicked (bad c)) w) := by rw [eR]; exact ⟨rfl, rfl⟩
  clear eR
  go_enter Tryz.func70, Tryz.ntmps70
  go_wp2_with fail
  first
    | exact F.out
    | exact ⟨rfl, F.out⟩
theorem room_any {w : World} {jb : Nat} (s : Nat) (hj : w.cell? ⟨jb, 4, none⟩ = some (.int .i64 (s : Int))) (hs : s ≤ 100000) : Calls Tryz.prog 43 #[.pointer (some ⟨jb, 0, none⟩)] w fun e w' => e = .returned (.int .i64 ((32 * s : Nat) : Int)) ∧ w = w' := by
  go_enter Tryz.func43, Tryz.ntmps43
  go_wp2_with fail
  go_ret
  refine ⟨?_, rfl⟩
  congr 2
  first | go_num | omega
end Go.Proofs.YthfjaaigncjhlaaGreatDoor
