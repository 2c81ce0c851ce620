/- Package journal: read of a sector that the disk gives. -/
import Derived.Test.YthfjaaigncjhlaaGreatDoorJo5
import Derived.Test.YthfjaaigncjhlaaGreatDoorDk6
namespace Go.Proofs.YthfjaaigncjhlaaGreatDoor
open Go.RowKit Go.Blk Go.Jn Go.Dk Go.Mp
set_option maxRecDepth 100000 in
theorem jread_ok {w : World} {jb b bs bm n : Nat} {pv : Value} {d : DD} (hj : w.cell? ⟨jb, 5, none⟩ = some (.pointer (some ⟨b, 0, none⟩))) (h : DiskAt w b bs bm pv d n) (s : Int) (hr : (DD.read n d s).2 = 0) :
    Calls Tryz.prog 62 #[.pointer (some ⟨jb, 0, none⟩), .int .i64 s] w fun e w' => e = .returned (.string ⟨(DD.read n d s).1.toArray⟩) ∧ w = w' := by
  have R1 := Lib.hid (read_any h s)
  have C1 := Lib.hid (check_ok w)
  rw [hr] at R1
  obtain ⟨x, ex⟩ : ∃ x : ByteArray, x = ⟨(DD.read n d s).1.toArray⟩ := ⟨_, rfl⟩
  rw [← ex] at R1 ⊢
  obtain ⟨R, eR⟩ : ∃ R : Ending → World → Prop, R = fun e w' => e = .returned (.string x) ∧ w = w' := ⟨_, rfl⟩
  rw [← eR]
  have F : Hid (R (.returned (.string x)) w) := by rw [eR]; exact ⟨rfl, rfl⟩
  clear eR ex hr h
  go_enter Tryz.func62, Tryz.ntmps62
  go_wp2_with fail
  refine R1.out.mono ?_
  rintro e w' ⟨rfl, rfl⟩
  go_wp2_with fail
  refine C1.out.mono ?_
  rintro e w' ⟨rfl, rfl⟩
  go_wp2_with fail
  first
    | exact F.out
    | exact ⟨_, rfl, rfl, F.out⟩
    | exact ⟨_, rfl, F.out⟩
end Go.Proofs.YthfjaaigncjhlaaGreatDoor
