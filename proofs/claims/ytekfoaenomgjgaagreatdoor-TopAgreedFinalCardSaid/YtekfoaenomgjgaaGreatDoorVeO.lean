/- The contract of the check of agreed spans. No condition. -/
import Derived.Test.YtekfoaenomgjgaaGreatDoorQB
set_option maxRecDepth 100000
set_option linter.unusedSimpArgs false
set_option linter.unusedVariables false
set_option linter.unnecessarySimpa false
namespace Go.Proofs.YtekfoaenomgjgaaGreatDoor
open Go.RowKit Go.W32 Go.Blk Go.Cs Go.Lib Go.Opn Go.Mg Go.Cv

theorem alloc7 (W : World) (a0 a1 a2 a3 a4 a5 a6 : Obj) (V : World) (e : V = ((((((W.alloc a0).alloc a1).alloc a2).alloc a3).alloc a4).alloc a5).alloc a6) :
  V.heap[W.heap.size]? = some a0 ∧ V.heap[W.heap.size + 1 + 1 + 1 + 1]? = some a4 ∧ V.heap[W.heap.size + 1 + 1 + 1 + 1 + 1]? = some a5 ∧ V.heap[W.heap.size + 1 + 1 + 1 + 1 + 1 + 1]? = some a6 ∧ Below W.heap.size W V := by
 have hb : Below W.heap.size W V := by
  rw [e]
  exact (((((((Below.refl _ _).alloc (Nat.le_refl _) _).alloc (by simp) _).alloc (by simp; omega) _).alloc (by simp; omega) _).alloc (by simp; omega) _).alloc (by simp; omega) _).alloc (by simp; omega) _
 refine ⟨?_, ?_, ?_, ?_, hb⟩ <;> (rw [e]; simp only [World.alloc, Array.getElem?_push, Array.size_push])
 ·rw [if_neg (by omega), if_neg (by omega), if_neg (by omega), if_neg (by omega), if_neg (by omega), if_neg (by omega), if_pos trivial]
 ·rw [if_neg (by omega), if_neg (by omega), if_pos trivial]
 ·rw [if_neg (by omega), if_pos trivial]
 ·rw [if_pos trivial]
/-- Where the contract of the check lies. -/
def duM (n : Nat) : ConM := ⟨2, [0, 1], [], [⟨1, 0, 0, -1, -1, 0, 1⟩], [(duK 3, (none, 0))], 6, [], some ⟨n + 1 + 1 + 1 + 1, 0, none⟩, 2, none, 0, some ⟨n + 1 + 1 + 1 + 1 + 1, 0, none⟩, 1, some ⟨n + 1 + 1 + 1 + 1 + 1 + 1, 0, none⟩, 1, none, 0⟩
theorem duM_at {V : World} {n : Nat} {a b c : TypeId} (h4 : Row V (n + 1 + 1 + 1 + 1) a [.int .i64 0, .int .i64 1]) (h5 : Row V (n + 1 + 1 + 1 + 1 + 1) b (encAc ⟨1, 0, 0, -1, -1, 0, 1⟩)) (h6 : Row V (n + 1 + 1 + 1 + 1 + 1 + 1) c (encKl (duK 3, (none, 0)))) : ConAt V (duM n) :=
 ⟨Apl.sl_of_cells (fun _ => rfl) h4 (fun j u hj => by simpa [duM, Cs.encI] using hj), SL.nil, Apl.sl_of_cells (fun _ => rfl) h5 (fun j u hj => by simpa [duM] using hj), Apl.sl_of_cells (fun _ => rfl) h6 (fun j u hj => by simpa [duM] using hj), SL.nil, fun k hk => by
  simp only [duM, List.mem_singleton] at hk
  subst hk
  exact SL.nil⟩
def DuPost (W : World) (e : Ending) (w' : World) : Prop := Below W.heap.size W w' ∧ ∃ c : ConM, e = .returned (.agg (encCon c).toArray) ∧ c.con = duC 3 ∧ ConAt w' c ∧ ConSz c
theorem duty_end {R : Ending → World → Prop} (W V : World) (tmps : Array Value) (h0 : tmps.getD 0 undef = .pointer (some ⟨W.heap.size, 0, none⟩)) (a1 a2 a3 : Obj)
  (eV : V = ((((((W.alloc (.cells (encCon (duM W.heap.size)).toArray 27)).alloc a1).alloc a2).alloc a3).alloc (.cells #[.int .i64 0, .int .i64 1] 3)).alloc (.cells (encAc ⟨1, 0, 0, -1, -1, 0, 1⟩).toArray 98)).alloc (.cells (encKl (duK 3, (none, 0))).toArray 45))
  (hR : R = DuPost W) : bodyPost Tryz.prog Tryz.f23 R .ret { tmps, defers := [] } V := by
 obtain ⟨h1, h4, h5, h6, hb⟩ := alloc7 W _ _ _ _ _ _ _ V eV
 refine bodyPost_ret (v := .agg (encCon (duM W.heap.size)).toArray) (Hk.results_cell_row (fn := Tryz.f23) (p := 0) (ty := 27) rfl _ _ W.heap.size 27 (encCon (duM W.heap.size)).toArray (0, 0) _ h0 h1 Tryz.underlying27 rfl (by kernel_rfl)) rfl ?_
 rw [hR]
 exact ⟨hb, duM W.heap.size, rfl, rfl, duM_at h4 h5 h6, (by decide : (2 : Nat) ≤ 9223372036854775807), (by decide : (0 : Nat) ≤ 9223372036854775807), (by decide : (1 : Nat) ≤ 9223372036854775807), (by decide : (1 : Nat) ≤ 9223372036854775807), (by decide : (0 : Nat) ≤ 9223372036854775807), Nat.le_refl 0, fun k hk => by
  simp only [duM, List.mem_singleton] at hk
  subst hk
  decide⟩
set_option maxHeartbeats 1000000 in
theorem duty_any (W : World) : Calls Tryz.prog 23 #[] W (DuPost W) := by
 obtain ⟨R, eR⟩ : ∃ R, R = DuPost W := ⟨_, rfl⟩
 rw [← eR]
 have ER := Lib.hid eR
 clear eR
 go_enter Tryz.func23, Tryz.ntmps23
 go_wp2_with fail
 exact duty_end W _ _ rfl _ _ _ rfl ER.out
end Go.Proofs.YtekfoaenomgjgaaGreatDoor
