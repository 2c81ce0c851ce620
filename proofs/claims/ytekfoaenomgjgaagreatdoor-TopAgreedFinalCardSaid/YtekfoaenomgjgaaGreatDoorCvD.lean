/- Package contract: natural, held. Condition: the contract lies in memory. -/
import Derived.Test.YtekfoaenomgjgaaGreatDoorCvC
import Derived.Deep.LoopGhost
set_option maxRecDepth 100000
set_option linter.unusedSimpArgs false
set_option linter.unusedVariables false
namespace Go.Proofs.YtekfoaenomgjgaaGreatDoor
open Go.RowKit Go.W32 Go.Blk Go.Cs Go.Lib Go.Opn Go.Mg Go.Cv

set_option maxHeartbeats 1000000 in
theorem nat_any (c : ConM) (i : Int) (W : World) (hc : ConAt W c) : Calls Tryz.prog 124 #[.agg (encCon c).toArray, .int .i64 i] W fun e w' => e = .returned (.bool (natB c.acts i)) ∧ Below W.heap.size W w' := by
 obtain ⟨R, eR⟩ : ∃ R : Ending → World → Prop, R = fun e w' => e = .returned (.bool (natB c.acts i)) ∧ Below W.heap.size W w' := ⟨_, rfl⟩
 rw [← eR]
 have FIN : Hid (∀ w' v, v = natB c.acts i → Below W.heap.size W w' → R (.returned (.bool v)) w') := Lib.hid fun w' v h hb => by rw [eR, h]; exact ⟨rfl, hb⟩
 clear eR
 obtain ⟨W1, cs, hx⟩ := boxC W c
 obtain ⟨k0, k1, k2, k3, k4, k5, k6⟩ := ConC.of (T := 27) (b := W.heap.size) (w := W1) (c := c) (by rw [← hx.cs]; exact hx.row)
 have E1 := Lib.hid hx.e
 have HB1 := Lib.hid hx.below
 have hA := hc.a.below hx.below (Nat.le_refl _)
 rw [← hx.cs]
 clear hx k0 k1 k2 k4 k5 k6 hc
 by_cases h : 0 ≤ i
 rotate_left
 ·have hb : decide (0 ≤ i) = false := decide_eq_false h
  have HF := Lib.hid (FIN.out W1 false (by unfold natB movB; rw [hb]; rfl) HB1.out)
  clear FIN hA
  go_enter Tryz.func124, Tryz.ntmps124
  go_wp2_with (simp only [E1.out])
  exact HF.out
 have hb : decide (0 ≤ i) = true := decide_eq_true h
 by_cases h2 : i < (c.acts.length : Int)
 rotate_left
 ·have hb2 : decide (i < (c.acts.length : Int)) = false := decide_eq_false h2
  have HF := Lib.hid (FIN.out W1 false (by unfold natB movB; rw [hb2, Bool.and_false]; rfl) HB1.out)
  clear FIN hA
  go_enter Tryz.func124, Tryz.ntmps124
  go_wp2_with (simp only [E1.out])
  exact HF.out
 have hb2 : decide (i < (c.acts.length : Int)) = true := decide_eq_true h2
 obtain ⟨j, rfl⟩ : ∃ j : Nat, i = (j : Int) := ⟨i.toNat, by omega⟩
 obtain ⟨a, ea⟩ : ∃ x, c.acts[j]? = some x := ⟨_, List.getElem?_eq_getElem (by omega)⟩
 obtain ⟨b, off, eA⟩ := sl_addr hA (by intro e; rw [e] at ea; simp at ea)
 rw [eA] at k3 hA
 have hr := sl_range hA ea
 have a0 : W1.cell? ⟨b, off + j * 7, none⟩ = some (.int .i64 a.kind) := by have h := hr 0 (.int .i64 a.kind) rfl; rwa [Nat.add_zero] at h
 have a1 : W1.cell? ⟨b, off + j * 7 + 1, none⟩ = some (.int .i64 a.role) := hr 1 _ rfl
 have HV : Hid (natB c.acts (j : Int) = (decide (a.kind = 1) && decide (a.role = -1))) := Lib.hid (by unfold natB movB; rw [hb, hb2, Int.toNat_natCast, ea]; rfl)
 clear hr hA ea eA
 by_cases h3 : a.kind = 1
 rotate_left
 ·have hb3 : (a.kind == 1) = false := by simpa using h3
  have HF := Lib.hid (FIN.out W1 false (by rw [HV.out, decide_eq_false h3]; rfl) HB1.out)
  clear FIN HV h3
  go_enter Tryz.func124, Tryz.ntmps124
  go_wp2_with (simp only [E1.out])
  exact HF.out
 have hb3 : (a.kind == 1) = true := by simpa using h3
 by_cases h4 : a.role = -1
 ·have hb4 : (a.role == -1) = true := by simpa using h4
  have HF := Lib.hid (FIN.out W1 true (by rw [HV.out, decide_eq_true h3, decide_eq_true h4]; rfl) HB1.out)
  clear FIN HV h3 h4
  go_enter Tryz.func124, Tryz.ntmps124
  go_wp2_with (simp only [E1.out])
  exact HF.out
 ·have hb4 : (a.role == -1) = false := by simpa using h4
  have HF := Lib.hid (FIN.out W1 false (by rw [HV.out, decide_eq_false h4, Bool.and_false]) HB1.out)
  clear FIN HV h3 h4
  go_enter Tryz.func124, Tryz.ntmps124
  go_wp2_with (simp only [E1.out])
  exact HF.out
def heldB (parties : Int) (l : List Int) : Bool := l.all fun h => decide (0 ≤ h) && decide (h < parties)
set_option maxHeartbeats 1000000 in
theorem held_any (c : ConM) (W : World) (hc : ConAt W c) (hn : c.holders.length ≤ 12) (hp : c.parties ≤ 12) : Calls Tryz.prog 120 #[.agg (encCon c).toArray] W fun e w' => e = .returned (.bool (heldB c.parties c.holders)) ∧ Below W.heap.size W w' := by
 obtain ⟨R, eR⟩ : ∃ R : Ending → World → Prop, R = fun e w' => e = .returned (.bool (heldB c.parties c.holders)) ∧ Below W.heap.size W w' := ⟨_, rfl⟩
 rw [← eR]
 have FIN : Hid (∀ w' v, v = heldB c.parties c.holders → Below W.heap.size W w' → R (.returned (.bool v)) w') := Lib.hid fun w' v h hb => by rw [eR, h]; exact ⟨rfl, hb⟩
 clear eR
 obtain ⟨W1, cs, hx⟩ := boxC W c
 obtain ⟨k0, k1, k2, k3, k4, k5, k6⟩ := ConC.of (T := 27) (b := W.heap.size) (w := W1) (c := c) (by rw [← hx.cs]; exact hx.row)
 have E1 := Lib.hid hx.e
 have HB1 := Lib.hid hx.below
 have HS := Lib.hid (hc.h.below hx.below (Nat.le_refl _))
 rw [← hx.cs]
 clear hx k2 k3 k4 k5 k6 hc
 have HP := Lib.hid hp
 clear hp
 go_enter Tryz.func120, Tryz.ntmps120
 go_wp2_with (simp only [E1.out])
 go_step3
 go_wp2_with fail
 go_step3
 go_wp2_with fail
 go_loopg [8] c.holders.length (fun g v wx => ∃ k : Nat, k + g = c.holders.length ∧ v = .int .i64 (k : Int) ∧ Hid (heldB c.parties (c.holders.take k) = true) ∧ wx = W1)
 case atStart => exact ⟨0, by omega, rfl, Lib.hid (by simp [heldB]), rfl⟩
 case round =>
  obtain ⟨k, hk, rfl, hal, hwx⟩ := hrel
  subst hwx
  rcases Nat.lt_or_ge k c.holders.length with hkl | hkl
  ·have hki : (k : Int) < (c.holders.length : Int) := by omega
   obtain ⟨x, ex⟩ : ∃ x, c.holders[k]? = some x := ⟨_, List.getElem?_eq_getElem hkl⟩
   obtain ⟨b, off, eA⟩ := sl_addr HS.out (by intro e; rw [e] at hkl; simp at hkl)
   have cx : wr.cell? ⟨b, off + k, none⟩ = some (.int .i64 x) := by have h := HS.out; rw [eA] at h; exact sl_cell1 h ex
   rw [eA] at k1
   obtain ⟨go, hgo⟩ : ∃ go, gk = go + 1 := ⟨gk - 1, by omega⟩
   have HGO := Lib.hid hgo
   have HKG : Hid ((k + 1) + go = c.holders.length) := Lib.hid (by omega)
   have EX := Lib.hid ex
   have HKL := Lib.hid hkl
   generalize gk = gk0 at *
   clear ex eA hk hgo hkl
   go_wp2_with fail
   go_loopg [13] 12 (fun g v wx => ∃ p : Nat, p + g = 12 ∧ v = .int .i64 (p : Int) ∧ Hid (∀ q : Nat, q < p → (q : Int) ≠ x) ∧ Hid ((p : Int) ≤ c.parties ∨ p = 0) ∧ wx = wr)
   case atStart => exact ⟨0, rfl, rfl, Lib.hid (fun q hq => by omega), Lib.hid (Or.inr rfl), rfl⟩
   case round =>
    obtain ⟨p, hpg, rfl, hpp, hpl, hwx⟩ := hrel
    subst hwx
    by_cases hlt : (p : Int) < c.parties
    ·have hp12 : p < 12 := by have := HP.out; omega
     by_cases hxp : x = (p : Int)
     ·have HNX : Hid (heldB c.parties (c.holders.take (k + 1)) = true) := Lib.hid (by
       unfold heldB
       exact all_more EX.out hal.out (by rw [hxp, decide_eq_true (by omega), decide_eq_true hlt]; rfl))
      rw [hxp] at cx
      clear hxp hpg
      go_wp2_with fail
      go_roundg go
      case measure => have := HGO.out; omega
      case rel => exact ⟨k + 1, HKG.out, rfl, HNX, rfl⟩
     ·have hxb : (x == (p : Int)) = false := by simpa using hxp
      have HPG := Lib.hid hpg
      have HNX : Hid (∀ q : Nat, q < p + 1 → (q : Int) ≠ x) := Lib.hid (fun q hq => by
       rcases Nat.lt_or_eq_of_le (Nat.le_of_lt_succ hq) with h | h
       ·exact hpp.out q h
       ·rw [h]; exact fun e => hxp e.symm)
      have HPX : Hid (((p + 1 : Nat) : Int) ≤ c.parties ∨ p + 1 = 0) := Lib.hid (Or.inl (by omega))
      clear hxp hpg
      go_wp2_with fail
      go_roundg (11 - p)
      case measure => have := HPG.out; omega
      case rel => exact ⟨p + 1, by omega, by go_num, HNX, HPX, rfl⟩
    ·have HF := Lib.hid (FIN.out wr false (by
      unfold heldB
      symm
      refine all_less EX.out ?_
      by_cases h0 : 0 ≤ x
      ·have hx : ¬ x < c.parties := fun h => by
        have h1 := hpp.out x.toNat (by rcases hpl.out with h2 | h2 <;> omega)
        omega
       rw [decide_eq_false hx, Bool.and_false]
      ·rw [decide_eq_false h0]; rfl) HB1.out)
     clear FIN
     go_wp2_with fail
     first
      | exact HF.out
      | (rw [Exit.noGoto_ret]; exact HF.out)
  ·have hki : ¬ (k : Int) < (c.holders.length : Int) := by omega
   have HF := Lib.hid (FIN.out wr true (by have := hal.out; rw [List.take_of_length_le hkl] at this; exact this.symm) HB1.out)
   clear FIN hk
   go_wp2_with fail
   first
    | exact HF.out
    | (rw [Exit.noGoto_ret]; exact HF.out)
end Go.Proofs.YtekfoaenomgjgaaGreatDoor
