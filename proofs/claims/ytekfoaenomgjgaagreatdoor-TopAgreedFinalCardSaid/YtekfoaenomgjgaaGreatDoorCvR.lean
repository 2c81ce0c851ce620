/- Package quantity: Valid. No condition. -/
import Derived.Test.YtekfoaenomgjgaaGreatDoorCvQ
set_option maxRecDepth 100000
set_option linter.unusedSimpArgs false
set_option linter.unusedVariables false
namespace Go.Proofs.YtekfoaenomgjgaaGreatDoor
open Go.RowKit Go.W32 Go.Blk Go.Cs Go.Lib Go.Opn Go.Mg Go.Cv

theorem range_more {p : Nat → Bool} {n k : Nat} (h : (List.range k).all p = true) (hp : p k = true) (_hk : k < n) : (List.range (k + 1)).all p = true := by
 rw [List.range_succ, List.all_append, h]
 simp [hp]
theorem range_less {p : Nat → Bool} {n k : Nat} (hk : k < n) (hp : p k = false) : (List.range n).all p = false := by
 rw [List.all_eq_false]
 exact ⟨k, List.mem_range.2 hk, by simp [hp]⟩
def qvAt (us : List Un) (i : Nat) : Bool := match us[i]? with | some u => unitV us i u | none => true
theorem qvAt_of {us : List Un} {i : Nat} {u : Un} (h : us[i]? = some u) : qvAt us i = unitV us i u := by unfold qvAt; rw [h]
def QvPost (us : List Un) (W : World) (e : Ending) (w' : World) : Prop := (∃ i : Int, e = .returned (.tuple #[.int .i64 i, .bool (unitsV us)])) ∧ Below W.heap.size W w'
set_option maxHeartbeats 1000000 in
theorem qv_any (A : Option Addr) (c : Nat) (us : List Un) (W : World) (hl : SL W 5 encUn A us) (hc : us.length ≤ c) (hn : us.length ≤ 1000) : Calls Tryz.prog 121 #[.slice A us.length c] W (QvPost us W) := by
 obtain ⟨R, eR⟩ : ∃ R, R = QvPost us W := ⟨_, rfl⟩
 rw [← eR]
 have FIN : Hid (∀ w' i v, v = (List.range us.length).all (qvAt us) → Below W.heap.size W w' → R (.returned (.tuple #[.int .i64 i, .bool v])) w') := Lib.hid fun w' i v h hb => by rw [eR, h]; exact ⟨⟨i, rfl⟩, hb⟩
 clear eR
 have CT : Hid (∀ (i : Nat) u w', us[i]? = some u → Below W.heap.size W w' → Calls Tryz.prog 161 #[.slice A us.length c, .int .i64 (i : Int)] w' fun e w'' => e = .returned (.bool (unitV us i u)) ∧ Below w'.heap.size w' w'') := Lib.hid fun i u w' h hb => tv_any A c us i u w' h (hl.below hb (Nat.le_refl _)) hc hn
 have HN := Lib.hid hn
 clear hl hc hn
 go_enter Tryz.func121, Tryz.ntmps121
 go_wp2_with fail
 go_loopw [7] (fun v wr => ∃ k : Nat, v = .int .i64 (k : Int) ∧ k ≤ us.length ∧ Hid ((List.range k).all (qvAt us) = true) ∧ Below W.heap.size W wr) (fun v _ => (us.length : Int).toNat - (RowKit.intOf v).toNat)
 case atStart => exact ⟨0, rfl, Nat.zero_le _, Lib.hid rfl, Below.refl _ _⟩
 case round =>
  obtain ⟨k, rfl, hk, hal, hbw⟩ := hrel
  have hkb : (k : Int) ≤ 1000 := by have := HN.out; omega
  rcases Nat.lt_or_eq_of_le hk with hkl | hkl
  ·have hki : (k : Int) < (us.length : Int) := by omega
   obtain ⟨u, eu⟩ : ∃ x, us[k]? = some x := ⟨_, List.getElem?_eq_getElem hkl⟩
   have CT1 := Lib.hid (CT.out k u wr eu hbw)
   have HQ := Lib.hid (qvAt_of eu)
   have HBW := Lib.hid hbw
   obtain ⟨v, ev⟩ : ∃ v, v = unitV us k u := ⟨_, rfl⟩
   rw [← ev] at CT1 HQ
   clear eu hbw ev hk
   go_wp2_with fail
   refine CT1.out.mono ?_
   rintro e w2 ⟨rfl, hb2⟩
   have HB2 := Lib.hid (HBW.out.trans (hb2.mono HBW.out.size))
   clear hb2 CT1
   cases v with
   | true =>
    go_wp2_with fail
    go_roundw
    case rel => exact ⟨k + 1, rfl, hkl, Lib.hid (range_more hal.out HQ.out hkl), HB2.out⟩
    case measure => simp [RowKit.intOf]; omega
   | false =>
    have HF := Lib.hid (FIN.out w2 (k : Int) false (range_less hkl HQ.out).symm HB2.out)
    clear FIN
    go_wp2_with fail
    exact HF.out
  ·have hki : ¬ (k : Int) < (us.length : Int) := by omega
   have HF := Lib.hid (FIN.out wr (-1) true (by rw [← hkl]; exact hal.out.symm) hbw)
   clear hbw hal FIN hk
   go_wp2_with fail
   exact HF.out
end Go.Proofs.YtekfoaenomgjgaaGreatDoor
