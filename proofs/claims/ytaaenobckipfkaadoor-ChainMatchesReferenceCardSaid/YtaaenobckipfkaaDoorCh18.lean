/- The reference's Same: whether two lists of entries are equal. No condition. -/
import Derived.Test.YtaaenobckipfkaaDoorChE
namespace Go.Proofs.YtaaenobckipfkaaDoor
open Go.RowKit Go.Blk Go.Opn

def sameB : List E31 → List E31 → Bool
  | [], [] => true
  | x :: a, y :: b => eqB x y && sameB a b
  | _, _ => false
theorem sameB_iff : ∀ a b : List E31, sameB a b = true ↔ a = b
  | [], [] => by simp [sameB]
  | x :: a, y :: b => by
    unfold sameB
    rw [Bool.and_eq_true, eqB_iff, sameB_iff a b]
    constructor
    · rintro ⟨rfl, rfl⟩; rfl
    · intro h; cases h; exact ⟨rfl, rfl⟩
  | [], _ :: _ => by simp [sameB]
  | _ :: _, [] => by simp [sameB]
theorem sameB_no {a b : List E31} (h : a ≠ b) : sameB a b = false := by
  cases hs : sameB a b
  · rfl
  · exact absurd ((sameB_iff a b).1 hs) h
def RSM (w : World) (a b : List E31) (i : Value) (wr : World) : Prop := ∃ k : Nat, k ≤ a.length ∧ i = .int .i64 k ∧ a.take k = b.take k ∧ Below w.heap.size w wr
set_option maxRecDepth 100000 in
set_option maxHeartbeats 4000000 in
theorem same_any (A A' : Option Addr) (c c' : Nat) (a b : List E31) (w : World) (ha : SL w 7 encE A a) (hb : SL w 7 encE A' b) (la : a.length ≤ 9223372036854775807) :
    Calls Tryd.prog 28 #[.slice A a.length c, .slice A' b.length c'] w fun e w' => e = .returned (.bool (sameB a b)) ∧ Below w.heap.size w w' := by
  by_cases hl : a.length = b.length
  · have hli : (a.length : Int) = (b.length : Int) := by omega
    have HA := Lib.hid ha
    have HB := Lib.hid hb
    have HST : Hid (RSM w a b (.int .i64 0) w) := ⟨0, Nat.zero_le _, rfl, by simp, Below.refl _ _⟩
    obtain ⟨n, hn⟩ : ∃ n, n = b.length := ⟨_, rfl⟩
    rw [← hn] at hl ⊢
    have HL := Lib.hid hl
    have HN := Lib.hid hn
    rw [hl]
    have hn1 : n ≤ 9223372036854775807 := by omega
    obtain ⟨R, eR⟩ : ∃ R, R = sameB a b := ⟨_, rfl⟩
    rw [← eR]
    have ER := Lib.hid eR
    clear ha hb hl la hli hn eR
    go_enter Tryd.func28, Tryd.ntmps28
    go_wp2_with fail
    go_loopw [5] (fun i wr => RSM w a b i wr) (fun i _ => n - (intOf i).toNat)
    case atStart => exact HST.out
    case round =>
      clear HST
      obtain ⟨k, hk, rfl, htk, hbr⟩ := hrel
      by_cases hlt : k < n
      · obtain ⟨x, hx⟩ : ∃ x, a[k]? = some x := ⟨_, List.getElem?_eq_getElem (by have := HL.out; omega)⟩
        obtain ⟨y, hy⟩ : ∃ y, b[k]? = some y := ⟨_, List.getElem?_eq_getElem (by have := HN.out; omega)⟩
        obtain ⟨bb, off, rfl, _⟩ := HA.out.at_ hx
        obtain ⟨b2, o2, rfl, _⟩ := HB.out.at_ hy
        have CX : Hid (∀ w', Below w.heap.size w w' → ∀ p u, (encE x)[p]? = some u → w'.cell? ⟨bb, off + k * 7 + p, none⟩ = some u) := fun w' hb p u hu => by
          obtain ⟨_, _, e1, h1⟩ := (HA.out.below hb (Nat.le_refl _)).at_ hx
          cases e1
          rw [Nat.add_assoc]; exact h1 p u hu
        have CY : Hid (∀ w', Below w.heap.size w w' → ∀ p u, (encE y)[p]? = some u → w'.cell? ⟨b2, o2 + k * 7 + p, none⟩ = some u) := fun w' hb p u hu => by
          obtain ⟨_, _, e1, h1⟩ := (HB.out.below hb (Nat.le_refl _)).at_ hy
          cases e1
          rw [Nat.add_assoc]; exact h1 p u hu
        have hyes : eqB x y = true → a.take (k + 1) = b.take (k + 1) := fun h => by
          have := (eqB_iff x y).1 h
          subst this
          obtain ⟨h1, e1⟩ := List.getElem?_eq_some_iff.1 hx
          obtain ⟨h2, e2⟩ := List.getElem?_eq_some_iff.1 hy
          rw [List.take_succ_eq_append_getElem h1, List.take_succ_eq_append_getElem h2, e1, e2, htk]
        have hno : eqB x y = false → R = false := fun h => by
          rw [ER.out]
          refine sameB_no (fun e => ?_)
          rw [e, hy] at hx
          cases hx
          rw [(eqB_iff _ _).2 rfl] at h; cases h
        have HYES := Lib.hid hyes
        have HNO := Lib.hid hno
        have hki : (k : Int) < (n : Int) := by omega
        have k00 : (0 : Int) ≤ (k : Int) := by omega
        have HBR := Lib.hid hbr
        clear hx hy hbr hyes hno htk
        go_wp2_with fail
        refine Free.wp_region_free 9 [] (fun w2 => Below w.heap.size w w2 ∧ True) (by kernel_rfl) (by kernel_rfl) ?_ ⟨HBR.out.drew, trivial⟩ (fun _ _ h g => ⟨h.1.trans (Below.mono g h.1.size), trivial⟩) ?_
        · intro j mk r hf
          simp only [Free.find] at hf
          cases hf
        simp only [List.take_succ_cons, List.take_zero]
        iterate 3 (apply Free.chain_still (by first | exact Free.wanted_of rfl rfl rfl | rfl) rfl; (intro w' hB hA; obtain ⟨qT, qU⟩ := hB; clear hA  qT qU; go_light; go_simp <;> rfl); (try simp only [Act.put, List.setIfInBounds_toArray, List.set_cons_succ, List.set_cons_zero]))
        apply Free.chain_still (by first | exact Free.wanted_of rfl rfl rfl | rfl) rfl
        · intro w' hB hA
          exact exec_entry (x := x) rfl rfl (CX.out w' hB.1)
        simp only [Act.put, List.setIfInBounds_toArray, List.set_cons_succ, List.set_cons_zero]
        iterate 3 (apply Free.chain_still (by first | exact Free.wanted_of rfl rfl rfl | rfl) rfl; (intro w' hB hA; obtain ⟨qT, qU⟩ := hB; clear hA  qT qU; go_light; go_simp <;> rfl); (try simp only [Act.put, List.setIfInBounds_toArray, List.set_cons_succ, List.set_cons_zero]))
        apply Free.chain_still (by first | exact Free.wanted_of rfl rfl rfl | rfl) rfl
        · intro w' hB hA
          exact exec_entry (x := y) rfl rfl (CY.out w' hB.1)
        simp only [Act.put, List.setIfInBounds_toArray, List.set_cons_succ, List.set_cons_zero]
        apply Free.chain_still rfl rfl
        · intro w' hB hA
          exact exec_neq (x := x) (y := y) rfl rfl rfl
        simp only [Act.put, List.setIfInBounds_toArray, List.set_cons_succ, List.set_cons_zero]
        apply Free.chain_nil
        intro wy hBz _ _
        have HBY := Lib.hid hBz.1
        simp only [List.drop_succ_cons, List.drop_zero]
        clear hBz HBR
        cases hq : eqB x y with
        | true =>
          have KEY : Hid (RSM w a b (.int .i64 ((k : Int) + 1)) wy) := ⟨k + 1, by have := HL.out; omega, by go_num, HYES.out hq, HBY.out⟩
          clear HBY hq CX CY HYES HNO
          simp only [Bool.not_true]
          go_wp2_with fail
          go_roundw
          case rel =>
            go_light
            have key := KEY.out
            first | exact key | ((repeat apply Exists.intro); exact ⟨key, rfl⟩)
          case measure => simp [intOf]; omega
        | false =>
          have HR := Lib.hid (HNO.out hq)
          clear hq CX CY HYES HNO
          simp only [Bool.not_false]
          go_wp2_with fail
          go_ret
          exact ⟨by rw [HR.out]; rfl, HBY.out⟩
      · have hki : ¬ ((k : Int) < (n : Int)) := by omega
        have hR : R = true := by
          rw [ER.out, sameB_iff]
          have h1 := HL.out
          have h2 := HN.out
          rwa [List.take_of_length_le (by omega), List.take_of_length_le (by omega)] at htk
        have HR := Lib.hid hR
        have HBR := Lib.hid hbr
        clear hbr hR htk
        go_wp2_with fail
        go_ret
        exact ⟨by rw [HR.out]; rfl, HBR.out⟩
  · have hli : ¬ ((a.length : Int) = (b.length : Int)) := by omega
    have hf : sameB a b = false := sameB_no (fun e => hl (by rw [e]))
    rw [hf]
    clear ha hb hl hf
    go_enter Tryd.func28, Tryd.ntmps28
    go_wp2_with fail
    go_ret
    exact ⟨rfl, Below.refl _ _⟩
end Go.Proofs.YtaaenobckipfkaaDoor
