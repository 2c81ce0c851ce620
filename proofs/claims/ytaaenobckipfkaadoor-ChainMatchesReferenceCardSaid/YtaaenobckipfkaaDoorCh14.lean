/- Plain facts on Check: the first entry with an error; days. No condition. -/
import Derived.Test.YtaaenobckipfkaaDoorChO
namespace Go.Proofs.YtaaenobckipfkaaDoor

theorem chkGo_first {l : List E31} {house pub : Int} {k : Nat} {e : E31} (hk : l[k]? = some e) (h0 : chk1 l k e house pub ≠ 0) (hb : ∀ i x, i < k → l[i]? = some x → chk1 l i x house pub = 0) : ∀ (n i : Nat), i ≤ k → k < i + n → chkGo l house pub n i = (chk1 l k e house pub, (k : Int))
  | 0, i, h1, h2 => by omega
  | n + 1, i, h1, h2 => by
    by_cases hik : i = k
    · subst hik; exact chkGo_bad hk h0
    · obtain ⟨x, hx⟩ : ∃ x, l[i]? = some x := ⟨_, List.getElem?_eq_getElem (by have := (List.getElem?_eq_some_iff.1 hk).1; omega)⟩
      rw [chkGo_ok hx (hb i x (by omega) hx)]
      exact chkGo_first hk h0 hb n (i + 1) (by omega) (by omega)
theorem chk_first {l : List E31} {house pub : Int} {k : Nat} {e : E31} (hks : keysOk house pub) (hk : l[k]? = some e) (h0 : chk1 l k e house pub ≠ 0) (hb : ∀ i x, i < k → l[i]? = some x → chk1 l i x house pub = 0) : chk l house pub = (chk1 l k e house pub, (k : Int)) := by
  unfold chk
  rw [if_pos hks]
  exact chkGo_first hk h0 hb _ 0 (Nat.zero_le _) (by have := (List.getElem?_eq_some_iff.1 hk).1; omega)
/-- The first number with a property. -/
theorem least (p : Nat → Prop) : ∀ n, p n → ∃ k, k ≤ n ∧ p k ∧ ∀ i, i < k → ¬ p i
  | 0, h => ⟨0, Nat.le_refl _, h, fun i hi => by omega⟩
  | n + 1, h => by
    by_cases hs : ∃ i, i ≤ n ∧ p i
    · obtain ⟨i, hi, hp⟩ := hs
      obtain ⟨k, h1, h2, h3⟩ := least p i hp
      exact ⟨k, by omega, h2, h3⟩
    · exact ⟨n + 1, Nat.le_refl _, h, fun i hi hp => hs ⟨i, by omega, hp⟩⟩
/-- What Check says of a list that is no chain. -/
theorem chk_bad {l : List E31} {house pub : Int} (h : (chk l house pub).1 ≠ 0) : chk l house pub = (1, -1) ∨
    ∃ k : Nat, k < l.length ∧ (chk l house pub).2 = (k : Int) ∧ (chk (l.take k) house pub).1 = 0 ∧ chk (l.take (k + 1)) house pub = chk l house pub := by
  by_cases hks : keysOk house pub
  · have hex : ∃ n, ∃ e, l[n]? = some e ∧ chk1 l n e house pub ≠ 0 := by
      apply Classical.byContradiction
      intro hn
      exact h ((chk_ok_iff _ _ _).2 ⟨hks, fun i e he => Classical.byContradiction fun h0 => hn ⟨i, e, he, h0⟩⟩)
    obtain ⟨n, hn⟩ := hex
    obtain ⟨k, _, ⟨e, hk, h0⟩, hl⟩ := least (fun n => ∃ e, l[n]? = some e ∧ chk1 l n e house pub ≠ 0) n hn
    have hb : ∀ i x, i < k → l[i]? = some x → chk1 l i x house pub = 0 := fun i x hi hx => Classical.byContradiction fun h1 => hl i hi ⟨x, hx, h1⟩
    have hlt := (List.getElem?_eq_some_iff.1 hk).1
    have e1 := chk_first hks hk h0 hb
    refine .inr ⟨k, hlt, by rw [e1], ?_, ?_⟩
    · refine (chk_ok_iff _ _ _).2 ⟨hks, fun i x hx => ?_⟩
      rw [List.getElem?_take] at hx
      split at hx
      · rename_i hi; rw [chk1_take (by omega)]; exact hb i x hi hx
      · cases hx
    · rw [e1]
      have hk2 : (l.take (k + 1))[k]? = some e := by rw [List.getElem?_take, if_pos (by omega)]; exact hk
      have e2 := chk_first (l := l.take (k + 1)) (pub := pub) hks hk2 (by rw [chk1_take (by omega)]; exact h0) (fun i x hi hx => by
        rw [List.getElem?_take, if_pos (by omega)] at hx
        rw [chk1_take (by omega)]; exact hb i x hi hx)
      rw [e2, chk1_take (by omega)]
  · left
    unfold chk; rw [if_neg hks]
theorem misp_zero {l : List E31} {e : E31} {house : Int} (h : misp l e house = 0) : limB l.length e = true ∧ argB l.length e house = true ∧ ordB l e = true := by
  unfold misp at h
  cases h1 : limB l.length e with
  | false => rw [h1] at h; simp at h
  | true =>
    cases h2 : argB l.length e house with
    | false => rw [h1, h2] at h; simp at h
    | true =>
      cases h3 : ordB l e with
      | false => rw [h1, h2, h3] at h; simp at h
      | true => exact ⟨rfl, rfl, rfl⟩
theorem chk1_zero {l : List E31} {k : Nat} {e : E31} {house pub : Int} (h : chk1 l k e house pub = 0) : misp (l.take k) e house = 0 ∧ e.prev = prevE (l.take k) ∧ sgnB e pub = true := by
  unfold chk1 at h
  by_cases hm : misp (l.take k) e house = 0
  · rw [if_pos hm] at h
    by_cases hp : (e.prev.toList == (prevE (l.take k)).toList) = true
    · rw [if_pos hp] at h
      by_cases hv : verB pub (txE e) e.r e.s = true
      · exact ⟨hm, tl_inj (by simpa using hp), hv⟩
      · rw [if_neg hv] at h; cases h
    · rw [if_neg hp] at h; cases h
  · rw [if_neg hm] at h; exact absurd h hm
/-- Days do not decrease; houses and numbers are right. -/
theorem chk_days {l : List E31} {house pub : Int} (h : (chk l house pub).1 = 0) (j : Nat) (x y : E31) (hx : l[j]? = some x) (hy : l[j + 1]? = some y) : x.day ≤ y.day := by
  obtain ⟨_, ha⟩ := (chk_ok_iff l house pub).1 h
  obtain ⟨hm, _⟩ := chk1_zero (ha (j + 1) y hy)
  obtain ⟨_, _, ho⟩ := misp_zero hm
  unfold ordB at ho
  have hlt := (List.getElem?_eq_some_iff.1 hy).1
  have e1 : (l.take (j + 1)).getLast? = some x := by
    rw [List.getLast?_eq_getElem?, List.length_take, Nat.min_eq_left (by omega), List.getElem?_take, if_pos (by omega)]; exact hx
  rw [e1] at ho
  simpa using ho
theorem chk_head {l : List E31} {house pub : Int} (h : (chk l house pub).1 = 0) (j : Nat) (x : E31) (hx : l[j]? = some x) : x.house = house ∧ x.seq = (j : Int) ∧ sgnB x pub = true ∧ x.prev = prevE (l.take j) := by
  obtain ⟨_, ha⟩ := (chk_ok_iff l house pub).1 h
  obtain ⟨hm, hp, hs⟩ := chk1_zero (ha j x hx)
  obtain ⟨_, hr, _⟩ := misp_zero hm
  unfold argB at hr
  have hlt := (List.getElem?_eq_some_iff.1 hx).1
  rw [List.length_take, Nat.min_eq_left (by omega)] at hr
  simp only [Bool.and_eq_true, beq_iff_eq] at hr
  exact ⟨hr.1, hr.2.1, hs, hp⟩
end Go.Proofs.YtaaenobckipfkaaDoor
