/- Plain facts on Check: a list is a chain exactly if every entry has no error; beginnings. No condition. -/
import Derived.Test.YtaaenobckipfkaaDoorCh8
namespace Go.Proofs.YtaaenobckipfkaaDoor

theorem chk1_take {l : List E31} {k m : Nat} (h : k ≤ m) (e : E31) (house pub : Int) : chk1 (l.take m) k e house pub = chk1 l k e house pub := by
  unfold chk1
  rw [List.take_take, Nat.min_eq_left h]
theorem chkGo_all {l : List E31} {house pub : Int} : ∀ (n k : Nat), k + n = l.length → (∀ i e, k ≤ i → l[i]? = some e → chk1 l i e house pub = 0) → chkGo l house pub n k = (0, -1)
  | 0, _, _, _ => rfl
  | n + 1, k, hn, h => by
    obtain ⟨e, he⟩ : ∃ e, l[k]? = some e := ⟨_, List.getElem?_eq_getElem (by omega)⟩
    rw [chkGo_ok he (h k e (Nat.le_refl _) he)]
    exact chkGo_all n (k + 1) (by omega) (fun i e hi he => h i e (by omega) he)
set_option maxRecDepth 10000 in
theorem chkGo_zero {l : List E31} {house pub : Int} : ∀ (n k : Nat), k + n = l.length → (chkGo l house pub n k).1 = 0 → ∀ i e, k ≤ i → l[i]? = some e → chk1 l i e house pub = 0
  | 0, k, hn, _, i, e, hi, he => by
    have := (List.getElem?_eq_some_iff.1 he).1
    omega
  | n + 1, k, hn, h, i, e, hi, he => by
    obtain ⟨x, hx⟩ : ∃ x, l[k]? = some x := ⟨_, List.getElem?_eq_getElem (by omega)⟩
    by_cases h0 : chk1 l k x house pub = 0
    · rw [chkGo_ok hx h0] at h
      by_cases hik : i = k
      · subst hik
        rw [hx] at he
        cases he
        exact h0
      · exact chkGo_zero n (k + 1) (by omega) h i e (by omega) he
    · rw [chkGo_bad hx h0] at h
      dsimp only at h
      exact (h0 h).elim
/-- A list is a chain exactly if each entry has no error. -/
theorem chk_ok_iff (l : List E31) (house pub : Int) : (chk l house pub).1 = 0 ↔ keysOk house pub ∧ ∀ i e, l[i]? = some e → chk1 l i e house pub = 0 := by
  unfold chk
  by_cases hk : keysOk house pub
  · rw [if_pos hk]
    constructor
    · intro h
      exact ⟨hk, fun i e he => chkGo_zero l.length 0 (by omega) h i e (Nat.zero_le _) he⟩
    · rintro ⟨_, h⟩
      rw [chkGo_all l.length 0 (by omega) (fun i e _ he => h i e he)]
  · rw [if_neg hk]
    constructor
    · intro h; exact absurd h (by decide)
    · rintro ⟨h, _⟩; exact absurd h hk
theorem chk_ok {l : List E31} {house pub : Int} (h : (chk l house pub).1 = 0) : chk l house pub = (0, -1) := by
  obtain ⟨hk, ha⟩ := (chk_ok_iff l house pub).1 h
  unfold chk
  rw [if_pos hk]
  exact chkGo_all l.length 0 (by omega) (fun i e _ he => ha i e he)
/-- The beginning of a chain is a chain. -/
theorem chk_take {l : List E31} {house pub : Int} (m : Nat) (h : (chk l house pub).1 = 0) : (chk (l.take m) house pub).1 = 0 := by
  obtain ⟨hk, ha⟩ := (chk_ok_iff l house pub).1 h
  refine (chk_ok_iff _ _ _).2 ⟨hk, fun i e he => ?_⟩
  rw [List.getElem?_take] at he
  split at he
  · rename_i hi
    rw [chk1_take (by omega)]
    exact ha i e he
  · cases he
end Go.Proofs.YtaaenobckipfkaaDoor
