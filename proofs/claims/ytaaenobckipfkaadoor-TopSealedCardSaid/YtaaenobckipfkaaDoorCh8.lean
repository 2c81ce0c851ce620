/- Plain facts on entries: equality. No condition. -/
import Derived.Test.YtaaenobckipfkaaDoorCh7
namespace Go.Proofs.YtaaenobckipfkaaDoor

theorem tl_data (a : ByteArray) : a.toList = a.data.toList := Go.ByteArray.toList_eq a
theorem tl_inj {a b : ByteArray} (h : a.toList = b.toList) : a = b := by
  rw [tl_data, tl_data] at h
  cases a; cases b; simp at h; subst h; rfl
theorem eqB_iff (a b : E31) : eqB a b = true ↔ a = b := by
  unfold eqB
  rw [decide_eq_true_iff]
  constructor
  · rintro ⟨h1, h2, h3, h4, h5, h6, h7⟩
    have h4 := tl_inj h4
    have h5 := tl_inj h5
    cases a; cases b; simp_all
  · rintro rfl; exact ⟨rfl, rfl, rfl, rfl, rfl, rfl, rfl⟩
theorem eqB_symm (a b : E31) : eqB a b = eqB b a := by
  cases h : eqB a b
  · cases h2 : eqB b a
    · rfl
    · have := (eqB_iff b a).1 h2
      subst this
      rw [(eqB_iff b b).2 rfl] at h; cases h
  · have := (eqB_iff a b).1 h
    subst this
    exact ((eqB_iff a a).2 rfl).symm
theorem forkB_symm (a b : E31) (pub : Int) : forkB a b pub = forkB b a pub := by
  unfold forkB
  rw [eqB_symm a b, Bool.and_comm (sgnB a pub)]
  have e1 : decide (a.house = b.house) = decide (b.house = a.house) := decide_eq_decide.2 ⟨Eq.symm, Eq.symm⟩
  have e2 : decide (a.seq = b.seq) = decide (b.seq = a.seq) := decide_eq_decide.2 ⟨Eq.symm, Eq.symm⟩
  rw [e1, e2]
theorem forkB_self (a : E31) (pub : Int) : forkB a a pub = false := fork_same ((eqB_iff a a).2 rfl)
end Go.Proofs.YtaaenobckipfkaaDoor
