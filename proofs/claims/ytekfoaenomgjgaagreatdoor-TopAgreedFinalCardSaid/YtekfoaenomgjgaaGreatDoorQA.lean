/- What is agreed on among the letters that were sent by a day. No condition. Patches of contracts and what is in force, as plain data. No condition. -/
import Derived.Test.YtekfoaenomgjgaaGreatDoorYA
import Derived.Test.YtekfoaenomgjgaaGreatDoorCvV
set_option linter.unusedSimpArgs false
set_option linter.unusedVariables false
set_option linter.unnecessarySimpa false
namespace Go.Cs
open Go Go.Mk

section
variable (D : Let → ByteArray) (parties kn : Int)
/-- The letters that were sent by a day. -/
def early (l : List (Let × Hd)) : List (Let × Hd) := l.filter fun r => decide (r.1.sent ≤ kn)
theorem early_snoc (l : List (Let × Hd)) (r : Let × Hd) : early kn (l ++ [r]) = if r.1.sent ≤ kn then early kn l ++ [r] else early kn l := by
 unfold early
 rw [List.filter_append]
 by_cases h : r.1.sent ≤ kn <;> simp [h, List.filter_cons]
theorem props_snoc (l : List (Let × Hd)) (r : Let × Hd) : props D parties (l ++ [r]) = prStep D parties (props D parties l) r := by simp [props]
theorem accs_snoc' (l : List (Let × Hd)) (r : Let × Hd) : accs parties (l ++ [r]) = acStep parties (accs parties l) r := by simp [accs]
def newPr (r : Let × Hd) : Pr := ⟨r.1, r.2, D r.1, 0⟩
theorem pr_else {m : List (ByteArray × Pr)} {r : Let × Hd} {s : ByteArray} (hs : s ≠ D r.1) : get (prStep D parties m r) s = get m s := by
 unfold prStep
 split
 ·split
  ·split
   ·rw [get_put, if_neg hs]
   ·rfl
  ·rw [get_put, if_neg hs]
 ·rfl
theorem pr_off {m : List (ByteArray × Pr)} {r : Let × Hd} (hc : ¬ counts 1 parties r.1 = true) : prStep D parties m r = m := by unfold prStep; rw [if_neg hc]
theorem pr_none {m : List (ByteArray × Pr)} {r : Let × Hd} (hc : counts 1 parties r.1 = true) (h : get m (D r.1) = none) : get (prStep D parties m r) (D r.1) = some (newPr D r) := by
 unfold prStep; rw [if_pos hc, h]; simp only []; rw [get_put, if_pos rfl]; rfl
theorem pr_some {m : List (ByteArray × Pr)} {r : Let × Hd} {o : Pr} (hc : counts 1 parties r.1 = true) (h : get m (D r.1) = some o) : get (prStep D parties m r) (D r.1) = some (if r.1.sent < o.x.sent then newPr D r else o) := by
 unfold prStep; rw [if_pos hc, h]; simp only []
 by_cases h2 : r.1.sent < o.x.sent
 ·rw [if_pos h2, if_pos h2, get_put, if_pos rfl]; rfl
 ·rw [if_neg h2, if_neg h2, h]
theorem props_early (l : List (Let × Hd)) (s : ByteArray) : get (props D parties (early kn l)) s = (get (props D parties l) s).filter fun o => decide (o.x.sent ≤ kn) := by
 induction l using snoc_ind with
 | h0 => rfl
 | h1 l r ih =>
  rw [props_snoc, early_snoc]
  by_cases hr : r.1.sent ≤ kn
  ·rw [if_pos hr, props_snoc]
   by_cases hc : counts 1 parties r.1 = true
   ·by_cases hs : s = D r.1
    ·subst hs
     cases ho : get (props D parties l) (D r.1) with
     | none =>
      rw [ho] at ih
      rw [pr_none D parties hc ih, pr_none D parties hc ho, Option.filter_some, if_pos (show decide ((newPr D r).x.sent ≤ kn) = true from decide_eq_true hr)]
     | some o =>
      rw [ho, Option.filter_some] at ih
      rw [pr_some D parties hc ho, Option.filter_some]
      by_cases h1 : o.x.sent ≤ kn
      ·rw [if_pos (by simpa using h1)] at ih
       rw [pr_some D parties hc ih]
       by_cases h2 : r.1.sent < o.x.sent
       ·rw [if_pos h2, if_pos (show decide ((newPr D r).x.sent ≤ kn) = true from decide_eq_true hr)]
       ·rw [if_neg h2, if_pos (decide_eq_true h1)]
      ·rw [if_neg (by simpa using h1)] at ih
       rw [pr_none D parties hc ih, if_pos (show r.1.sent < o.x.sent by omega), if_pos (show decide ((newPr D r).x.sent ≤ kn) = true from decide_eq_true hr)]
    ·rw [pr_else D parties hs, pr_else D parties hs, ih]
   ·rw [pr_off D parties hc, pr_off D parties hc, ih]
  ·rw [if_neg hr, ih]
   by_cases hc : counts 1 parties r.1 = true
   ·by_cases hs : s = D r.1
    ·subst hs
     cases ho : get (props D parties l) (D r.1) with
     | none => rw [pr_none D parties hc ho, Option.filter_some, if_neg (show ¬ decide ((newPr D r).x.sent ≤ kn) = true from fun e => hr (of_decide_eq_true e))]; rfl
     | some o =>
      rw [pr_some D parties hc ho, Option.filter_some, Option.filter_some]
      by_cases h2 : r.1.sent < o.x.sent
      ·rw [if_pos h2, if_neg (by simp; omega), if_neg (show ¬ decide ((newPr D r).x.sent ≤ kn) = true from fun e => hr (of_decide_eq_true e))]
      ·rw [if_neg h2]
    ·rw [pr_else D parties hs]
   ·rw [pr_off D parties hc]
theorem ac_else {m : List ((Slot × ByteArray) × Int)} {r : Let × Hd} {s : Slot × ByteArray} (hs : s ≠ (r.1.slot, r.1.sum)) : get (acStep parties m r) s = get m s := by
 unfold acStep
 split
 ·split
  ·split
   ·rw [get_put, if_neg hs]
   ·rfl
  ·rw [get_put, if_neg hs]
 ·rfl
theorem ac_off {m : List ((Slot × ByteArray) × Int)} {r : Let × Hd} (hc : ¬ counts 2 parties r.1 = true) : acStep parties m r = m := by unfold acStep; rw [if_neg hc]
theorem ac_none {m : List ((Slot × ByteArray) × Int)} {r : Let × Hd} (hc : counts 2 parties r.1 = true) (h : get m (r.1.slot, r.1.sum) = none) : get (acStep parties m r) (r.1.slot, r.1.sum) = some r.1.sent := by
 unfold acStep; rw [if_pos hc, h]; simp only []; rw [get_put, if_pos rfl]
theorem ac_some {m : List ((Slot × ByteArray) × Int)} {r : Let × Hd} {o : Int} (hc : counts 2 parties r.1 = true) (h : get m (r.1.slot, r.1.sum) = some o) : get (acStep parties m r) (r.1.slot, r.1.sum) = some (if r.1.sent < o then r.1.sent else o) := by
 unfold acStep; rw [if_pos hc, h]; simp only []
 by_cases h2 : r.1.sent < o
 ·rw [if_pos h2, if_pos h2, get_put, if_pos rfl]
 ·rw [if_neg h2, if_neg h2, h]
theorem accs_early (l : List (Let × Hd)) (s : Slot × ByteArray) : get (accs parties (early kn l)) s = (get (accs parties l) s).filter fun d => decide (d ≤ kn) := by
 induction l using snoc_ind with
 | h0 => rfl
 | h1 l r ih =>
  rw [accs_snoc', early_snoc]
  by_cases hr : r.1.sent ≤ kn
  ·rw [if_pos hr, accs_snoc']
   by_cases hc : counts 2 parties r.1 = true
   ·by_cases hs : s = (r.1.slot, r.1.sum)
    ·subst hs
     cases ho : get (accs parties l) (r.1.slot, r.1.sum) with
     | none =>
      rw [ho] at ih
      rw [ac_none parties hc ih, ac_none parties hc ho, Option.filter_some, if_pos (by simpa using hr)]
     | some o =>
      rw [ho, Option.filter_some] at ih
      rw [ac_some parties hc ho, Option.filter_some]
      by_cases h1 : o ≤ kn
      ·rw [if_pos (by simpa using h1)] at ih
       rw [ac_some parties hc ih]
       by_cases h2 : r.1.sent < o
       ·rw [if_pos h2, if_pos (decide_eq_true hr)]
       ·rw [if_neg h2, if_pos (decide_eq_true h1)]
      ·rw [if_neg (by simpa using h1)] at ih
       rw [ac_none parties hc ih, if_pos (show r.1.sent < o by omega), if_pos (by simpa using hr)]
    ·rw [ac_else parties hs, ac_else parties hs, ih]
   ·rw [ac_off parties hc, ac_off parties hc, ih]
  ·rw [if_neg hr, ih]
   by_cases hc : counts 2 parties r.1 = true
   ·by_cases hs : s = (r.1.slot, r.1.sum)
    ·subst hs
     cases ho : get (accs parties l) (r.1.slot, r.1.sum) with
     | none => rw [ac_none parties hc ho, Option.filter_some, if_neg (by simpa using hr)]; rfl
     | some o =>
      rw [ac_some parties hc ho, Option.filter_some, Option.filter_some]
      by_cases h2 : r.1.sent < o
      ·rw [if_pos h2, if_neg (by simp; omega), if_neg (by simp; omega)]
      ·rw [if_neg h2]
    ·rw [ac_else parties hs]
   ·rw [ac_off parties hc]
theorem wds_at (l : List (Let × Hd)) (s : Slot) : (get (wds parties l) s).getD [] = ((l.filter fun r => counts 3 parties r.1).filter fun r => r.1.slot = s).map fun r => r.1.sent := (groups_get _ _ _ s).1
theorem wds_early (l : List (Let × Hd)) (s : Slot) : (get (wds parties (early kn l)) s).getD [] = ((get (wds parties l) s).getD []).filter fun d => decide (d ≤ kn) := by
 rw [wds_at, wds_at, List.filter_map]
 unfold early
 simp only [List.filter_filter]
 congr 1
 apply List.filter_congr
 intro x _
 simp only [Function.comp]
 cases decide (x.1.slot = s) <;> cases counts 3 parties x.1 <;> simp
theorem known_sent (acc : List ((Slot × ByteArray) × Int)) (p : Pr) : ∀ {n : Nat} {k : Int}, knUpto acc p n = some k → p.x.sent ≤ k
 | 0, k, h => by simp [knUpto] at h; omega
 | n + 1, k, h => by
  have e : knUpto acc p (n + 1) = knStep acc p (knUpto acc p n) n := by simp [knUpto, List.range_succ]
  rw [e] at h
  cases h0 : knUpto acc p n with
  | none => rw [h0] at h; cases h
  | some k0 =>
   have ih := known_sent acc p h0
   rw [h0] at h
   unfold knStep at h
   simp only at h
   split at h
   ·cases h; exact ih
   ·cases hg : get acc (((n : Int), p.x.number), p.sum) with
    | none => rw [hg] at h; cases h
    | some d => rw [hg] at h; simp at h; omega
theorem kn_back (l : List (Let × Hd)) (p : Pr) (hp : p.x.sent ≤ kn) : ∀ {n : Nat} {k : Int}, knUpto (accs parties (early kn l)) p n = some k → knUpto (accs parties l) p n = some k ∧ k ≤ kn
 | 0, k, h => by simp [knUpto] at h; exact ⟨by simp [knUpto, h], by omega⟩
 | n + 1, k, h => by
  have e : ∀ acc, knUpto acc p (n + 1) = knStep acc p (knUpto acc p n) n := fun acc => by simp [knUpto, List.range_succ]
  rw [e] at h
  cases h0 : knUpto (accs parties (early kn l)) p n with
  | none => rw [h0] at h; cases h
  | some k0 =>
   obtain ⟨ih, hk⟩ := kn_back l p hp h0
   rw [h0] at h
   rw [e, ih]
   unfold knStep at h ⊢
   simp only at h ⊢
   split at h
   ·rename_i hi
    rw [if_pos hi]; cases h; exact ⟨rfl, hk⟩
   ·rename_i hi
    rw [if_neg hi]
    rw [accs_early] at h
    cases hg : get (accs parties l) (((n : Int), p.x.number), p.sum) with
    | none => rw [hg] at h; cases h
    | some d =>
     rw [hg, Option.filter_some] at h
     by_cases hd : d ≤ kn
     ·rw [if_pos (by simpa using hd)] at h
      simp at h
      exact ⟨by simp [h], by omega⟩
     ·rw [if_neg (by simpa using hd)] at h; cases h
theorem kn_forth (l : List (Let × Hd)) (p : Pr) : ∀ {n : Nat} {k : Int}, knUpto (accs parties l) p n = some k → k ≤ kn → knUpto (accs parties (early kn l)) p n = some k
 | 0, k, h, _ => by simp [knUpto] at h; simp [knUpto, h]
 | n + 1, k, h, hk => by
  have e : ∀ acc, knUpto acc p (n + 1) = knStep acc p (knUpto acc p n) n := fun acc => by simp [knUpto, List.range_succ]
  rw [e] at h
  cases h0 : knUpto (accs parties l) p n with
  | none => rw [h0] at h; cases h
  | some k0 =>
   rw [h0] at h
   unfold knStep at h
   simp only at h
   split at h
   ·rename_i hi
    cases h
    rw [e, kn_forth l p h0 hk]
    unfold knStep
    simp only
    rw [if_pos hi]
   ·rename_i hi
    cases hg : get (accs parties l) (((n : Int), p.x.number), p.sum) with
    | none => rw [hg] at h; cases h
    | some d =>
     rw [hg] at h
     simp at h
     rw [e, kn_forth l p h0 (by omega)]
     unfold knStep
     simp only
     rw [if_neg hi, accs_early, hg, Option.filter_some, if_pos (by simp; omega)]
     simp [h]
theorem props_mem (l : List (Let × Hd)) (e : ByteArray × Pr) : e ∈ props D parties (early kn l) ↔ e ∈ props D parties l ∧ e.2.x.sent ≤ kn := by
 have h1 := (props_good D parties l).1
 have h2 := (props_good D parties (early kn l)).1
 have hE := props_early D parties kn l e.1
 constructor
 ·intro h
  rw [get_some h2 (show (e.1, e.2) ∈ _ from h)] at hE
  cases hg : get (props D parties l) e.1 with
  | none => rw [hg] at hE; cases hE
  | some o =>
   rw [hg, Option.filter_some] at hE
   by_cases ho : o.x.sent ≤ kn
   ·rw [if_pos (by simpa using ho)] at hE
    cases hE
    exact ⟨get_mem hg, ho⟩
   ·rw [if_neg (by simpa using ho)] at hE; cases hE
 ·rintro ⟨h, hs⟩
  rw [get_some h1 (show (e.1, e.2) ∈ _ from h), Option.filter_some, if_pos (by simpa using hs)] at hE
  exact get_mem hE
theorem prs_forth (l : List (Let × Hd)) (p : Pr) (hp : p ∈ prs D parties l) (h0 : 0 ≤ p.known) (hk : p.known ≤ kn) : p ∈ prs D parties (early kn l) ∧ p.x.sent ≤ p.known := by
 obtain ⟨e, he, rfl⟩ := List.mem_map.1 hp
 have hkn : (setKnown parties (accs parties l) e.2).known = (knUpto (accs parties l) e.2 parties.toNat).getD (-1) := rfl
 cases hu : knUpto (accs parties l) e.2 parties.toNat with
 | none => rw [hkn, hu] at h0; exact absurd h0 (by decide)
 | some k =>
  rw [hkn, hu] at hk h0
  have hs := known_sent _ _ hu
  have hf := kn_forth parties kn l e.2 hu hk
  refine ⟨List.mem_map.2 ⟨e, (props_mem D parties kn l e).2 ⟨he, by simp at hk; omega⟩, ?_⟩, by rw [hkn, hu]; exact hs⟩
  unfold setKnown knownOn
  rw [hu, hf]
theorem prs_back (l : List (Let × Hd)) (p : Pr) (hp : p ∈ prs D parties (early kn l)) (h0 : 0 ≤ p.known) : p ∈ prs D parties l ∧ p.known ≤ kn := by
 obtain ⟨e, he, rfl⟩ := List.mem_map.1 hp
 obtain ⟨he, hs⟩ := (props_mem D parties kn l e).1 he
 have hkn : (setKnown parties (accs parties (early kn l)) e.2).known = (knUpto (accs parties (early kn l)) e.2 parties.toNat).getD (-1) := rfl
 cases hu : knUpto (accs parties (early kn l)) e.2 parties.toNat with
 | none => rw [hkn, hu] at h0; exact absurd h0 (by decide)
 | some k =>
  obtain ⟨hb, hk⟩ := kn_back parties kn l e.2 hs hu
  refine ⟨List.mem_map.2 ⟨e, he, ?_⟩, by rw [hkn, hu]; exact hk⟩
  unfold setKnown knownOn
  rw [hu, hb]
theorem valid_early (l : List (Let × Hd)) (p : Pr) (hk : p.known ≤ kn) :
  valid p ((prs D parties (early kn l)).filter fun q => q.slot = p.slot) ((get (wds parties (early kn l)) p.slot).getD []) = valid p ((prs D parties l).filter fun q => q.slot = p.slot) ((get (wds parties l) p.slot).getD []) := by
 unfold valid
 have h1 : (((prs D parties (early kn l)).filter fun q => q.slot = p.slot).any fun o => decide (o.sum ≠ p.sum) && decide (o.x.sent ≤ p.known)) = (((prs D parties l).filter fun q => q.slot = p.slot).any fun o => decide (o.sum ≠ p.sum) && decide (o.x.sent ≤ p.known)) := by
  rw [Bool.eq_iff_iff]
  simp only [List.any_eq_true, List.mem_filter, decide_eq_true_eq, Bool.and_eq_true]
  constructor
  ·rintro ⟨o, ⟨ho, hs⟩, hne, hle⟩
   obtain ⟨e, he, rfl⟩ := List.mem_map.1 ho
   obtain ⟨he, _⟩ := (props_mem D parties kn l e).1 he
   exact ⟨setKnown parties (accs parties l) e.2, ⟨List.mem_map.2 ⟨e, he, rfl⟩, hs⟩, hne, hle⟩
  ·rintro ⟨o, ⟨ho, hs⟩, hne, hle⟩
   obtain ⟨e, he, rfl⟩ := List.mem_map.1 ho
   have hle' : e.2.x.sent ≤ p.known := hle
   exact ⟨setKnown parties (accs parties (early kn l)) e.2, ⟨List.mem_map.2 ⟨e, (props_mem D parties kn l e).2 ⟨he, by omega⟩, rfl⟩, hs⟩, hne, hle⟩
 have h2 : (((get (wds parties (early kn l)) p.slot).getD []).any fun d => decide (p.x.sent ≤ d) && decide (d < p.known)) = (((get (wds parties l) p.slot).getD []).any fun d => decide (p.x.sent ≤ d) && decide (d < p.known)) := by
  rw [wds_early, List.any_filter, Bool.eq_iff_iff]
  simp only [List.any_eq_true, decide_eq_true_eq, Bool.and_eq_true]
  constructor
  ·rintro ⟨d, hd, _, h⟩; exact ⟨d, hd, h⟩
  ·rintro ⟨d, hd, h⟩; exact ⟨d, hd, by omega, h⟩
 rw [h1, h2]
theorem valid_pos {p : Pr} {g : List Pr} {wd : List Int} (h : valid p g wd = true) : 0 ≤ p.known := by
 unfold valid at h
 simp only [Bool.and_eq_true, decide_eq_true_eq] at h
 exact h.1.1
theorem cands_early (l : List (Let × Hd)) (p : Pr) : p ∈ cands D parties (early kn l) ↔ p ∈ cands D parties l ∧ p.known ≤ kn := by
 unfold cands
 rw [List.mem_filter, List.mem_filter]
 constructor
 ·rintro ⟨hp, hv⟩
  obtain ⟨h1, h2⟩ := prs_back D parties kn l p hp (valid_pos hv)
  exact ⟨⟨h1, by rw [← valid_early D parties kn l p h2]; exact hv⟩, h2⟩
 ·rintro ⟨⟨hp, hv⟩, hk⟩
  exact ⟨(prs_forth D parties kn l p hp (valid_pos hv) hk).1, by rw [valid_early D parties kn l p hk]; exact hv⟩
theorem isBest_iff {c : List Pr} {p : Pr} : isBest c p = true ↔ ∀ q ∈ c, q.num = p.num → q.sum ≠ p.sum → p.known < q.known := by
 unfold isBest
 simp only [List.all_eq_true, Bool.or_eq_true, decide_eq_true_eq]
 constructor
 ·intro h q hq h1 h2
  rcases h q hq with (h | h) | h
  ·exact absurd h1 h
  ·exact absurd h h2
  ·exact h
 ·intro h q hq
  by_cases h1 : q.num = p.num
  ·by_cases h2 : q.sum = p.sum
   ·exact .inl (.inr h2)
   ·exact .inr (h q hq h1 h2)
  ·exact .inl (.inl h1)
theorem best_early (l : List (Let × Hd)) (p : Pr) : p ∈ best D parties (early kn l) ↔ p ∈ best D parties l ∧ p.known ≤ kn := by
 unfold best
 rw [List.mem_filter, List.mem_filter, isBest_iff, isBest_iff, cands_early]
 constructor
 ·rintro ⟨⟨hp, hk⟩, h⟩
  refine ⟨⟨hp, fun q hq h1 h2 => ?_⟩, hk⟩
  by_cases hqk : q.known ≤ kn
  ·exact h q ((cands_early D parties kn l q).2 ⟨hq, hqk⟩) h1 h2
  ·omega
 ·rintro ⟨⟨hp, h⟩, hk⟩
  exact ⟨⟨hp, hk⟩, fun q hq h1 h2 => h q ((cands_early D parties kn l q).1 hq).1 h1 h2⟩
theorem best_ne (l : List (Let × Hd)) : (best D parties l).Pairwise (fun a b => a.num ≠ b.num) := by
 have hnd : (best D parties l).Nodup := by
  unfold best cands
  exact (((nodup_of_map (prs_sums D parties l)).filter _).filter _)
 rw [List.nodup_iff_pairwise_ne] at hnd
 refine hnd.imp_of_mem fun {a b} ha hb hab e => ?_
 unfold best at ha hb
 rw [List.mem_filter, isBest_iff] at ha hb
 have hm : ∀ p, p ∈ cands D parties l → p ∈ prs D parties l := fun p hp => (List.mem_filter.1 hp).1
 by_cases hs : a.sum = b.sum
 ·exact hab (inj_of_nodup (prs_sums D parties l) (hm _ ha.1) (hm _ hb.1) hs)
 ·have h1 := ha.2 b hb.1 e.symm (Ne.symm hs)
  have h2 := hb.2 a ha.1 e hs
  omega
theorem agreed_rising (l : List (Let × Hd)) : (agreedF D parties l).Pairwise (fun a b => a.num < b.num) := by
 unfold agreedF
 split
 ·exact isort_rising (best_ne D parties l)
 ·exact List.Pairwise.nil
/-- The letters that were sent by a day have agreed on just what is known by that day. -/
theorem agreed_early (l : List (Let × Hd)) (hl : l.length ≤ 4000) : agreedF D parties (early kn l) = (agreedF D parties l).filter fun p => decide (p.known ≤ kn) := by
 have hl2 : (early kn l).length ≤ 4000 := Nat.le_trans (List.length_filter_le _ _) hl
 have hok : okParties parties (early kn l) = okParties parties l := by
  unfold okParties
  simp [hl, hl2]
 refine rising_ext Pr.num (agreed_rising D parties _) ((agreed_rising D parties l).filter _) fun p => ?_
 rw [List.mem_filter]
 unfold agreedF
 rw [hok]
 split
 ·rw [mem_isort, mem_isort, best_early, decide_eq_true_eq]
 ·simp
end
end Go.Cs

namespace Go.Cv
open Go Go.Cs
/-- What a kind of patches looks like. -/
structure Eff where
 least : Int
 most : Int
 renewed : Bool
 spanned : Bool
def encEff (e : Eff) (f : Value) : List Value := [.int .i64 e.least, .int .i64 e.most, .bool e.renewed, .bool e.spanned, f]
def daysB (e : Eff) (p : Pat) : Bool := if e.spanned then decide (1 ≤ p.days) && decide (p.days ≤ 400) else p.days == 0
def fitsB (n : Nat) (p : Pat) (e : Eff) : Bool :=
 (decide (e.least ≤ (p.cl.length : Int)) && decide ((p.cl.length : Int) ≤ e.most)) && (offF (n : Int) (-1) p.cl && ((e.renewed || p.new.same Cls.zero) && daysB e p))
/-- The kinds of patches. -/
def effOf (k : Int) : Option Eff :=
 if k = 1 then some ⟨0, 0, true, false⟩ else if k = 2 then some ⟨1, 1, true, false⟩ else if k = 3 then some ⟨1, 1, false, false⟩ else if k = 4 then some ⟨1, 400, false, false⟩ else if k = 5 then some ⟨1, 400, false, true⟩ else none
def setAt (f : Cls → Cls) (ks : List Cls) (i : Int) : List Cls := ks.modify i.toNat f
def Cls.waive (k : Cls) : Cls := { k with waived := true }
def Cls.span (d : Int) (k : Cls) : Cls := { k with after := d }
/-- The clauses after a patch. -/
def upd (p : Pat) (ks : List Cls) : List Cls :=
 if p.kind = 1 then ks ++ [p.new] else if p.kind = 2 then ks.set (p.cl.headD 0).toNat p.new else if p.kind = 5 then p.cl.foldl (setAt (Cls.span p.days)) ks else p.cl.foldl (setAt Cls.waive) ks
def Con.after (c : Con) (p : Pat) : Con := { c with cls := upd p c.cls }
/-- A contract after a patch, if the patch fits. -/
def applyP (c : Con) (p : Pat) : Option Con :=
 match effOf p.kind with
 | none => none
 | some e => if errC c = 0 ∧ fitsB c.cls.length p e = true ∧ ¬ (p.kind = 1 ∧ c.cls.length = 400) ∧ errC (c.after p) = 0 then some (c.after p) else none
/-- What is in force on a day, and the numbers of what was applied. -/
def forceF (day : Int) : Con × List Int → List Pr → Con × List Int
 | s, [] => s
 | s, a :: r => if day < a.x.day then s else forceF day (match applyP s.1 a.x.patch with | some c => (c, s.2 ++ [a.x.number]) | none => s) r
end Go.Cv
