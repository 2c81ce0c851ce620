/- Records read off frames; what is found on a new disk; appending and compacting. No condition. -/
import Derived.Test.YthfjaaigncjhlaaGreatDoorJnT
namespace Go.Jn
open Go Go.Dk

theorem splitGo_nil : ∀ f, splitGo f [] = some []
  | 0 => rfl
  | _ + 1 => rfl
theorem splitGo_cons {f : Nat} {t : List UInt8} (h : t ≠ []) : splitGo (f + 1) t = if t.length < 4 then none else match digsL (t.take 4) with
    | none => none
    | some n => if 2000 < n ∨ t.length - 4 < n then none else (splitGo f (t.drop (4 + n))).map (fun r => (t.drop 4).take n :: r) := by
  rw [splitGo, if_neg h]
  rfl
/-- What a split that succeeds is made of. -/
theorem splitGo_some {f : Nat} {t : List UInt8} {r : List (List UInt8)} (h : splitGo (f + 1) t = some r) (h0 : t ≠ []) : ∃ n q, 4 ≤ t.length ∧ digsL (t.take 4) = some n ∧ n ≤ 2000 ∧ 4 + n ≤ t.length ∧ splitGo f (t.drop (4 + n)) = some q ∧ r = (t.drop 4).take n :: q := by
  rw [splitGo_cons h0] at h
  split at h
  · cases h
  · split at h
    · cases h
    · rename_i hl n hd
      split at h
      · cases h
      · rename_i hn
        cases hq : splitGo f (t.drop (4 + n)) with
        | none => rw [hq] at h; cases h
        | some q =>
          rw [hq] at h
          cases h
          exact ⟨n, q, by omega, hd, by omega, by omega, hq, rfl⟩
theorem splitGo_fuel : ∀ (f : Nat) (t : List UInt8) (r : List (List UInt8)) (g : Nat), splitGo f t = some r → f ≤ g → splitGo g t = some r
  | 0, t, r, g, h, _ => by
    unfold splitGo at h
    split at h
    · rename_i e; subst e; cases h; exact splitGo_nil g
    · cases h
  | f + 1, t, r, g, h, hg => by
    by_cases h0 : t = []
    · subst h0
      rw [splitGo_nil] at h ⊢; exact h
    · obtain ⟨n, q, a1, a2, a3, a4, a5, rfl⟩ := splitGo_some h h0
      cases g with
      | zero => omega
      | succ g =>
        rw [splitGo_cons h0, if_neg (by omega), a2]
        simp only
        rw [if_neg (by omega), splitGo_fuel f _ q g a5 (by omega)]; rfl
theorem splitGo_more : ∀ (f : Nat) (t : List UInt8) (r : List (List UInt8)) (g : Nat) (u : List UInt8) (q : List (List UInt8)), splitGo f t = some r → splitGo g u = some q → splitGo (f + g) (t ++ u) = some (r ++ q)
  | 0, t, r, g, u, q, h, hu => by
    unfold splitGo at h
    split at h
    · rename_i e; subst e; cases h; rw [Nat.zero_add]; exact hu
    · cases h
  | f + 1, t, r, g, u, q, h, hu => by
    by_cases h0 : t = []
    · subst h0
      rw [splitGo_nil] at h
      cases h
      exact splitGo_fuel g u q _ hu (by omega)
    · obtain ⟨n, q', a1, a2, a3, a4, a5, rfl⟩ := splitGo_some h h0
      have h1 : t ++ u ≠ [] := fun e => h0 (List.append_eq_nil_iff.1 e).1
      have e1 : (t ++ u).take 4 = t.take 4 := List.take_append_of_le_length a1
      have e2 : (t ++ u).drop (4 + n) = t.drop (4 + n) ++ u := List.drop_append_of_le_length a4
      have e3 : ((t ++ u).drop 4).take n = (t.drop 4).take n := by
        rw [List.drop_append_of_le_length a1]
        exact List.take_append_of_le_length (by rw [List.length_drop]; omega)
      rw [show f + 1 + g = (f + g) + 1 by omega, splitGo_cons h1, if_neg (by rw [List.length_append]; omega), e1, a2]
      simp only
      rw [if_neg (by rw [List.length_append]; omega), e2, e3, splitGo_more f _ q' g u q a5 hu]; rfl
theorem split_more {t u : List UInt8} {r q : List (List UInt8)} (h : splitL t = some r) (hu : splitL u = some q) : splitL (t ++ u) = some (r ++ q) := by
  unfold splitL at *
  rw [List.length_append]; exact splitGo_more _ t r _ u q h hu
theorem split_frame {b : List UInt8} (h : b.length ≤ 2000) : splitL (frameL b) = some [b] := by
  have := split_frames (l := [b]) (fun x hx => by rw [List.mem_singleton.1 hx]; exact h)
  unfold framesL at this
  simpa using this
/-- The length of the frames of records. -/
def roomL : List (List UInt8) → Nat
  | [] => 0
  | b :: l => 4 + b.length + roomL l
theorem roomL_append : ∀ (l m : List (List UInt8)), roomL (l ++ m) = roomL l + roomL m
  | [], m => by rw [List.nil_append]; show _ = 0 + _; omega
  | b :: l, m => by rw [List.cons_append]; show 4 + b.length + roomL (l ++ m) = 4 + b.length + roomL l + roomL m; rw [roomL_append l m]; omega
theorem framesL_len : ∀ (l : List (List UInt8)), (∀ b ∈ l, b.length ≤ 2000) → (framesL l).length = roomL l
  | [], _ => rfl
  | b :: l, h => by
    show (frameL b ++ framesL l).length = _
    rw [List.length_append, frameL_len (h b (by simp)), framesL_len l (fun x hx => h x (by simp [hx]))]; rfl
theorem splitGo_spec : ∀ (f : Nat) (t : List UInt8) (r : List (List UInt8)), splitGo f t = some r → t.length = roomL r ∧ ∀ b ∈ r, b.length ≤ 2000
  | 0, t, r, h => by
    unfold splitGo at h
    split at h
    · rename_i e; subst e; cases h; exact ⟨rfl, fun b hb => by cases hb⟩
    · cases h
  | f + 1, t, r, h => by
    by_cases h0 : t = []
    · subst h0
      rw [splitGo_nil] at h
      cases h
      exact ⟨rfl, fun b hb => by cases hb⟩
    · obtain ⟨n, q, a1, a2, a3, a4, a5, rfl⟩ := splitGo_some h h0
      obtain ⟨i1, i2⟩ := splitGo_spec f _ q a5
      have hl : ((t.drop 4).take n).length = n := by rw [List.length_take, List.length_drop]; omega
      rw [List.length_drop] at i1
      refine ⟨?_, fun b hb => ?_⟩
      · show _ = 4 + ((t.drop 4).take n).length + roomL q
        omega
      · rcases List.mem_cons.1 hb with rfl | hb
        · omega
        · exact i2 b hb
theorem split_spec {t : List UInt8} {r : List (List UInt8)} (h : splitL t = some r) : t.length = roomL r ∧ ∀ b ∈ r, b.length ≤ 2000 := splitGo_spec _ t r h
theorem half_len {st : List UInt8} {n : Nat} {v : Nat × Nat × Nat} {a : Nat} {recs : List (List UInt8)} (hl : st.length = 32 * n) (h : Found n st v a recs) : (half st ((n - 2) / 2) v.2.1 v.2.2).length = v.2.2 := by
  obtain ⟨h1, h2⟩ := pres_range h.pres
  have : v.2.1 * ((n - 2) / 2) ≤ (n - 2) / 2 := by
    have : v.2.1 = 0 ∨ v.2.1 = 1 := by omega
    rcases this with e | e <;> rw [e] <;> simp
  unfold half
  rw [List.length_take, List.length_drop]
  generalize v.2.1 * ((n - 2) / 2) = c at *
  by_cases hn : 4 ≤ n
  · omega
  · have : (n - 2) / 2 = 0 := by omega
    omega
theorem found_len {st : List UInt8} {n : Nat} {v : Nat × Nat × Nat} {a : Nat} {recs : List (List UInt8)} (hl : st.length = 32 * n) (h : Found n st v a recs) : v.2.2 = roomL recs ∧ ∀ b ∈ recs, b.length ≤ 2000 := by
  obtain ⟨h1, h2⟩ := split_spec h.split
  exact ⟨by rw [← h1, half_len hl h], h2⟩
theorem sec_zeros {m s : Nat} (h : s < m) : sec (List.replicate (32 * m) 0) s = blankL := by
  unfold sec blankL
  rw [List.drop_replicate, List.take_replicate]
  congr 1; omega
theorem new_found {n : Nat} (hn : 4 ≤ n) : Found n (DD.new n).st (0, 0, 0) 0 [] ∧ Firm n (DD.new n).st (0, 0, 0) 0 := by
  have e0 : sec (DD.new n).st 0 = blankL := sec_zeros (by omega)
  have e1 : sec (DD.new n).st 1 = blankL := sec_zeros (by omega)
  refine ⟨⟨?_, ?_⟩, .inr ⟨rfl, rfl, e0⟩⟩
  · rw [e0, e1]
    unfold presV
    rw [show parseV blankL (32 * ((n - 2) / 2)) = none from parse_blank _]
    simp only
    rw [if_pos (.inl rfl)]
  · unfold half
    rw [List.take_zero]; rfl
/-- A record is appended. -/
theorem append_spec {n : Nat} {d : DD} {v : Nat × Nat × Nat} {a : Nat} {recs : List (List UInt8)} {b : List UInt8} (hok : d.Ok n) (hon : d.on = true) (hp : d.pend = []) (hn : 4 ≤ n)
    (hf : Found n d.st v a recs) (hnum : v.1 < 999999999) (hb : b.length ≤ 2000) (hroom : v.2.2 + (4 + b.length) ≤ 32 * ((n - 2) / 2)) :
    Changed n d v a recs (v.1 + 1, v.2.1, v.2.2 + (frameL b).length) (recs ++ [b]) (changeD n a v.1 v.2.1 v.2.2 (frameL b) d) := by
  have hfl := frameL_len hb
  obtain ⟨h1, _⟩ := pres_range hf.pres
  refine change_spec hok hon hp hn hf hnum h1 (by omega) (fun _ => Nat.le_refl _) ?_
  have hlen := hok.len
  have : v.2.1 * ((n - 2) / 2) ≤ (n - 2) / 2 := by
    have : v.2.1 = 0 ∨ v.2.1 = 1 := by omega
    rcases this with e | e <;> rw [e] <;> simp
  rw [half_store (by generalize v.2.1 * ((n - 2) / 2) = c at *; omega)]
  exact split_more hf.split (split_frame hb)
/-- All records are replaced. -/
theorem compact_spec {n : Nat} {d : DD} {v : Nat × Nat × Nat} {a : Nat} {recs l : List (List UInt8)} (hok : d.Ok n) (hon : d.on = true) (hp : d.pend = []) (hn : 4 ≤ n)
    (hf : Found n d.st v a recs) (hnum : v.1 < 999999999) (hb : ∀ b ∈ l, b.length ≤ 2000) (hroom : roomL l ≤ 32 * ((n - 2) / 2)) :
    Changed n d v a recs (v.1 + 1, 1 - v.2.1, 0 + (framesL l).length) l (changeD n a v.1 (1 - v.2.1) 0 (framesL l) d) := by
  have hfl := framesL_len l hb
  obtain ⟨h1, _⟩ := pres_range hf.pres
  refine change_spec hok hon hp hn hf hnum (by omega) (by omega) (fun e => by omega) ?_
  have hlen := hok.len
  have : (1 - v.2.1) * ((n - 2) / 2) ≤ (n - 2) / 2 := by
    have : 1 - v.2.1 = 0 ∨ 1 - v.2.1 = 1 := by omega
    rcases this with e | e <;> rw [e] <;> simp
  rw [half_store (by generalize (1 - v.2.1) * ((n - 2) / 2) = c at *; omega)]
  have e : half d.st ((n - 2) / 2) (1 - v.2.1) 0 = [] := by unfold half; rw [List.take_zero]
  rw [e, List.nil_append]
  exact split_frames hb
end Go.Jn
