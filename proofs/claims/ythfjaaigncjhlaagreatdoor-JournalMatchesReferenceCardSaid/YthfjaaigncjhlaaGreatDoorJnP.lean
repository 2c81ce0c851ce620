/- What a journal writes, plainly: numerals of a fixed width, commit sectors, frames. No condition. -/
import Derived.Test.YthfjaaigncjhlaaGreatDoorBlk
import Derived.Test.YthfjaaigncjhlaaGreatDoorPaD
namespace Go.Jn
open Go Go.Pa

/-- The number that digits are. -/
def digsGo : List UInt8 → Nat → Option Nat
  | [], a => some a
  | c :: r, a => if 48 ≤ c.toNat ∧ c.toNat ≤ 57 then digsGo r (10 * a + (c.toNat - 48)) else none
def digsL (s : List UInt8) : Option Nat := digsGo s 0
theorem digsGo_all : ∀ (s : List UInt8) (a : Nat), (∀ b ∈ s, 48 ≤ b.toNat ∧ b.toNat ≤ 57) → digsGo s a = some (s.foldl (fun a d => a * 10 + (d.toNat - 48)) a)
  | [], _, _ => rfl
  | c :: r, a, h => by
    unfold digsGo
    rw [if_pos (h c (by simp)), digsGo_all r _ (fun b hb => h b (by simp [hb])), List.foldl_cons, Nat.mul_comm]
theorem digsGo_bad : ∀ (s : List UInt8) (a : Nat) (b : UInt8), b ∈ s → ¬ (48 ≤ b.toNat ∧ b.toNat ≤ 57) → digsGo s a = none
  | [], _, b, h, _ => by cases h
  | c :: r, a, b, h, hb => by
    unfold digsGo
    split
    · rename_i hc
      rcases List.mem_cons.1 h with rfl | h
      · exact absurd hc hb
      · exact digsGo_bad r _ b h hb
    · rfl
def padL (k n : Nat) : List UInt8 := List.replicate (k - (Lib.decDigits n).length) 48 ++ Lib.decDigits n
theorem padL_dig (k n : Nat) : ∀ b ∈ padL k n, 48 ≤ b.toNat ∧ b.toNat ≤ 57 := fun b hb => by
  rcases List.mem_append.1 hb with h | h
  · have := (List.mem_replicate.1 h).2; subst this; decide
  · exact (decD_all n).2.1 b h
theorem foldl_zeros : ∀ (k : Nat) (s : List UInt8), (List.replicate k (48 : UInt8) ++ s).foldl (fun a d => a * 10 + (d.toNat - 48)) 0 = s.foldl (fun a d => a * 10 + (d.toNat - 48)) 0
  | 0, _ => rfl
  | k + 1, s => by
    rw [List.replicate_succ, List.cons_append, List.foldl_cons]
    exact foldl_zeros k s
theorem digs_pad (k n : Nat) : digsL (padL k n) = some n := by
  unfold digsL
  rw [digsGo_all _ _ (padL_dig k n)]
  unfold padL
  rw [foldl_zeros]
  exact congrArg some (decD_all n).1
theorem decD_len : ∀ (k n : Nat), 1 ≤ k → n < 10 ^ k → (Lib.decDigits n).length ≤ k
  | 0, _, h, _ => by omega
  | 1, n, _, h => by rw [Lib.decDigits_one (by simpa using h)]; simp
  | k + 2, n, _, h => by
    by_cases h10 : n < 10
    · rw [Lib.decDigits_one h10]; simp
    · rw [Lib.decDigits, dif_neg h10, List.length_append]
      have := decD_len (k + 1) (n / 10) (by omega) (by rw [Nat.div_lt_iff_lt_mul (by decide)]; rw [Nat.pow_succ] at h; exact h)
      simp only [List.length_cons, List.length_nil]; omega
theorem padL_len {k n : Nat} (hk : 1 ≤ k) (h : n < 10 ^ k) : (padL k n).length = k := by
  have := decD_len k n hk h
  unfold padL
  rw [List.length_append, List.length_replicate]; omega

/-- The text of a value. -/
def vt (n h l : Nat) : List UInt8 := padL 9 n ++ (padL 1 h ++ padL 6 l)
theorem vt_len {n h l : Nat} (h1 : n ≤ 999999999) (h2 : h ≤ 1) (h3 : l ≤ 999999) : (vt n h l).length = 16 := by
  unfold vt
  rw [List.length_append, List.length_append, padL_len (by decide) (by omega), padL_len (by decide) (by omega), padL_len (by decide) (by omega)]
theorem vt_dig (n h l : Nat) : ∀ b ∈ vt n h l, 48 ≤ b.toNat ∧ b.toNat ≤ 57 := fun b hb => by
  rcases List.mem_append.1 hb with h | h
  · exact padL_dig _ _ b h
  · rcases List.mem_append.1 h with h | h
    · exact padL_dig _ _ b h
    · exact padL_dig _ _ b h
/-- The value of a commit sector. -/
def parseV (s : List UInt8) (room : Nat) : Option (Nat × Nat × Nat) :=
  if s.length = 32 ∧ s.take 16 = s.drop 16 then
    match digsL (s.take 9) with
    | none => none
    | some a => match digsL ((s.take 10).drop 9) with
      | none => none
      | some b => if b ≤ 1 then (match digsL ((s.take 16).drop 10) with
        | none => none
        | some c => if c ≤ room then some (a, b, c) else none) else none
  else none
theorem parse_vt {n h l room : Nat} (h1 : n ≤ 999999999) (h2 : h ≤ 1) (h3 : l ≤ 999999) (h4 : l ≤ room) : parseV (vt n h l ++ vt n h l) room = some (n, h, l) := by
  have hl := vt_len h1 h2 h3
  have p9 : (padL 9 n).length = 9 := padL_len (by decide) (by omega)
  have p1 : (padL 1 h).length = 1 := padL_len (by decide) (by omega)
  have p6 : (padL 6 l).length = 6 := padL_len (by decide) (by omega)
  unfold parseV
  rw [if_pos ⟨by rw [List.length_append, hl], by rw [List.take_left' hl, List.drop_left' hl]⟩]
  have t16 : (vt n h l ++ vt n h l).take 16 = vt n h l := List.take_left' hl
  have t9 : (vt n h l ++ vt n h l).take 9 = padL 9 n := by
    unfold vt; rw [List.append_assoc]; exact List.take_left' p9
  have t10 : ((vt n h l ++ vt n h l).take 10).drop 9 = padL 1 h := by
    have e : (vt n h l ++ vt n h l).take 10 = padL 9 n ++ padL 1 h := by
      have : vt n h l ++ vt n h l = (padL 9 n ++ padL 1 h) ++ (padL 6 l ++ vt n h l) := by unfold vt; simp
      rw [this]; exact List.take_left' (by rw [List.length_append, p9, p1])
    rw [e]; exact List.drop_left' p9
  have d10 : (vt n h l).drop 10 = padL 6 l := by
    have : vt n h l = (padL 9 n ++ padL 1 h) ++ padL 6 l := by unfold vt; simp
    rw [this]; exact List.drop_left' (by rw [List.length_append, p9, p1])
  rw [t9, digs_pad, t10, digs_pad]
  simp only
  rw [if_pos h2, t16, d10, digs_pad]
  simp only
  rw [if_pos h4]
theorem parse_nodig {s : List UInt8} {room : Nat} (h : ∃ b, b ∈ s.drop 16 ∧ ¬ (48 ≤ b.toNat ∧ b.toNat ≤ 57)) : parseV s room = none := by
  obtain ⟨b, hb, hd⟩ := h
  unfold parseV
  split
  · rename_i hc
    rw [← hc.2] at hb
    have e : s.take 16 = s.take 9 ++ ((s.take 10).drop 9 ++ (s.take 16).drop 10) := by
      apply List.ext_getElem?
      intro i
      simp only [List.getElem?_append, List.getElem?_take, List.getElem?_drop, List.length_take, List.length_drop, hc.1]
      by_cases h1 : i < 9
      · simp [h1]; omega
      · by_cases h2 : i < 10
        · have : i = 9 := by omega
          subst this; simp
        · by_cases h3 : i < 16
          · simp [h1, h3]
            rw [if_neg (by omega), if_pos (by omega)]
            congr 1; omega
          · simp [h1, h3]
            rw [if_neg (by omega), if_neg (by omega)]
    rw [e] at hb
    rcases List.mem_append.1 hb with h | h
    · rw [show digsL (s.take 9) = none from digsGo_bad _ _ b h hd]
    · rcases List.mem_append.1 h with h | h
      · cases digsL (s.take 9) with
        | none => rfl
        | some a => rw [show digsL ((s.take 10).drop 9) = none from digsGo_bad _ _ b h hd]
      · cases digsL (s.take 9) with
        | none => rfl
        | some a =>
          cases digsL ((s.take 10).drop 9) with
          | none => rfl
          | some c =>
            simp only
            split
            · rw [show digsL ((s.take 16).drop 10) = none from digsGo_bad _ _ b h hd]
            · rfl
  · rfl
/-- A sector of which only the first bytes of a value were written over zeros has no value. -/
theorem parse_torn (t : List UInt8) (k room : Nat) (hl : t.length = 32) (hk : k < 32) : parseV (t.take k ++ List.replicate (32 - k) 0) room = none := by
  refine parse_nodig ⟨0, ?_, by decide⟩
  have hlen : (t.take k ++ List.replicate (32 - k) (0 : UInt8)).length = 32 := by simp; omega
  refine List.mem_iff_getElem?.2 ⟨15, ?_⟩
  rw [List.getElem?_drop, List.getElem?_append_right (by rw [List.length_take]; omega), List.getElem?_replicate, if_pos (by rw [List.length_take]; omega)]
theorem parse_blank (room : Nat) : parseV (List.replicate 32 0) room = none := parse_torn (List.replicate 32 0) 0 room (by simp) (by decide)

/-- The frame of a record. -/
def frameL (b : List UInt8) : List UInt8 := padL 4 b.length ++ b
def framesL (l : List (List UInt8)) : List UInt8 := l.flatMap frameL
theorem frameL_len {b : List UInt8} (h : b.length ≤ 2000) : (frameL b).length = 4 + b.length := by
  unfold frameL; rw [List.length_append, padL_len (by decide) (by omega)]
/-- The records whose frames a text is. -/
def splitGo : Nat → List UInt8 → Option (List (List UInt8))
  | 0, t => if t = [] then some [] else none
  | f + 1, t => if t = [] then some [] else if t.length < 4 then none else match digsL (t.take 4) with
    | none => none
    | some n => if 2000 < n ∨ t.length - 4 < n then none else (splitGo f (t.drop (4 + n))).map (fun r => (t.drop 4).take n :: r)
def splitL (t : List UInt8) : Option (List (List UInt8)) := splitGo t.length t
theorem splitGo_frames : ∀ (l : List (List UInt8)) (f : Nat), (∀ b ∈ l, b.length ≤ 2000) → (framesL l).length ≤ f → splitGo f (framesL l) = some l
  | [], 0, _, _ => rfl
  | [], f + 1, _, _ => rfl
  | b :: l, f, h, hf => by
    have hb := h b (by simp)
    have e : framesL (b :: l) = padL 4 b.length ++ (b ++ framesL l) := by
      show frameL b ++ framesL l = _
      unfold frameL; rw [List.append_assoc]
    have hp : (padL 4 b.length).length = 4 := padL_len (by decide) (by omega)
    rw [e] at hf ⊢
    rw [List.length_append, List.length_append, hp] at hf
    cases f with
    | zero => omega
    | succ f =>
      have hne : ¬ (padL 4 b.length ++ (b ++ framesL l)) = [] := fun e => by
        have := congrArg List.length e
        rw [List.length_append, hp] at this; simp at this
      unfold splitGo
      rw [if_neg hne, if_neg (by rw [List.length_append, hp]; omega), List.take_left' hp, digs_pad]
      simp only
      rw [if_neg (by rw [List.length_append, List.length_append, hp]; omega)]
      have e2 : (padL 4 b.length ++ (b ++ framesL l)).drop (4 + b.length) = framesL l := by
        rw [← List.append_assoc]; exact List.drop_left' (by rw [List.length_append, hp])
      have e3 : ((padL 4 b.length ++ (b ++ framesL l)).drop 4).take b.length = b := by
        rw [List.drop_left' hp]; exact List.take_left' rfl
      rw [e2, e3, splitGo_frames l f (fun x hx => h x (by simp [hx])) (by omega)]; rfl
theorem split_frames {l : List (List UInt8)} (h : ∀ b ∈ l, b.length ≤ 2000) : splitL (framesL l) = some l := splitGo_frames l _ h (Nat.le_refl _)
theorem framesL_snoc (l : List (List UInt8)) (b : List UInt8) : framesL (l ++ [b]) = framesL l ++ frameL b := by unfold framesL; rw [List.flatMap_append]; simp
end Go.Jn
