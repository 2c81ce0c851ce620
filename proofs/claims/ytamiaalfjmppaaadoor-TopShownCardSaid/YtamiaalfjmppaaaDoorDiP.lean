/- Plain facts on trees of digests: paths, proofs and the texts that lead to the root. No condition. -/
import Derived.Test.YtamiaalfjmppaaaDoorDi4
import Derived.Test.YtamiaalfjmppaaaDoorPaP
namespace Go.Proofs.YtamiaalfjmppaaaDoor
open Go.Di Go.Pa Go.Sg Go.W32

/-- What a leaf leads to, by sides and elements from the root on. -/
def upD (t : ByteArray) : List Bool → List ByteArray → ByteArray
  | b :: bs, q :: qs => if b then nodeD (upD t bs qs) q else nodeD q (upD t bs qs)
  | _, _ => t
def sidesL (i n : Nat) : List Bool := (lev i n).map Prod.snd
theorem sides_len (i n : Nat) : (sidesL i n).length = (lev i n).length := by simp [sidesL]
theorem sides_small {i n : Nat} (h : n ≤ 1) : sidesL i n = [] := by unfold sidesL; rw [lev_small h]; rfl
theorem sides_more {i n : Nat} (h : 2 ≤ n) (h2 : n < 9223372036854775808) : sidesL i n = decide (i < half n) :: (if i < half n then sidesL i (half n) else sidesL (i - half n) (n - half n)) := by
  unfold sidesL
  rw [lev_more h h2]
  split <;> simp_all
theorem path_up : ∀ (n : Nat) (l : List ByteArray) (i : Nat) (t : ByteArray), l.length = n → 1 ≤ n → n < 9223372036854775808 → l[i]? = some t → upD t (sidesL i n) (outP l (lev i n)) = rootL l := by
  intro n
  induction n using Nat.strongRecOn with
  | _ n ih =>
    intro l i t hl h1 hn hi
    by_cases h2 : 2 ≤ n
    · obtain ⟨k1, _, _, _⟩ := half_facts n h2 hn
      have k0 := half_pos n
      rw [sides_more h2 hn, lev_more h2 hn, rootL_more (by omega) (by omega), hl]
      by_cases hik : i < half n
      · rw [decide_eq_true hik, if_pos hik, if_pos hik]
        show nodeD (upD t (sidesL i (half n)) (outP (l.take (half n)) (lev i (half n)))) (rootL (l.drop (half n))) = _
        rw [ih (half n) k1 (l.take (half n)) i t (by rw [List.length_take]; omega) k0 (by omega) (by rw [List.getElem?_take_of_lt hik]; exact hi)]
      · rw [decide_eq_false hik, if_neg hik, if_neg hik]
        show nodeD (rootL (l.take (half n))) (upD t (sidesL (i - half n) (n - half n)) (outP (l.drop (half n)) (lev (i - half n) (n - half n)))) = _
        rw [ih (n - half n) (by omega) (l.drop (half n)) (i - half n) t (by rw [List.length_drop]; omega) (by omega) (by omega) (by rw [List.getElem?_drop, show half n + (i - half n) = i by omega]; exact hi)]
    · have : n = 1 := by omega
      subst this
      match l, hl with
      | [x], _ =>
        have : i = 0 := by have := (List.getElem?_eq_some_iff.1 hi).1; simpa using this
        subst this
        cases hi
        rw [sides_small (by omega), rootL_one]; rfl

/-- The texts whose digests lead from a leaf to the root. -/
def txtD (t : ByteArray) : List Bool → List ByteArray → List ByteArray
  | b :: bs, q :: qs => txtD t bs qs ++ [if b then nodeT (sumB KC ((txtD t bs qs).getLastD ⟨#[]⟩)) q else nodeT q (sumB KC ((txtD t bs qs).getLastD ⟨#[]⟩))]
  | _, _ => [t]
theorem nodeD_eq (a b : ByteArray) : nodeD a b = sumB KC (nodeT a b) := rfl
attribute [local irreducible] sumB
theorem txtD_cons (t : ByteArray) (b : Bool) (bs : List Bool) (q : ByteArray) (qs : List ByteArray) : txtD t (b :: bs) (q :: qs) = txtD t bs qs ++ [if b then nodeT (sumB KC ((txtD t bs qs).getLastD ⟨#[]⟩)) q else nodeT q (sumB KC ((txtD t bs qs).getLastD ⟨#[]⟩))] := rfl
theorem upD_cons (t : ByteArray) (b : Bool) (bs : List Bool) (q : ByteArray) (qs : List ByteArray) : upD t (b :: bs) (q :: qs) = if b then nodeD (upD t bs qs) q else nodeD q (upD t bs qs) := rfl
theorem last_snoc (l : List ByteArray) (x d : ByteArray) : (l ++ [x]).getLastD d = x := by
  rw [List.getLastD_eq_getLast?, List.getLast?_concat]; rfl
theorem txtD_last (t : ByteArray) : ∀ (bs : List Bool) (qs : List ByteArray), sumB KC ((txtD t bs qs).getLastD ⟨#[]⟩) = upD (sumB KC t) bs qs
  | [], [] => rfl
  | [], _ :: _ => rfl
  | _ :: _, [] => rfl
  | b :: bs, q :: qs => by
    have ih := txtD_last t bs qs
    rw [txtD_cons, last_snoc, ih, upD_cons]
    cases b
    · rw [if_neg (by decide), if_neg (by decide), nodeD_eq]
    · rw [if_pos rfl, if_pos rfl, nodeD_eq]
theorem txtD_len (t : ByteArray) : ∀ (bs : List Bool) (qs : List ByteArray), bs.length = qs.length → (txtD t bs qs).length = bs.length + 1
  | [], [], _ => rfl
  | b :: bs, q :: qs, h => by
    rw [txtD_cons, List.length_append, txtD_len t bs qs (by simpa using h)]; rfl
theorem dec_inj {m n : Int} (h : dec m = dec n) : m = n := by
  have h : Lib.itoa m = Lib.itoa n := congrArg (fun t : ByteArray => t.data.toList) h
  have nm : ∀ u v : Nat, Lib.decDigits u = 45 :: Lib.decDigits v → False := fun u v h => by
    have := (decD_all u).2.1 45 (by rw [h]; simp)
    exact absurd this.1 (by decide)
  have di : ∀ u v : Nat, Lib.decDigits u = Lib.decDigits v → u = v := fun u v h => by rw [← (decD_all u).1, ← (decD_all v).1, h]
  rcases Pa.int_cases m with ⟨u, rfl⟩ | ⟨u, hu, rfl⟩ <;> rcases Pa.int_cases n with ⟨v, rfl⟩ | ⟨v, hv, rfl⟩
  · rw [Lib.itoa_nonneg, Lib.itoa_nonneg] at h; rw [di _ _ h]
  · rw [Lib.itoa_nonneg, Lib.itoa_neg v hv] at h; exact (nm _ _ h).elim
  · rw [Lib.itoa_neg u hu, Lib.itoa_nonneg] at h; exact (nm _ _ h.symm).elim
  · rw [Lib.itoa_neg u hu, Lib.itoa_neg v hv] at h
    injection h with _ h
    rw [di _ _ h]
theorem cut_at {c : UInt8} : ∀ {x y r s : List UInt8}, c ∉ x → c ∉ y → x ++ c :: r = y ++ c :: s → x = y ∧ r = s
  | [], [], r, s, _, _, h => by simpa using h
  | [], b :: y, r, s, _, hy, h => by
    simp at h; exact absurd (by rw [h.1]; simp) hy
  | a :: x, [], r, s, hx, _, h => by
    simp at h; exact absurd (by rw [← h.1]; simp) hx
  | a :: x, b :: y, r, s, hx, hy, h => by
    simp at h
    obtain ⟨h1, h2⟩ := cut_at (x := x) (y := y) (fun hm => hx (by simp [hm])) (fun hm => hy (by simp [hm])) h.2
    exact ⟨by rw [h.1, h1], h2⟩
theorem bytes_ext {a b : ByteArray} (h : a.data.toList = b.data.toList) : a = b := by
  cases a; cases b; simp at h; rw [h]
theorem tagT_inj {t a b a' b' : ByteArray} (h : tagT t a b = tagT t a' b') : a = a' ∧ b = b' := by
  have h0 := congrArg (fun t : ByteArray => t.data.toList) h
  simp only [tagT, ByteArray.data_append, Array.toList_append, List.append_assoc] at h0
  have h1 := List.append_cancel_left h0
  have e1 : ∀ n : Int, (dec n).data.toList = Lib.itoa n := fun _ => rfl
  rw [e1, e1] at h1
  have h2 : Lib.itoa a.size ++ 32 :: (a.data.toList ++ b.data.toList) = Lib.itoa a'.size ++ 32 :: (a'.data.toList ++ b'.data.toList) := by simpa using h1
  obtain ⟨e4, h5⟩ := cut_at (Pa.itoa_nosp _) (Pa.itoa_nosp _) h2
  have e5 : (a.size : Int) = a'.size := dec_inj (congrArg (fun l : List UInt8 => (⟨l.toArray⟩ : ByteArray)) e4)
  have hsz : a.data.toList.length = a'.data.toList.length := by
    have e5 : a.size = a'.size := by omega
    simpa using e5
  obtain ⟨h6, h7⟩ := List.append_inj h5 hsz
  exact ⟨bytes_ext h6, bytes_ext h7⟩
theorem leafT_inj {x y : Fac} {s t : ByteArray} (hx : x.Ok) (hy : y.Ok) (h : leafT x s = leafT y t) : x = y ∧ s = t := by
  obtain ⟨h1, h2⟩ := tagT_inj h
  exact ⟨bdF_inj hx hy h2, h1⟩
/-- Two leaves that lead to one root have the same text, or two different texts at one level have the same digest. -/
theorem no_clash {t t' : ByteArray} : ∀ (bs : List Bool) (qs qs' : List ByteArray), bs.length = qs.length → bs.length = qs'.length → upD (sumB KC t) bs qs = upD (sumB KC t') bs qs' →
    t = t' ∨ ∃ (j : Nat) (a b : ByteArray), (txtD t bs qs)[j]? = some a ∧ (txtD t' bs qs')[j]? = some b ∧ a ≠ b ∧ sumB KC a = sumB KC b
  | [], [], [], _, _, h => by
    by_cases e : t = t'
    · exact .inl e
    · exact .inr ⟨0, t, t', rfl, rfl, e, h⟩
  | b :: bs, q :: qs, q' :: qs', h1, h2, h => by
    have l1 := txtD_len t bs qs (by simpa using h1)
    have l2 := txtD_len t' bs qs' (by simpa using h2)
    have e1 := txtD_last t bs qs
    have e2 := txtD_last t' bs qs'
    have step : (if b then nodeT (upD (sumB KC t) bs qs) q else nodeT q (upD (sumB KC t) bs qs)) = (if b then nodeT (upD (sumB KC t') bs qs') q' else nodeT q' (upD (sumB KC t') bs qs')) → upD (sumB KC t) bs qs = upD (sumB KC t') bs qs' := by
      cases b <;> intro h3
      · exact (tagT_inj h3).2
      · exact (tagT_inj h3).1
    by_cases e : (if b then nodeT (upD (sumB KC t) bs qs) q else nodeT q (upD (sumB KC t) bs qs)) = (if b then nodeT (upD (sumB KC t') bs qs') q' else nodeT q' (upD (sumB KC t') bs qs'))
    · rcases no_clash bs qs qs' (by simpa using h1) (by simpa using h2) (step e) with h3 | ⟨j, a, c, ha, hc, h3, h4⟩
      · exact .inl h3
      · refine .inr ⟨j, a, c, ?_, ?_, h3, h4⟩
        · rw [txtD_cons, List.getElem?_append_left (List.getElem?_eq_some_iff.1 ha).1]; exact ha
        · rw [txtD_cons, List.getElem?_append_left (List.getElem?_eq_some_iff.1 hc).1]; exact hc
    · refine .inr ⟨bs.length + 1, _, _, ?_, ?_, e, ?_⟩
      · rw [txtD_cons, List.getElem?_append_right (by omega), l1, Nat.sub_self, e1]; rfl
      · rw [txtD_cons, List.getElem?_append_right (by omega), l2, Nat.sub_self, e2]; rfl
      · rw [upD_cons, upD_cons] at h
        cases b
        · rw [if_neg (by decide), if_neg (by decide)] at h ⊢
          exact h
        · rw [if_pos rfl, if_pos rfl] at h ⊢
          exact h

/-- Powers of two between a number and its half. -/
theorem pow_uniq {a b n : Nat} (h1 : 2 ^ a < n) (h2 : n ≤ 2 * 2 ^ a) (h3 : 2 ^ b < n) (h4 : n ≤ 2 * 2 ^ b) : a = b := by
  have e1 : 2 ^ a < 2 ^ (b + 1) := by rw [Nat.pow_succ]; omega
  have e2 : 2 ^ b < 2 ^ (a + 1) := by rw [Nat.pow_succ]; omega
  have := (Nat.pow_lt_pow_iff_right (by decide : 1 < 2)).1 e1
  have := (Nat.pow_lt_pow_iff_right (by decide : 1 < 2)).1 e2
  omega
theorem half_uniq {n j : Nat} (h : 2 ≤ n) (hn : n < 9223372036854775808) (h1 : 2 ^ j < n) (h2 : n ≤ 2 * 2 ^ j) : half n = 2 ^ j := by
  obtain ⟨k1, k2, _, _⟩ := half_facts n h hn
  unfold half at k1 k2 ⊢
  rw [pow_uniq k1 k2 h1 h2]
theorem root_halves {a b : List ByteArray} {j : Nat} (ha : a.length = 2 ^ j) (hb : b ≠ []) (hl : b.length ≤ a.length) (hn : a.length < 1000000000) : rootL (a ++ b) = nodeD (rootL a) (rootL b) := by
  have h1 : 1 ≤ b.length := List.length_pos_iff.2 hb
  have h2 : half (a ++ b).length = a.length := by
    rw [ha]
    apply half_uniq <;> rw [List.length_append] <;> omega
  rw [rootL_more (by rw [List.length_append]; omega) (by rw [List.length_append]; omega), h2, List.take_left', List.drop_left'] <;> rfl
/-- The number of binary digits. -/
def dgt (m : Nat) : Nat := if h : m = 0 then 0 else dgt (m / 2) + 1
termination_by m
decreasing_by omega
theorem dgt_zero : dgt 0 = 0 := by rw [dgt, dif_pos rfl]
theorem dgt_more {m : Nat} (h : m ≠ 0) : dgt m = dgt (m / 2) + 1 := by rw [dgt, dif_neg h]
theorem lt_dgt : ∀ m : Nat, m < 2 ^ dgt m := by
  intro m
  induction m using Nat.strongRecOn with
  | _ m ih =>
    by_cases h : m = 0
    · subst h; rw [dgt_zero]; decide
    · rw [dgt_more h, Nat.pow_succ]
      have := ih (m / 2) (by omega)
      omega
theorem lev_dgt : ∀ (d n i : Nat), n ≤ 2 ^ d → (lev i n).length ≤ d := by
  intro d
  induction d with
  | zero => intro n i h; rw [lev_small (by simpa using h)]; simp
  | succ d ih =>
    intro n i h
    by_cases h2 : 2 ≤ n ∧ n < 9223372036854775808
    · obtain ⟨k1, k2, _, _⟩ := half_facts n h2.1 h2.2
      have hh : half n ≤ 2 ^ d := by
        have : half n < 2 ^ (d + 1) := Nat.lt_of_lt_of_le k1 h
        unfold half at this ⊢
        have := (Nat.pow_lt_pow_iff_right (by decide : 1 < 2)).1 this
        exact Nat.pow_le_pow_right (by decide) (by omega)
      rw [lev_more h2.1 h2.2, List.length_cons]
      split
      · have := ih (half n) i hh; omega
      · have := ih (n - half n) (i - half n) (by omega); omega
    · rw [lev, dif_neg h2]; simp
theorem path_len (l : List ByteArray) (i : Nat) : (pathL l i).length = (lev i l.length).length := by
  unfold pathL; rw [List.length_reverse, outP_length]
theorem path_short (l : List ByteArray) (i : Nat) (h : 1 ≤ l.length) : (pathL l i).length ≤ dgt (l.length - 1) := by
  rw [path_len]
  apply lev_dgt
  have := lt_dgt (l.length - 1)
  omega
/-- What Check says. -/
def checkD (root : ByteArray) (n i : Int) (x : Fac) (s : ByteArray) (p : List ByteArray) : Bool :=
  decide (1 ≤ n ∧ n ≤ 4000 ∧ 0 ≤ i ∧ i < n) && (decide (p.length = (lev i.toNat n.toNat).length) && decide (upD (leafD x s) (sidesL i.toNat n.toNat) p.reverse = root))
theorem check_path (l : List ByteArray) (i : Nat) (x : Fac) (s : ByteArray) (hl : l.length ≤ 4000) (hi : l[i]? = some (leafD x s)) : checkD (rootL l) (l.length : Int) (i : Int) x s (pathL l i) = true := by
  have h1 := (List.getElem?_eq_some_iff.1 hi).1
  unfold checkD
  rw [decide_eq_true (by omega), Int.toNat_natCast, Int.toNat_natCast, decide_eq_true (path_len l i), Bool.true_and, Bool.true_and]
  apply decide_eq_true
  unfold pathL
  rw [List.reverse_reverse]
  exact path_up l.length l i _ rfl (by omega) (by omega) hi
end Go.Proofs.YtamiaalfjmppaaaDoor
