/- Plain facts on texts: a text names its entry but for the signature. No condition. -/
import Derived.Test.YtaaenobckipfkaaDoorChE
import Derived.Test.YtaaenobckipfkaaDoorSgQ
namespace Go.Proofs.YtaaenobckipfkaaDoor

/-- The number that digits write. -/
def dval (l : List UInt8) : Nat := l.foldl (fun a d => a * 10 + (d.toNat - 48)) 0
theorem dval_snoc (l : List UInt8) (d : UInt8) : dval (l ++ [d]) = dval l * 10 + (d.toNat - 48) := by simp [dval]
theorem dig_nat (d : Nat) (h : d < 10) : (UInt8.ofNat (48 + d)).toNat = 48 + d := by
  rw [UInt8.toNat_ofNat']; omega
theorem decD_facts (m : Nat) : ∀ u, u < m → dval (Lib.decDigits u) = u ∧ (∀ b ∈ Lib.decDigits u, 48 ≤ b.toNat ∧ b.toNat ≤ 57) ∧ Lib.decDigits u ≠ [] := by
  induction m with
  | zero => intro u hu; omega
  | succ m ih =>
    intro u hu
    by_cases h : u < 10
    · rw [Lib.decDigits_one h]
      refine ⟨?_, ?_, by simp⟩
      · show 0 * 10 + ((UInt8.ofNat (48 + u)).toNat - 48) = u
        rw [dig_nat u h]; omega
      · intro b hb; rw [List.mem_singleton] at hb; subst hb; rw [dig_nat u h]; omega
    · rw [Lib.decDigits, dif_neg h]
      obtain ⟨h1, h2, _⟩ := ih (u / 10) (by omega)
      have hd := dig_nat (u % 10) (by omega)
      refine ⟨?_, ?_, by simp⟩
      · rw [dval_snoc, h1, hd]; omega
      · intro b hb
        rcases List.mem_append.1 hb with hb | hb
        · exact h2 b hb
        · rw [List.mem_singleton] at hb; subst hb; rw [hd]; omega
theorem decD_inj {u v : Nat} (h : Lib.decDigits u = Lib.decDigits v) : u = v := by
  rw [← (decD_facts (u + 1) u (by omega)).1, ← (decD_facts (v + 1) v (by omega)).1, h]
theorem int_cases (n : Int) : (∃ u : Nat, n = (u : Int)) ∨ ∃ u : Nat, 1 ≤ u ∧ n = -(u : Int) := by
  by_cases h : 0 ≤ n
  · exact .inl ⟨n.toNat, by omega⟩
  · exact .inr ⟨(-n).toNat, by omega, by omega⟩
theorem no_minus {u v : Nat} (h : Lib.decDigits u = 45 :: Lib.decDigits v) : False := by
  have := (decD_facts (u + 1) u (by omega)).2.1 45 (by rw [h]; simp)
  exact absurd this.1 (by decide)
theorem itoa_inj {m n : Int} (h : Lib.itoa m = Lib.itoa n) : m = n := by
  rcases int_cases m with ⟨u, rfl⟩ | ⟨u, hu, rfl⟩ <;> rcases int_cases n with ⟨v, rfl⟩ | ⟨v, hv, rfl⟩
  · rw [Lib.itoa_nonneg, Lib.itoa_nonneg] at h; rw [decD_inj h]
  · rw [Lib.itoa_nonneg, Lib.itoa_neg v hv] at h; exact (no_minus h).elim
  · rw [Lib.itoa_neg u hu, Lib.itoa_nonneg] at h; exact (no_minus h.symm).elim
  · rw [Lib.itoa_neg u hu, Lib.itoa_neg v hv] at h
    injection h with _ h
    rw [decD_inj h]
theorem itoa_nosp (n : Int) : (32 : UInt8) ∉ Lib.itoa n := by
  intro h
  rcases int_cases n with ⟨u, rfl⟩ | ⟨u, hu, rfl⟩
  · rw [Lib.itoa_nonneg] at h
    exact absurd ((decD_facts (u + 1) u (by omega)).2.1 32 h).1 (by decide)
  · rw [Lib.itoa_neg u hu] at h
    rcases List.mem_cons.1 h with h | h
    · exact absurd h (by decide)
    · exact absurd ((decD_facts (u + 1) u (by omega)).2.1 32 h).1 (by decide)
theorem split_at {c : UInt8} : ∀ {x y r s : List UInt8}, c ∉ x → c ∉ y → x ++ c :: r = y ++ c :: s → x = y ∧ r = s
  | [], [], r, s, _, _, h => by simpa using h
  | [], b :: y, r, s, _, hy, h => by
    simp at h; exact absurd (by rw [h.1]; simp) hy
  | a :: x, [], r, s, hx, _, h => by
    simp at h; exact absurd (by rw [← h.1]; simp) hx
  | a :: x, b :: y, r, s, hx, hy, h => by
    simp at h
    obtain ⟨h1, h2⟩ := split_at (x := x) (y := y) (fun hm => hx (by simp [hm])) (fun hm => hy (by simp [hm])) h.2
    exact ⟨by rw [h.1, h1], h2⟩
theorem dec_tl (n : Int) : (dec n).data.toList = Lib.itoa n := rfl
theorem txL_eq (e : E31) : txL e = [101, 110, 116, 114, 121] ++ 32 :: (Lib.itoa e.house ++ 32 :: (Lib.itoa e.seq ++ 32 :: (Lib.itoa e.day ++ 32 :: (Lib.itoa (e.prev.size : Int) ++ 32 :: (e.prev.data.toList ++ e.body.data.toList))))) := by
  unfold txL txP txP txP txP txP
  simp only [dec_tl, numE, List.append_assoc, List.cons_append, List.nil_append]
theorem tx_inj {a b : E31} (h : txE a = txE b) : a.house = b.house ∧ a.seq = b.seq ∧ a.day = b.day ∧ a.prev = b.prev ∧ a.body = b.body := by
  have h0 : txL a = txL b := by
    have := congrArg (fun t : ByteArray => t.data.toList) h
    simpa [txE] using this
  rw [txL_eq, txL_eq] at h0
  have h1 := List.append_cancel_left h0
  injection h1 with _ h1
  obtain ⟨e1, h2⟩ := split_at (itoa_nosp _) (itoa_nosp _) h1
  obtain ⟨e2, h3⟩ := split_at (itoa_nosp _) (itoa_nosp _) h2
  obtain ⟨e3, h4⟩ := split_at (itoa_nosp _) (itoa_nosp _) h3
  obtain ⟨e4, h5⟩ := split_at (itoa_nosp _) (itoa_nosp _) h4
  have e4 := itoa_inj e4
  have hsz : a.prev.data.toList.length = b.prev.data.toList.length := by
    have e5 : a.prev.size = b.prev.size := by omega
    simpa using e5
  obtain ⟨h6, h7⟩ := List.append_inj h5 hsz
  exact ⟨itoa_inj e1, itoa_inj e2, itoa_inj e3, ba_ext h6, ba_ext h7⟩
/-- The entry without its signature. -/
def bare (e : E31) : E31 := ⟨e.house, e.seq, e.day, e.prev, e.body, 0, 0⟩
theorem texts_law (a b : E31) : ((txE a).toList == (txE b).toList) = eqB (bare a) (bare b) := by
  cases hq : eqB (bare a) (bare b) with
  | true =>
    have h := (eqB_iff _ _).1 hq
    unfold bare at h
    injection h with h1 h2 h3 h4 h5
    have : txE a = txE b := by
      have e1 : txE a = txE (bare a) := rfl
      have e2 : txE b = txE (bare b) := rfl
      rw [e1, e2]; unfold bare; rw [h1, h2, h3, h4, h5]
    rw [this]; simp
  | false =>
    cases ht : ((txE a).toList == (txE b).toList) with
    | false => rfl
    | true =>
      have h := tl_inj (by simpa using ht : (txE a).toList = (txE b).toList)
      obtain ⟨h1, h2, h3, h4, h5⟩ := tx_inj h
      have : eqB (bare a) (bare b) = true := (eqB_iff _ _).2 (by unfold bare; rw [h1, h2, h3, h4, h5])
      rw [this] at hq; cases hq
end Go.Proofs.YtaaenobckipfkaaDoor
