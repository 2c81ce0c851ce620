/- Plain facts on the text of a fact: its words, and that they are read again. No condition. -/
import Derived.Test.YtamiaalfjmppaaaDoorFb1
import Derived.Lib.IndexMore
import Derived.Lib.IndexBytes
import Derived.Lib.CutLaws
import Derived.Lib.AtoiAll
import Derived.Lib.AtoiAllCases
namespace Go.Pa
open Go

/-- The number that digits write. -/
def dval (l : List UInt8) : Nat := l.foldl (fun a d => a * 10 + (d.toNat - 48)) 0
theorem dval_snoc (l : List UInt8) (d : UInt8) : dval (l ++ [d]) = dval l * 10 + (d.toNat - 48) := by simp [dval]
theorem dig_nat (d : Nat) (h : d < 10) : (UInt8.ofNat (48 + d)).toNat = 48 + d := by
  rw [UInt8.toNat_ofNat']; omega
theorem decD_facts (m : Nat) : ∀ u, u < m → dval (Lib.decDigits u) = u ∧ (∀ b ∈ Lib.decDigits u, 48 ≤ b.toNat ∧ b.toNat ≤ 57) ∧ Lib.decDigits u ≠ [] := by
  induction m with
  | zero => intro u hu; omega
  | succ m ih =>
    intro u hu
    by_cases h : u < 10
    · rw [Lib.decDigits_one h]
      refine ⟨?_, ?_, by simp⟩
      · show 0 * 10 + ((UInt8.ofNat (48 + u)).toNat - 48) = u
        rw [dig_nat u h]; omega
      · intro b hb; rw [List.mem_singleton] at hb; subst hb; rw [dig_nat u h]; omega
    · rw [Lib.decDigits, dif_neg h]
      obtain ⟨h1, h2, _⟩ := ih (u / 10) (by omega)
      have hd := dig_nat (u % 10) (by omega)
      refine ⟨?_, ?_, by simp⟩
      · rw [dval_snoc, h1, hd]; omega
      · intro b hb
        rcases List.mem_append.1 hb with hb | hb
        · exact h2 b hb
        · rw [List.mem_singleton] at hb; subst hb; rw [hd]; omega
theorem decD_all (u : Nat) : dval (Lib.decDigits u) = u ∧ (∀ b ∈ Lib.decDigits u, 48 ≤ b.toNat ∧ b.toNat ≤ 57) ∧ Lib.decDigits u ≠ [] := decD_facts (u + 1) u (by omega)
theorem int_cases (n : Int) : (∃ u : Nat, n = (u : Int)) ∨ ∃ u : Nat, 1 ≤ u ∧ n = -(u : Int) := by
  by_cases h : 0 ≤ n
  · exact .inl ⟨n.toNat, by omega⟩
  · exact .inr ⟨(-n).toNat, by omega, by omega⟩
theorem itoa_nosp (n : Int) : (32 : UInt8) ∉ Lib.itoa n := by
  intro h
  rcases int_cases n with ⟨u, rfl⟩ | ⟨u, hu, rfl⟩
  · rw [Lib.itoa_nonneg] at h
    exact absurd ((decD_all u).2.1 32 h).1 (by decide)
  · rw [Lib.itoa_neg u hu] at h
    rcases List.mem_cons.1 h with h | h
    · exact absurd h (by decide)
    · exact absurd ((decD_all u).2.1 32 h).1 (by decide)
theorem foldl_ge (l : List UInt8) : ∀ a : Nat, a ≤ l.foldl (fun a d => a * 10 + (d.toNat - 48)) a := by
  induction l with
  | nil => exact fun a => Nat.le_refl a
  | cons d l ih => intro a; exact Nat.le_trans (show a ≤ a * 10 + (d.toNat - 48) by omega) (ih _)
/-- Digits that write a small number are read as it. -/
theorem parse_digs : ∀ (l : List UInt8) (a : Nat), (∀ b ∈ l, 48 ≤ b.toNat ∧ b.toNat ≤ 57) → l.foldl (fun a d => a * 10 + (d.toNat - 48)) a < 18446744073709551616 → Lib.parseUint10 a l = .ok (l.foldl (fun a d => a * 10 + (d.toNat - 48)) a)
  | [], a, _, _ => rfl
  | c :: r, a, h, hs => by
    have hc := h c (by simp)
    have hs' : r.foldl (fun a d => a * 10 + (d.toNat - 48)) (a * 10 + (c.toNat - 48)) < 18446744073709551616 := hs
    have hg := foldl_ge r (a * 10 + (c.toNat - 48))
    have h1 : ¬ 18446744073709551616 ≤ a * 10 + (c.toNat - 48) := by omega
    have h2 : ¬ 1844674407370955162 ≤ a := by omega
    unfold Lib.parseUint10
    rw [if_pos hc, if_neg h2, if_neg h1]
    exact parse_digs r _ (fun b hb => h b (by simp [hb])) hs'
theorem mag_decD (u : Nat) (h : u < 18446744073709551616) : Lib.parseMag (Lib.decDigits u) = .ok u := by
  obtain ⟨h1, h2, h3⟩ := decD_all u
  unfold Lib.parseMag
  rw [if_neg h3, parse_digs _ 0 h2 (by show dval _ < _; rw [h1]; exact h)]
  show Lib.NumEnd.ok (dval _) = _
  rw [h1]
/-- What Itoa writes is read again. -/
theorem atoi_itoa (n : Int) (h0 : -9223372036854775808 ≤ n) (h1 : n ≤ 9223372036854775807) : Lib.atoiAll (Lib.itoa n) = .ok n := by
  rcases int_cases n with ⟨u, rfl⟩ | ⟨u, hu, rfl⟩
  · rw [Lib.itoa_nonneg]
    have hm := mag_decD u (by omega)
    obtain ⟨_, h2, h3⟩ := decD_all u
    cases hd : Lib.decDigits u with
    | nil => exact absurd hd h3
    | cons c r =>
      rw [hd] at hm h2
      have hc := h2 c (by simp)
      unfold Lib.atoiAll
      simp only
      rw [if_neg (by omega), hm]
      simp only
      rw [if_neg (by omega), if_neg (by omega), if_neg (by omega)]
  · rw [Lib.itoa_neg u hu]
    have hm := mag_decD u (by omega)
    unfold Lib.atoiAll
    simp only
    rw [if_pos (by decide), hm]
    simp only
    rw [if_neg (by simp), if_neg (by omega), if_pos (by decide)]

/-- The words of a text, between its blanks. -/
def wds : List UInt8 → List (List UInt8)
  | [] => [[]]
  | c :: r => if c = 32 then [] :: wds r else match wds r with
    | [] => [[c]]
    | p :: ps => (c :: p) :: ps
theorem wds_ne : ∀ l, wds l ≠ []
  | [] => by simp [wds]
  | c :: r => by
    unfold wds
    split
    · simp
    · split <;> simp
theorem wds_word : ∀ (p : List UInt8), (32 : UInt8) ∉ p → wds p = [p]
  | [], _ => rfl
  | c :: r, h => by
    have hc : c ≠ 32 := fun e => h (by simp [e])
    unfold wds
    rw [if_neg hc, wds_word r (fun e => h (by simp [e]))]
theorem wds_sep : ∀ (p r : List UInt8), (32 : UInt8) ∉ p → wds (p ++ 32 :: r) = p :: wds r
  | [], r, _ => by rw [List.nil_append, wds, if_pos rfl]
  | c :: p, r, h => by
    have hc : c ≠ 32 := fun e => h (by simp [e])
    rw [List.cons_append, wds, if_neg hc, wds_sep p r (fun e => h (by simp [e]))]
theorem idx_cases : ∀ l : List UInt8, (Lib.index l [32] = -1 ∧ (32 : UInt8) ∉ l) ∨ ∃ p r : List UInt8, l = p ++ 32 :: r ∧ (32 : UInt8) ∉ p ∧ Lib.index l [32] = p.length
  | [] => .inl ⟨rfl, by simp⟩
  | c :: l => by
    by_cases hc : c = 32
    · subst hc
      exact .inr ⟨[], l, rfl, by simp, by simp [Lib.index]⟩
    · have hp : ([32] : List UInt8).isPrefixOf (c :: l) = false := by
        simp only [List.isPrefixOf, Bool.and_true]
        simpa using fun e => hc e.symm
      rcases idx_cases l with ⟨h1, h2⟩ | ⟨p, r, h1, h2, h3⟩
      · refine .inl ⟨?_, ?_⟩
        · rw [Lib.index, hp, h1]; rfl
        · intro h; rcases List.mem_cons.1 h with h | h
          · exact hc h.symm
          · exact h2 h
      · refine .inr ⟨c :: p, r, by rw [h1]; rfl, ?_, ?_⟩
        · intro h; rcases List.mem_cons.1 h with h | h
          · exact hc h.symm
          · exact h2 h
        · rw [Lib.index, hp, h3]
          have : ((p.length : Int) == -1) = false := beq_eq_false_iff_ne.2 (by omega)
          simp only [Bool.false_eq_true, if_false, this]
          simp
/-- What Cut cuts off is the first word. -/
theorem cut_cases (l : List UInt8) : (Lib.cut l [32] = (l, [], false) ∧ wds l = [l]) ∨ ∃ p r : List UInt8, Lib.cut l [32] = (p, r, true) ∧ wds l = p :: wds r ∧ r.length < l.length ∧ p.length ≤ l.length := by
  rcases idx_cases l with ⟨h1, h2⟩ | ⟨p, r, h1, h2, h3⟩
  · refine .inl ⟨?_, wds_word l h2⟩
    unfold Lib.cut; rw [h1]; rfl
  · refine .inr ⟨p, r, ?_, by rw [h1]; exact wds_sep p r h2, by rw [h1]; simp; omega, by rw [h1]; simp⟩
    unfold Lib.cut
    rw [h3, if_pos (by omega)]
    have e1 : ((p.length : Int)).toNat = p.length := by omega
    rw [e1, h1]
    simp

/-- What Parse keeps of the words that it has read: whether none has come, and the numbers. -/
def stepW (s : Option (Bool × List Int)) (x : List UInt8) : Option (Bool × List Int) := match s with
  | none => none
  | some (true, _) => if x = [102, 97, 99, 116] then some (false, []) else none
  | some (false, ns) => match Lib.atoiAll x with
    | .ok v => if ns.length = 6 then none else some (false, ns ++ [v])
    | _ => none
def runW (pre : List (List UInt8)) : Option (Bool × List Int) := pre.foldl stepW (some (true, []))
theorem runW_snoc (pre : List (List UInt8)) (x : List UInt8) : runW (pre ++ [x]) = stepW (runW pre) x := by simp [runW]
theorem runW_none (l : List (List UInt8)) : l.foldl stepW none = none := by
  induction l with
  | nil => rfl
  | cons x l ih => exact ih
theorem runW_prefix {a b : List (List UInt8)} (h : a <+: b) (hn : runW a = none) : runW b = none := by
  obtain ⟨c, rfl⟩ := h
  unfold runW at *
  rw [List.foldl_append, hn, runW_none]
/-- The numbers that are kept are integers of 64 bits. -/
theorem runW_ok : ∀ (l : List (List UInt8)) (s : Option (Bool × List Int)), (∀ f ns, s = some (f, ns) → (f = true → ns = []) ∧ ns.length ≤ 6 ∧ ∀ v ∈ ns, -9223372036854775808 ≤ v ∧ v ≤ 9223372036854775807) →
    ∀ f ns, l.foldl stepW s = some (f, ns) → (f = true → ns = []) ∧ ns.length ≤ 6 ∧ ∀ v ∈ ns, -9223372036854775808 ≤ v ∧ v ≤ 9223372036854775807
  | [], s, h, f, ns, e => h f ns e
  | x :: l, s, h, f, ns, e => by
    refine runW_ok l (stepW s x) ?_ f ns e
    intro g ms eg
    cases s with
    | none => cases eg
    | some p =>
      obtain ⟨f0, n0⟩ := p
      obtain ⟨h1, h2, h3⟩ := h f0 n0 rfl
      cases f0 with
      | true =>
        unfold stepW at eg
        simp only at eg
        split at eg
        · cases eg; exact ⟨(fun e => by cases e), by simp, by simp⟩
        · cases eg
      | false =>
        unfold stepW at eg
        simp only at eg
        split at eg
        · rename_i v hv
          split at eg
          · cases eg
          · cases eg
            refine ⟨(fun e => by cases e), by simp; omega, ?_⟩
            intro u hu
            rcases List.mem_append.1 hu with hu | hu
            · exact h3 u hu
            · rw [List.mem_singleton] at hu; subst hu; exact Lib.atoiAll_bounds hv
        · cases eg
theorem runW_facts {pre : List (List UInt8)} {f : Bool} {ns : List Int} (h : runW pre = some (f, ns)) : (f = true → ns = []) ∧ ns.length ≤ 6 ∧ ∀ v ∈ ns, -9223372036854775808 ≤ v ∧ v ≤ 9223372036854775807 :=
  runW_ok pre _ (fun f ns e => by cases e; exact ⟨fun _ => rfl, by simp, by simp⟩) f ns h
end Go.Pa
namespace Go.Proofs.YtamiaalfjmppaaaDoor
open Go.Pa
/-- The words of the text of a fact. -/
theorem wds_bdP (x : Fac) (k : Nat) (r : List UInt8) : wds ((bdP x k).data.toList ++ 32 :: r) = wds (bdP x k).data.toList ++ wds r := by
  suffices h : ∀ k, ∃ q p : List UInt8, (32 : UInt8) ∉ p ∧ (bdP x k).data.toList = q ++ p ∧ ∀ s, wds (q ++ s) = (wds (bdP x k).data.toList).dropLast ++ wds s by
    obtain ⟨q, p, hp, e, hs⟩ := h k
    rw [e, List.append_assoc, hs, hs, wds_sep p r hp, wds_word p hp]
    simp
  intro k
  induction k with
  | zero => exact ⟨[], [102, 97, 99, 116], by decide, rfl, fun s => rfl⟩
  | succ k ih =>
    obtain ⟨q, p, hp, e, hs⟩ := ih
    have e2 : (bdP x (k + 1)).data.toList = (q ++ p ++ [32]) ++ Lib.itoa (numF x k) := by
      show (bdP x k ++ (⟨#[32]⟩ ++ dec (numF x k))).data.toList = _
      rw [ByteArray.data_append, ByteArray.data_append, Array.toList_append, Array.toList_append, e]
      simp [dec]
    refine ⟨q ++ p ++ [32], Lib.itoa (numF x k), itoa_nosp _, e2, fun s => ?_⟩
    have ew : ∀ t, wds (q ++ p ++ [32] ++ t) = (wds (bdP x k).data.toList).dropLast ++ (p :: wds t) := by
      intro t
      rw [List.append_assoc, List.append_assoc, hs]
      show _ ++ wds (p ++ 32 :: t) = _
      rw [wds_sep p t hp]
    rw [e2, ew, ew, wds_word _ (itoa_nosp _)]
    rw [List.dropLast_append_of_ne_nil (by simp)]
    simp
theorem wds_bdP_succ (x : Fac) (k : Nat) : wds (bdP x (k + 1)).data.toList = wds (bdP x k).data.toList ++ [Lib.itoa (numF x k)] := by
  have e2 : (bdP x (k + 1)).data.toList = (bdP x k).data.toList ++ 32 :: Lib.itoa (numF x k) := by
    show (bdP x k ++ (⟨#[32]⟩ ++ dec (numF x k))).data.toList = _
    rw [ByteArray.data_append, ByteArray.data_append, Array.toList_append, Array.toList_append]
    simp [dec]
  rw [e2, wds_bdP, wds_word _ (itoa_nosp _)]
/-- A text of a fact is read as the fact's numbers. -/
theorem run_bdP {x : Fac} (h : x.Ok) : ∀ k, k ≤ 6 → runW (wds (bdP x k).data.toList) = some (false, (List.range k).map (numF x))
  | 0, _ => rfl
  | k + 1, hk => by
    rw [wds_bdP_succ, runW_snoc, run_bdP h k (by omega)]
    unfold stepW
    simp only
    rw [atoi_itoa _ (numF_ok h k).1 (numF_ok h k).2]
    simp only
    rw [if_neg (by simp; omega), List.range_succ, List.map_append]
    rfl
theorem run_bdF {x : Fac} (h : x.Ok) : runW (wds (bdF x).data.toList) = some (false, [x.ref, x.act, x.low, x.high, x.filed, secN x.secret]) := run_bdP h 6 (Nat.le_refl _)
/-- The fact that Parse builds of six numbers. -/
def facOf (a b c d e f : Int) : Fac := ⟨a, b, c, d, e, decide (f = 1)⟩
theorem facOf_self (x : Fac) : facOf x.ref x.act x.low x.high x.filed (secN x.secret) = x := by
  cases x with
  | mk a b c d e f => cases f <;> rfl
/-- Two facts with one text are equal. -/
theorem bdF_inj {x y : Fac} (hx : x.Ok) (hy : y.Ok) (h : bdF x = bdF y) : x = y := by
  have h1 := run_bdF hx
  rw [h, run_bdF hy] at h1
  simp only [Option.some.injEq, Prod.mk.injEq, true_and, List.cons.injEq, and_true] at h1
  obtain ⟨h1, h2, h3, h4, h5, h6⟩ := h1
  rw [← facOf_self x, ← facOf_self y, h1, h2, h3, h4, h5, h6]
end Go.Proofs.YtamiaalfjmppaaaDoor
