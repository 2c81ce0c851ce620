/- Facts: comparisons, arguments opened. No condition. -/
import Derived.Test.YtamiaalfjmppaaaDoorFb1
import Derived.Test.YtamiaalfjmppaaaDoorApl
import Derived.Lib.SmallJoins
namespace Go.Proofs.YtamiaalfjmppaaaDoor
open Go.RowKit Go.Blk Go.Opn Go.ChangeShapes Go.WideShapes Go.Deep Go.OpenShut

def eqF (x y : Fac) : Bool := decide (x.ref = y.ref ∧ x.act = y.act ∧ x.low = y.low ∧ x.high = y.high ∧ x.filed = y.filed ∧ x.secret = y.secret)
theorem eqF_iff (x y : Fac) : eqF x y = true ↔ x = y := by
  obtain ⟨a, b, c, d, e, f⟩ := x
  obtain ⟨a', b', c', d', e', f'⟩ := y
  unfold eqF
  simp
theorem eqF_no {x y : Fac} (h : x ≠ y) : eqF x y = false := by
  cases hx : eqF x y with
  | false => rfl
  | true => exact absurd ((eqF_iff x y).1 hx) h
theorem eqF_self (x : Fac) : eqF x x = true := (eqF_iff x x).2 rfl
instance : Inhabited Fac := ⟨⟨0, 0, 0, 0, 0, false⟩⟩
theorem cellsFact : Tryd.prog.cellsOf 25 = 6 := by kernel_rfl
theorem encF_len6 (x : Fac) : (encF x).length = 6 := rfl
theorem fact_of {H : Type} {enc : TypeId × Value → H} {w : World} {base : Nat} {spare : Nat → Bool} {held : Bool} {fuel : Nat} {cs : List Value} {x : DataW H × List MemPlace} (h : DataW.trod enc Tryd.prog w base spare held fuel 25 cs = some x) :
    ∃ a : Fac, a.Ok ∧ ∀ (p : Nat) u, (encF a)[p]? = some u → cs[p]? = some u := by
  obtain ⟨k, hk, wk⟩ := leaf_int (f := 3) (p := 0) Tryd.underlying3 (by kernel_rfl) h
  obtain ⟨s, hs, ws⟩ := leaf_int (f := 3) (p := 1) Tryd.underlying3 (by kernel_rfl) h
  obtain ⟨b, hb, wb⟩ := leaf_int (f := 3) (p := 2) Tryd.underlying3 (by kernel_rfl) h
  obtain ⟨f, hf, wf⟩ := leaf_int (f := 3) (p := 3) Tryd.underlying3 (by kernel_rfl) h
  obtain ⟨g, hg, wg⟩ := leaf_int (f := 3) (p := 4) Tryd.underlying3 (by kernel_rfl) h
  obtain ⟨t, ht⟩ := leaf_bool (f := 3) (p := 5) Tryd.underlying4 (by kernel_rfl) h
  obtain ⟨k0, k1⟩ := bounds_i64 wk
  obtain ⟨s0, s1⟩ := bounds_i64 ws
  obtain ⟨b0, b1⟩ := bounds_i64 wb
  obtain ⟨f0, f1⟩ := bounds_i64 wf
  obtain ⟨g0, g1⟩ := bounds_i64 wg
  refine ⟨⟨k, s, b, f, g, t⟩, ⟨k0, k1, s0, s1, b0, b1, f0, f1, g0, g1⟩, fun p u hu => ?_⟩
  match p, hu with
  | 0, hu => cases hu; exact hk
  | 1, hu => cases hu; exact hs
  | 2, hu => cases hu; exact hb
  | 3, hu => cases hu; exact hf
  | 4, hu => cases hu; exact hg
  | 5, hu => cases hu; exact ht
  | p + 6, hu => simp [encF] at hu
set_option maxRecDepth 100000 in
theorem open_facts {H : Type} {enc : TypeId × Value → H} {w : World} {base : Nat} {spare : Nat → Bool} {held : Bool} {v : Value} {d : DataW H} {ps : List MemPlace} {r : Reach} {b0 : Nat} (hv : Value.okWide Tryd.prog w r b0 22 v) (h : DataW.Trod enc Tryd.prog w base spare held 22 v d ps) :
    ∃ (A : Option Addr) (c : Nat) (l : List Fac), v = .slice A l.length c ∧ l.length ≤ 9223372036854775807 ∧ l.length ≤ c ∧ SL w 6 encF A l ∧ ∀ a ∈ l, a.Ok := by
  obtain ⟨A, len, cap, m, rfl, hl, hc, hi⟩ := open_rows Tryd.underlying22 (by rw [cellsFact]; decide) hv h
  rw [cellsFact] at hi
  have hi2 : ∀ i, i < len → ∃ a : Fac, a.Ok ∧ ∃ b off, A = some ⟨b, off, none⟩ ∧ ∀ p u, (encF a)[p]? = some u → w.cell? ⟨b, off + (i * 6 + p), none⟩ = some u := by
    intro i hlt
    obtain ⟨b, off, cs, x, hA, _, ht, hcell⟩ := hi i hlt
    obtain ⟨a, ha, hcs⟩ := fact_of ht
    exact ⟨a, ha, b, off, hA, fun p u hu => hcell p u (hcs p u hu)⟩
  obtain ⟨f, hf⟩ := choose_lt hi2
  unfold maxLen at hc
  refine ⟨A, cap, (List.range len).map f, by simp, by simp; omega, by simpa using hl, ⟨fun hn => ?_⟩, fun a ha => ?_⟩
  · have h0 : 0 < len := by
      rcases Nat.eq_zero_or_pos len with h | h
      · subst h; simp at hn
      · exact h
    obtain ⟨_, b, off, hA, _⟩ := hf 0 h0
    refine ⟨b, off, hA, fun i e hie p u hu => ?_⟩
    have hil : i < len := by
      have := (List.getElem?_eq_some_iff.1 hie).1
      simpa using this
    have he : f i = e := by
      rw [List.getElem?_map, List.getElem?_range hil] at hie
      simpa using hie
    obtain ⟨_, b', off', hA', hcell⟩ := hf i hil
    rw [hA] at hA'
    injection hA' with hA'
    injection hA' with e1 e2
    subst e1 e2
    rw [← he] at hu
    exact hcell p u hu
  · obtain ⟨i, hi, rfl⟩ := List.mem_map.1 ha
    exact (hf i (List.mem_range.1 hi)).1
set_option maxRecDepth 100000 in
theorem open_fact {H : Type} {enc : TypeId × Value → H} {w : World} {base : Nat} {spare : Nat → Bool} {held : Bool} {v : Value} {d : DataW H} {ps : List MemPlace} {r : Reach} {b0 : Nat} (hv : Value.okWide Tryd.prog w r b0 25 v) (h : DataW.Trod enc Tryd.prog w base spare held 25 v d ps) :
    ∃ x : Fac, v = .agg (encF x).toArray ∧ x.Ok := by
  obtain ⟨cs, rfl, hsz⟩ := okWide_struct Tryd.underlying25 hv
  rw [cellsFact] at hsz
  obtain ⟨fuel, hf⟩ := h
  obtain ⟨a, ha, hcs⟩ := fact_of hf
  refine ⟨a, ?_, ha⟩
  congr 1
  apply Array.ext'
  show cs.toList = encF a
  apply List.ext_getElem?
  intro i
  by_cases hi : i < 6
  · obtain ⟨u, hu⟩ : ∃ u, (encF a)[i]? = some u := ⟨_, List.getElem?_eq_getElem (by rw [encF_len6]; exact hi)⟩
    rw [hu]; exact hcs i u hu
  · rw [List.getElem?_eq_none (by simp; omega), List.getElem?_eq_none (by rw [encF_len6]; omega)]
set_option maxRecDepth 100000 in
theorem run_neqF (x y : Fac) (W : World) : (binOp .neq 25 (.agg (encF x).toArray) (.agg (encF y).toArray)).run Tryd.prog W = .ok (.bool (!eqF x y)) W := by
  obtain ⟨ar, aa, al, ah, af, az⟩ := x
  obtain ⟨br, ba, bl, bh, bf, bz⟩ := y
  show (binOp .neq 25 (.agg #[.int .i64 ar, .int .i64 aa, .int .i64 al, .int .i64 ah, .int .i64 af, .bool az]) (.agg #[.int .i64 br, .int .i64 ba, .int .i64 bl, .int .i64 bh, .int .i64 bf, .bool bz])).run Tryd.prog W = _
  by_cases h1 : ar = br
  · subst h1
    by_cases h2 : aa = ba
    · subst h2
      by_cases h3 : al = bl
      · subst h3
        by_cases h4 : ah = bh
        · subst h4
          by_cases h5 : af = bf
          · subst h5
            by_cases h6 : az = bz
            · subst h6
              have hq : eqF ⟨ar, aa, al, ah, af, az⟩ ⟨ar, aa, al, ah, af, az⟩ = true := by unfold eqF; simp []
              rw [hq]
              clear hq
              go_simp <;> rfl
            · have hq : eqF ⟨ar, aa, al, ah, af, az⟩ ⟨ar, aa, al, ah, af, bz⟩ = false := by unfold eqF; simp [h6]
              rw [hq]
              clear hq
              go_simp <;> rfl
          · have hq : eqF ⟨ar, aa, al, ah, af, az⟩ ⟨ar, aa, al, ah, bf, bz⟩ = false := by unfold eqF; simp [h5]
            rw [hq]
            clear hq
            go_simp <;> rfl
        · have hq : eqF ⟨ar, aa, al, ah, af, az⟩ ⟨ar, aa, al, bh, bf, bz⟩ = false := by unfold eqF; simp [h4]
          rw [hq]
          clear hq
          go_simp <;> rfl
      · have hq : eqF ⟨ar, aa, al, ah, af, az⟩ ⟨ar, aa, bl, bh, bf, bz⟩ = false := by unfold eqF; simp [h3]
        rw [hq]
        clear hq
        go_simp <;> rfl
    · have hq : eqF ⟨ar, aa, al, ah, af, az⟩ ⟨ar, ba, bl, bh, bf, bz⟩ = false := by unfold eqF; simp [h2]
      rw [hq]
      clear hq
      go_simp <;> rfl
  · have hq : eqF ⟨ar, aa, al, ah, af, az⟩ ⟨br, ba, bl, bh, bf, bz⟩ = false := by unfold eqF; simp [h1]
    rw [hq]
    clear hq
    go_simp <;> rfl
set_option maxRecDepth 100000 in
theorem run_eqlF (x y : Fac) (W : World) : (binOp .eql 25 (.agg (encF x).toArray) (.agg (encF y).toArray)).run Tryd.prog W = .ok (.bool (eqF x y)) W := by
  obtain ⟨ar, aa, al, ah, af, az⟩ := x
  obtain ⟨br, ba, bl, bh, bf, bz⟩ := y
  show (binOp .eql 25 (.agg #[.int .i64 ar, .int .i64 aa, .int .i64 al, .int .i64 ah, .int .i64 af, .bool az]) (.agg #[.int .i64 br, .int .i64 ba, .int .i64 bl, .int .i64 bh, .int .i64 bf, .bool bz])).run Tryd.prog W = _
  by_cases h1 : ar = br
  · subst h1
    by_cases h2 : aa = ba
    · subst h2
      by_cases h3 : al = bl
      · subst h3
        by_cases h4 : ah = bh
        · subst h4
          by_cases h5 : af = bf
          · subst h5
            by_cases h6 : az = bz
            · subst h6
              have hq : eqF ⟨ar, aa, al, ah, af, az⟩ ⟨ar, aa, al, ah, af, az⟩ = true := by unfold eqF; simp []
              rw [hq]
              clear hq
              go_simp <;> rfl
            · have hq : eqF ⟨ar, aa, al, ah, af, az⟩ ⟨ar, aa, al, ah, af, bz⟩ = false := by unfold eqF; simp [h6]
              rw [hq]
              clear hq
              go_simp <;> rfl
          · have hq : eqF ⟨ar, aa, al, ah, af, az⟩ ⟨ar, aa, al, ah, bf, bz⟩ = false := by unfold eqF; simp [h5]
            rw [hq]
            clear hq
            go_simp <;> rfl
        · have hq : eqF ⟨ar, aa, al, ah, af, az⟩ ⟨ar, aa, al, bh, bf, bz⟩ = false := by unfold eqF; simp [h4]
          rw [hq]
          clear hq
          go_simp <;> rfl
      · have hq : eqF ⟨ar, aa, al, ah, af, az⟩ ⟨ar, aa, bl, bh, bf, bz⟩ = false := by unfold eqF; simp [h3]
        rw [hq]
        clear hq
        go_simp <;> rfl
    · have hq : eqF ⟨ar, aa, al, ah, af, az⟩ ⟨ar, ba, bl, bh, bf, bz⟩ = false := by unfold eqF; simp [h2]
      rw [hq]
      clear hq
      go_simp <;> rfl
  · have hq : eqF ⟨ar, aa, al, ah, af, az⟩ ⟨br, ba, bl, bh, bf, bz⟩ = false := by unfold eqF; simp [h1]
    rw [hq]
    clear hq
    go_simp <;> rfl
theorem exec_neqF {o : Oper} {ρ : Operand → Value} {w : World} {a b : Operand} {x y : Fac} {Q : Bool} (ho : o.op = .binOp .neq 25 a b 25) (ha : ρ a = .agg (encF x).toArray) (hb : ρ b = .agg (encF y).toArray) (hQ : (!eqF x y) = Q) :
    (execOp ρ o).run Tryd.prog w = .ok (.value (.bool Q)) w := by
  have hg : (eqGuard .neq 25 a b (.agg (encF x).toArray) (.agg (encF y).toArray)).run Tryd.prog w = .ok () w := by
    unfold eqGuard
    simp
  unfold execOp
  simp only [ho, ha, hb, Sem.run_bind, hg, Result.andThen_ok, run_neqF, Sem.run_pure, hQ]
theorem exec_eqlF {o : Oper} {ρ : Operand → Value} {w : World} {a b : Operand} {x y : Fac} {Q : Bool} (ho : o.op = .binOp .eql 25 a b 25) (ha : ρ a = .agg (encF x).toArray) (hb : ρ b = .agg (encF y).toArray) (hQ : eqF x y = Q) :
    (execOp ρ o).run Tryd.prog w = .ok (.value (.bool Q)) w := by
  have hg : (eqGuard .eql 25 a b (.agg (encF x).toArray) (.agg (encF y).toArray)).run Tryd.prog w = .ok () w := by
    unfold eqGuard
    simp
  unfold execOp
  simp only [ho, ha, hb, Sem.run_bind, hg, Result.andThen_ok, run_eqlF, Sem.run_pure, hQ]
end Go.Proofs.YtamiaalfjmppaaaDoor
