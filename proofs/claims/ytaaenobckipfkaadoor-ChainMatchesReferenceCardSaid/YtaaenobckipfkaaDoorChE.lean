/- Two entries compared, as the model does it. No condition. -/
import Derived.Test.YtaaenobckipfkaaDoorChO
namespace Go.Proofs.YtaaenobckipfkaaDoor
open Go.RowKit Go.Blk Go.Opn

set_option maxRecDepth 100000 in
theorem run_neq (x y : E31) (W : World) : (binOp .neq 37 (.agg (encE x).toArray) (.agg (encE y).toArray)).run Tryd.prog W = .ok (.bool (!eqB x y)) W := by
  obtain ⟨ah, aq, ad, ap, ab, ar, az⟩ := x
  obtain ⟨bh, bq, bd, bp, bb, br, bz⟩ := y
  show (binOp .neq 37 (.agg #[.int .i64 ah, .int .i64 aq, .int .i64 ad, .string ap, .string ab, .int .i64 ar, .int .i64 az]) (.agg #[.int .i64 bh, .int .i64 bq, .int .i64 bd, .string bp, .string bb, .int .i64 br, .int .i64 bz])).run Tryd.prog W = _
  by_cases h1 : ah = bh
  · subst h1
    by_cases h2 : aq = bq
    · subst h2
      by_cases h3 : ad = bd
      · subst h3
        by_cases h4 : ap.toList = bp.toList
        · by_cases h5 : ab.toList = bb.toList
          · by_cases h6 : ar = br
            · subst h6
              by_cases h7 : az = bz
              · subst h7
                have hq : eqB ⟨ah, aq, ad, ap, ab, ar, az⟩ ⟨ah, aq, ad, bp, bb, ar, az⟩ = true := by unfold eqB; simp [h4, h5]
                rw [hq]
                clear hq
                go_simp <;> rfl
              · have hq : eqB ⟨ah, aq, ad, ap, ab, ar, az⟩ ⟨ah, aq, ad, bp, bb, ar, bz⟩ = false := by unfold eqB; simp [h7]
                rw [hq]
                clear hq
                go_simp <;> rfl
            · have hq : eqB ⟨ah, aq, ad, ap, ab, ar, az⟩ ⟨ah, aq, ad, bp, bb, br, bz⟩ = false := by unfold eqB; simp [h6]
              rw [hq]
              clear hq
              go_simp <;> rfl
          · have hq : eqB ⟨ah, aq, ad, ap, ab, ar, az⟩ ⟨ah, aq, ad, bp, bb, br, bz⟩ = false := by unfold eqB; simp [h5]
            rw [hq]
            clear hq
            go_simp <;> rfl
        · have hq : eqB ⟨ah, aq, ad, ap, ab, ar, az⟩ ⟨ah, aq, ad, bp, bb, br, bz⟩ = false := by unfold eqB; simp [h4]
          rw [hq]
          clear hq
          go_simp <;> rfl
      · have hq : eqB ⟨ah, aq, ad, ap, ab, ar, az⟩ ⟨ah, aq, bd, bp, bb, br, bz⟩ = false := by unfold eqB; simp [h3]
        rw [hq]
        clear hq
        go_simp <;> rfl
    · have hq : eqB ⟨ah, aq, ad, ap, ab, ar, az⟩ ⟨ah, bq, bd, bp, bb, br, bz⟩ = false := by unfold eqB; simp [h2]
      rw [hq]
      clear hq
      go_simp <;> rfl
  · have hq : eqB ⟨ah, aq, ad, ap, ab, ar, az⟩ ⟨bh, bq, bd, bp, bb, br, bz⟩ = false := by unfold eqB; simp [h1]
    rw [hq]
    clear hq
    go_simp <;> rfl
theorem exec_neq {o : Oper} {ρ : Operand → Value} {w : World} {a b : Operand} {x y : E31} (ho : o.op = .binOp .neq 37 a b 37) (ha : ρ a = .agg (encE x).toArray) (hb : ρ b = .agg (encE y).toArray) :
    (execOp ρ o).run Tryd.prog w = .ok (.value (.bool (!eqB x y))) w := by
  have hg : (eqGuard .neq 37 a b (.agg (encE x).toArray) (.agg (encE y).toArray)).run Tryd.prog w = .ok () w := by
    unfold eqGuard
    simp
  unfold execOp
  simp only [ho, ha, hb, Sem.run_bind, hg, Result.andThen_ok, run_neq, Sem.run_pure]
set_option maxRecDepth 100000 in
theorem exec_entry {o : Oper} {ρ : Operand → Value} {w : World} {a : Operand} {b off : Nat} {x : E31} (ho : o.op = .load 37 a) (ha : ρ a = .pointer (some ⟨b, off, none⟩)) (hc : ∀ p u, (encE x)[p]? = some u → w.cell? ⟨b, off + p, none⟩ = some u) :
    (execOp ρ o).run Tryd.prog w = .ok (.value (.agg (encE x).toArray)) w := by
  obtain ⟨ah, aq, ad, ap, ab, ar, az⟩ := x
  have p0 := hc 0 _ rfl
  have p1 := hc 1 _ rfl
  have p2 := hc 2 _ rfl
  have p3 := hc 3 _ rfl
  have p4 := hc 4 _ rfl
  have p5 := hc 5 _ rfl
  have p6 := hc 6 _ rfl
  simp only [Nat.add_zero] at p0 p1 p2 p3 p4 p5 p6
  clear hc
  unfold execOp
  simp only [ho, ha]
  go_simp <;> rfl
end Go.Proofs.YtaaenobckipfkaaDoor
