/- A list of operations that came in, opened. -/
import Derived.Test.YtkccfmaimpnbcaaDl1
namespace Go.Proofs.Ytkccfmaimpnbcaa
open Go.RowKit Go.Blk Go.Dk Go.Mp Go.Opn Go.ChangeShapes Go.WideShapes Go.Deep

instance : Inhabited Act44 := ⟨⟨0, 0, 0, ⟨#[]⟩, false, 0⟩⟩
theorem cellsAct : Try.prog.cellsOf 32 = 6 := by kernel_rfl
theorem act_of {H : Type} {enc : TypeId × Value → H} {w : World} {base : Nat} {spare : Nat → Bool} {held : Bool} {fuel : Nat} {cs : List Value} {x : DataW H × List MemPlace} (h : DataW.trod enc Try.prog w base spare held fuel 32 cs = some x) :
    ∃ a : Act44, a.Ok ∧ ∀ (p : Nat) u, (encA a)[p]? = some u → cs[p]? = some u := by
  obtain ⟨k, hk, wk⟩ := leaf_int (f := 3) (p := 0) Try.underlying3 (by kernel_rfl) h
  obtain ⟨s, hs, ws⟩ := leaf_int (f := 3) (p := 1) Try.underlying3 (by kernel_rfl) h
  obtain ⟨b, hb, wb⟩ := leaf_int (f := 3) (p := 2) Try.underlying3 (by kernel_rfl) h
  obtain ⟨t, ht, wt⟩ := leaf_string (f := 3) (p := 3) Try.underlying9 (by kernel_rfl) h
  obtain ⟨o, ho⟩ := leaf_bool (f := 3) (p := 4) Try.underlying4 (by kernel_rfl) h
  obtain ⟨f, hf, wf⟩ := leaf_int (f := 3) (p := 5) Try.underlying3 (by kernel_rfl) h
  obtain ⟨k0, k1⟩ := bounds_i64 wk
  obtain ⟨s0, s1⟩ := bounds_i64 ws
  obtain ⟨b0, b1⟩ := bounds_i64 wb
  obtain ⟨f0, f1⟩ := bounds_i64 wf
  unfold maxLen at wt
  refine ⟨⟨k, s, b, t, o, f⟩, ⟨k0, k1, s0, s1, b0, b1, f0, f1, by omega⟩, fun p u hu => ?_⟩
  match p, hu with
  | 0, hu => cases hu; exact hk
  | 1, hu => cases hu; exact hs
  | 2, hu => cases hu; exact hb
  | 3, hu => cases hu; exact ht
  | 4, hu => cases hu; exact ho
  | 5, hu => cases hu; exact hf
  | p + 6, hu => simp [encA] at hu
theorem open_acts {H : Type} {enc : TypeId × Value → H} {w : World} {base : Nat} {spare : Nat → Bool} {held : Bool} {v : Value} {d : DataW H} {ps : List MemPlace} {r : Reach} {b0 : Nat} (hv : Value.okWide Try.prog w r b0 22 v) (h : DataW.Trod enc Try.prog w base spare held 22 v d ps) :
    ∃ (A : Option Addr) (c : Nat) (l : List Act44), v = .slice A l.length c ∧ l.length ≤ 9223372036854775807 ∧ SL w 6 encA A l ∧ ∀ a ∈ l, a.Ok := by
  obtain ⟨A, len, cap, m, rfl, hl, hc, hi⟩ := open_rows Try.underlying22 (by rw [cellsAct]; decide) hv h
  rw [cellsAct] at hi
  have hi2 : ∀ i, i < len → ∃ a : Act44, a.Ok ∧ ∃ b off, A = some ⟨b, off, none⟩ ∧ ∀ p u, (encA a)[p]? = some u → w.cell? ⟨b, off + (i * 6 + p), none⟩ = some u := by
    intro i hlt
    obtain ⟨b, off, cs, x, hA, _, ht, hcell⟩ := hi i hlt
    obtain ⟨a, ha, hcs⟩ := act_of ht
    exact ⟨a, ha, b, off, hA, fun p u hu => hcell p u (hcs p u hu)⟩
  obtain ⟨f, hf⟩ := choose_lt hi2
  unfold maxLen at hc
  refine ⟨A, cap, (List.range len).map f, by simp, by simp; omega, ⟨fun hn => ?_⟩, fun a ha => ?_⟩
  · have h0 : 0 < len := by
      rcases Nat.eq_zero_or_pos len with h | h
      · subst h; simp at hn
      · exact h
    obtain ⟨_, b, off, hA, _⟩ := hf 0 h0
    refine ⟨b, off, hA, fun i e hie p u hu => ?_⟩
    have hil : i < len := by
      have := (List.getElem?_eq_some_iff.1 hie).1
      simpa using this
    have he : f i = e := by
      rw [List.getElem?_map, List.getElem?_range hil] at hie
      simpa using hie
    obtain ⟨_, b', off', hA', hcell⟩ := hf i hil
    rw [hA] at hA'
    injection hA' with hA'
    injection hA' with e1 e2
    subst e1 e2
    rw [← he] at hu
    exact hcell p u hu
  · obtain ⟨i, hi, rfl⟩ := List.mem_map.1 ha
    exact (hf i (List.mem_range.1 hi)).1
end Go.Proofs.Ytkccfmaimpnbcaa
