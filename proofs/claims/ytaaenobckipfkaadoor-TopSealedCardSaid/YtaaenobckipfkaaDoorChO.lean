/- Arguments opened: entries, lists of entries. No condition. -/
import Derived.Test.YtaaenobckipfkaaDoorCh12
import Derived.Lib.SmallJoins
namespace Go.Proofs.YtaaenobckipfkaaDoor
open Go.RowKit Go.Blk Go.Opn Go.ChangeShapes Go.WideShapes Go.Deep Go.OpenShut

instance : Inhabited E31 := ⟨⟨0, 0, 0, ⟨#[]⟩, ⟨#[]⟩, 0, 0⟩⟩
theorem cellsEntry : Tryd.prog.cellsOf 37 = 7 := by kernel_rfl
theorem entry_of {H : Type} {enc : TypeId × Value → H} {w : World} {base : Nat} {spare : Nat → Bool} {held : Bool} {fuel : Nat} {cs : List Value} {x : DataW H × List MemPlace} (h : DataW.trod enc Tryd.prog w base spare held fuel 37 cs = some x) :
    ∃ a : E31, a.Ok ∧ ∀ (p : Nat) u, (encE a)[p]? = some u → cs[p]? = some u := by
  obtain ⟨k, hk, wk⟩ := leaf_int (f := 3) (p := 0) Tryd.underlying3 (by kernel_rfl) h
  obtain ⟨s, hs, ws⟩ := leaf_int (f := 3) (p := 1) Tryd.underlying3 (by kernel_rfl) h
  obtain ⟨b, hb, wb⟩ := leaf_int (f := 3) (p := 2) Tryd.underlying3 (by kernel_rfl) h
  obtain ⟨t, ht, wt⟩ := leaf_string (f := 3) (p := 3) Tryd.underlying9 (by kernel_rfl) h
  obtain ⟨t', ht', wt'⟩ := leaf_string (f := 3) (p := 4) Tryd.underlying9 (by kernel_rfl) h
  obtain ⟨f, hf, wf⟩ := leaf_int (f := 3) (p := 5) Tryd.underlying3 (by kernel_rfl) h
  obtain ⟨g, hg, wg⟩ := leaf_int (f := 3) (p := 6) Tryd.underlying3 (by kernel_rfl) h
  obtain ⟨k0, k1⟩ := bounds_i64 wk
  obtain ⟨s0, s1⟩ := bounds_i64 ws
  obtain ⟨b0, b1⟩ := bounds_i64 wb
  obtain ⟨f0, f1⟩ := bounds_i64 wf
  obtain ⟨g0, g1⟩ := bounds_i64 wg
  unfold maxLen at wt wt'
  refine ⟨⟨k, s, b, t, t', f, g⟩, ⟨k0, k1, s0, s1, b0, b1, f0, f1, g0, g1, wt, wt'⟩, fun p u hu => ?_⟩
  match p, hu with
  | 0, hu => cases hu; exact hk
  | 1, hu => cases hu; exact hs
  | 2, hu => cases hu; exact hb
  | 3, hu => cases hu; exact ht
  | 4, hu => cases hu; exact ht'
  | 5, hu => cases hu; exact hf
  | 6, hu => cases hu; exact hg
  | p + 7, hu => simp [encE] at hu
set_option maxRecDepth 100000 in
theorem open_entries {H : Type} {enc : TypeId × Value → H} {w : World} {base : Nat} {spare : Nat → Bool} {held : Bool} {v : Value} {d : DataW H} {ps : List MemPlace} {r : Reach} {b0 : Nat} (hv : Value.okWide Tryd.prog w r b0 26 v) (h : DataW.Trod enc Tryd.prog w base spare held 26 v d ps) :
    ∃ (A : Option Addr) (c : Nat) (l : List E31), v = .slice A l.length c ∧ l.length ≤ 9223372036854775807 ∧ l.length ≤ c ∧ SL w 7 encE A l ∧ ∀ a ∈ l, a.Ok := by
  obtain ⟨A, len, cap, m, rfl, hl, hc, hi⟩ := open_rows Tryd.underlying26 (by rw [cellsEntry]; decide) hv h
  rw [cellsEntry] at hi
  have hi2 : ∀ i, i < len → ∃ a : E31, a.Ok ∧ ∃ b off, A = some ⟨b, off, none⟩ ∧ ∀ p u, (encE a)[p]? = some u → w.cell? ⟨b, off + (i * 7 + p), none⟩ = some u := by
    intro i hlt
    obtain ⟨b, off, cs, x, hA, _, ht, hcell⟩ := hi i hlt
    obtain ⟨a, ha, hcs⟩ := entry_of ht
    exact ⟨a, ha, b, off, hA, fun p u hu => hcell p u (hcs p u hu)⟩
  obtain ⟨f, hf⟩ := choose_lt hi2
  unfold maxLen at hc
  refine ⟨A, cap, (List.range len).map f, by simp, by simp; omega, by simpa using hl, ⟨fun hn => ?_⟩, fun a ha => ?_⟩
  · have h0 : 0 < len := by
      rcases Nat.eq_zero_or_pos len with h | h
      · subst h; simp at hn
      · exact h
    obtain ⟨_, b, off, hA, _⟩ := hf 0 h0
    refine ⟨b, off, hA, fun i e hie p u hu => ?_⟩
    have hil : i < len := by
      have := (List.getElem?_eq_some_iff.1 hie).1
      simpa using this
    have he : f i = e := by
      rw [List.getElem?_map, List.getElem?_range hil] at hie
      simpa using hie
    obtain ⟨_, b', off', hA', hcell⟩ := hf i hil
    rw [hA] at hA'
    injection hA' with hA'
    injection hA' with e1 e2
    subst e1 e2
    rw [← he] at hu
    exact hcell p u hu
  · obtain ⟨i, hi, rfl⟩ := List.mem_map.1 ha
    exact (hf i (List.mem_range.1 hi)).1
theorem few_of {l : List E31} {n : Nat} (ho : ∀ a ∈ l, a.Ok) (h : fewB l n = true) : Few l ∧ l.length ≤ n := by
  unfold fewB at h
  rw [Bool.and_eq_true, decide_eq_true_iff, List.all_eq_true] at h
  refine ⟨fun e he => ?_, h.1⟩
  have := h.2 e he
  unfold smallE at this
  rw [Bool.and_eq_true, decide_eq_true_iff, decide_eq_true_iff] at this
  exact ⟨ho e he, by omega, by omega⟩
end Go.Proofs.YtaaenobckipfkaaDoor
