/- The plain law of a torn write. No condition. -/
import Derived.Test.YtkccfmaimpnbcaaDl8
namespace Go.Proofs.Ytkccfmaimpnbcaa
open Go.RowKit Go.Blk Go.Dk Go.Mp Go.Opn

def tx (st : List UInt8) (p : List (Nat × List UInt8)) (s : Nat) : List UInt8 :=
  match lastOf p s with
  | some j => ((p[j.toNat]?).map (·.2)).getD []
  | none => slc st s
theorem text_tx (d : DD) (s : Nat) : d.text s = tx d.st d.pend s := rfl
theorem tx_snoc (st : List UInt8) (p : List (Nat × List UInt8)) (x : Nat × List UInt8) (s : Nat) : tx st (p ++ [x]) s = if s = x.1 then x.2 else tx st p s := by
  unfold tx
  rw [lastOf_snoc]
  by_cases h : s = x.1
  · simp [h]
  · have h2 : ¬ (s : Int) = (x.1 : Int) := by omega
    simp only [h, h2, if_false]
    cases hl : lastOf p (s : Int) with
    | none => rfl
    | some j =>
      obtain ⟨m, y, rfl, hy, _⟩ := lastOf_some hl
      have hm : m < p.length := (List.getElem?_eq_some_iff.1 hy).1
      simp only [Int.toNat_natCast]
      rw [List.getElem?_append_left hm]
section
variable {n : Nat} {st : List UInt8} {P : List (Nat × List UInt8)}
theorem slc_len (l : List UInt8) (s : Nat) : (slc l s).length ≤ 32 := by unfold slc; exact List.length_take_le _ _
theorem sAt_tx (W B : Nat) (hl : st.length = 32 * n) (hp : ∀ (i : Nat) x, P[i]? = some x → x.1 < n ∧ x.2.length = 32) : ∀ k, k ≤ W → k ≤ P.length → ∀ s, slc (sAt st P W B k) s = tx st (P.take k) s
  | 0, _, _, s => rfl
  | k + 1, h1, h2, s => by
    have ih := sAt_tx W B hl hp k (by omega) (by omega) s
    have hlk := sAt_len W B hl hp k
    obtain ⟨x, hx⟩ : ∃ x, P[k]? = some x := ⟨_, List.getElem?_eq_getElem (by omega)⟩
    obtain ⟨hx1, hx2⟩ := hp k x hx
    rw [take_snoc' hx, tx_snoc]
    unfold sAt
    rw [hx]
    simp only
    rw [if_pos (by omega : k < W)]
    by_cases hs : s = x.1
    · subst hs
      rw [slc_same hlk hx1 (by omega), if_pos rfl, hx2, List.drop_eq_nil_of_le (slc_len _ _), List.append_nil]
    · rw [slc_other hlk hx1 hs (by omega), if_neg hs]; exact ih
theorem sAt_after (W B : Nat) : ∀ k, sAt st P W B (W + 1 + k) = sAt st P W B (W + 1)
  | 0 => rfl
  | k + 1 => by
    rw [← Nat.add_assoc]
    have ih := sAt_after W B k
    rw [sAt]
    cases hx : P[W + 1 + k]? with
    | none => exact ih
    | some x =>
      simp only
      rw [if_neg (by omega), if_neg (by omega)]; exact ih
theorem settled_small {W : Nat} (B : Nat) (hl : st.length = 32 * n) (hp : ∀ (i : Nat) x, P[i]? = some x → x.1 < n ∧ x.2.length = 32) (hW : P.length ≤ W) (s : Nat) : slc (settled st P W B) s = tx st (P.take W) s := by
  unfold settled
  rw [sAt_tx W B hl hp _ hW (Nat.le_refl _), List.take_length, List.take_of_length_le hW]
theorem settled_torn {W : Nat} (B : Nat) (hl : st.length = 32 * n) (hp : ∀ (i : Nat) x, P[i]? = some x → x.1 < n ∧ x.2.length = 32) {x : Nat × List UInt8} (hx : P[W]? = some x) (hB : B ≤ 32) (s : Nat) :
    slc (settled st P W B) s = if s = x.1 then x.2.take B ++ (tx st (P.take W) s).drop B else tx st (P.take W) s := by
  have hW : W < P.length := (List.getElem?_eq_some_iff.1 hx).1
  obtain ⟨hx1, hx2⟩ := hp W x hx
  have hlk := sAt_len W B hl hp W
  have ih := sAt_tx W B hl hp W (Nat.le_refl _) (by omega)
  unfold settled
  rw [show P.length = W + 1 + (P.length - (W + 1)) by omega, sAt_after]
  unfold sAt
  rw [hx]
  simp only
  rw [if_neg (by omega : ¬ W < W), if_pos trivial]
  by_cases hs : s = x.1
  · subst hs
    rw [slc_same hlk hx1 (by rw [List.length_take]; omega), if_pos rfl, ih, List.length_take, hx2, Nat.min_eq_left hB]
  · rw [slc_other hlk hx1 hs (by rw [List.length_take]; omega), if_neg hs, ih]
end
theorem ba_ext {a b : ByteArray} (h : a.data.toList = b.data.toList) : a = b := by
  cases a; cases b; simp at h; subst h; rfl
theorem torn_bytes (t u : ByteArray) (B : Nat) : (t.extract 0 B ++ u.extract B u.size).data.toList = t.data.toList.take B ++ u.data.toList.drop B := by
  rw [ByteArray.data_append, ByteArray.data_extract, ByteArray.data_extract, Array.toList_append, Array.toList_extract, Array.toList_extract]
  have hs : u.size = u.data.toList.length := by simp
  rw [hs]
  simp only [List.extract_eq_take_drop, List.drop_zero, Nat.sub_zero]
  congr 1
  rw [← List.drop_take, List.take_length]
/-- P44.3 on lists of sectors. -/
theorem fail_form {d : DD} (hon : d.on = true) (W B : Nat) (hB : B ≤ 32) (s : Nat) : (d.fail (W : Int) (B : Int)).start.text s = slc (settled d.st d.pend W B) s := by
  have e1 : clampW (W : Int) = W := by unfold clampW; omega
  have e2 : clampB (B : Int) = B := by unfold clampB; omega
  have e : d.fail W B = { d with on := false, st := settled d.st d.pend W B, pend := [], armed := false } := by simp [DD.fail, hon, e1, e2]
  rw [e, text_plain rfl]; rfl
theorem now_small {n W : Nat} {d : DD} (h : d.Ok n) (hon : d.on = true) (B : Nat) (hB : B ≤ 32) (hx : d.pend[W]? = none) :
    conts n (d.fail (W : Int) (B : Int)).start = conts n { d with pend := d.pend.take W } := by
  unfold conts
  apply List.map_congr_left
  intro i hi
  rw [fail_form hon W B hB, settled_small B h.len h.sec (by simpa using hx)]; rfl
theorem now_torn {n W : Nat} {d : DD} (h : d.Ok n) (hon : d.on = true) (B : Nat) (hB : B ≤ 32) {z : Nat × List UInt8} (hx : d.pend[W]? = some z) {t u : ByteArray} (ht : t.data.toList = z.2) (hu : (conts n { d with pend := d.pend.take W })[z.1]? = some u) :
    conts n (d.fail (W : Int) (B : Int)).start = (conts n { d with pend := d.pend.take W }).set z.1 (t.extract 0 B ++ u.extract B u.size) := by
  obtain ⟨hz1, _⟩ := h.sec W z hx
  apply List.ext_getElem?
  intro i
  rw [List.getElem?_set, conts_len]
  by_cases hi : i < n
  · have e1 : (conts n (d.fail (W : Int) (B : Int)).start)[i]? = some ⟨(slc (settled d.st d.pend W B) i).toArray⟩ := by
      unfold conts
      rw [List.getElem?_map, List.getElem?_range hi]
      simp only [Option.map_some]
      rw [fail_form hon W B hB]
    have e2 : ∀ i, i < n → (conts n { d with pend := d.pend.take W })[i]? = some ⟨(tx d.st (d.pend.take W) i).toArray⟩ := fun i hi => by
      unfold conts
      rw [List.getElem?_map, List.getElem?_range hi]; rfl
    rw [e1, settled_torn B h.len h.sec hx hB]
    by_cases hz : z.1 = i
    · subst hz
      rw [if_pos rfl, if_pos rfl, if_pos hz1]
      rw [e2 _ hz1] at hu
      have hu2 := Option.some.inj hu
      congr 1
      apply ba_ext
      rw [torn_bytes, ht, ← hu2]
    · rw [if_neg (fun e => hz e.symm), if_neg hz, e2 i hi]
  · have e1 : (conts n (d.fail (W : Int) (B : Int)).start)[i]? = none := List.getElem?_eq_none (by rw [conts_len]; omega)
    have e2 : (conts n { d with pend := d.pend.take W })[i]? = none := List.getElem?_eq_none (by rw [conts_len]; omega)
    rw [e1, if_neg (by omega), e2]
end Go.Proofs.Ytkccfmaimpnbcaa
