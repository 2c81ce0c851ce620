/- The disk's Read: what it returns. -/
import Derived.Test.YthfjaaigncjhlaaGreatDoorDk5
namespace Go.Proofs.YthfjaaigncjhlaaGreatDoor
open Go.RowKit Go.Blk Go.Dk Go.Mp

section
variable {w : World} {b bs bm n : Nat} {pv : Value} {d : DD}
theorem conv_at (l : List UInt8) (g o cap m : Nat) (hm : l.length = m) (hc : ∀ j u, (l.map C8)[j]? = some u → w.cell? ⟨g, o + j, none⟩ = some u) : (convert 50 9 (.slice (some ⟨g, o, none⟩) m cap)).run Tryz.prog w = .ok (.string ⟨l.toArray⟩) w := by
  subst hm
  refine run_convert_bytes_back (P := Tryz.prog) w 50 9 5 ⟨g, o, none⟩ cap l Tryz.underlying50 Tryz.underlying5 Tryz.underlying9 (fun j hj => ?_)
  rw [addr_add]
  exact hc j _ (by rw [List.getElem?_map, List.getElem?_eq_getElem hj]; rfl)
theorem zero3 (w : World) : (zeroValue 3).run Tryz.prog w = .ok (.int .i64 0) w := by kernel_rfl
set_option maxRecDepth 100000 in
theorem read_any (h : DiskAt w b bs bm pv d n) (s : Int) : Calls Tryz.prog 28 #[.pointer (some ⟨b, 0, none⟩), .int .i64 s] w fun e w' => e = .returned (.tuple #[.string ⟨(DD.read n d s).1.toArray⟩, .int .i64 (DD.read n d s).2]) ∧ w = w' := by
  have c0 := h.blk.cellD 0 _ rfl
  cases hon : d.on with
  | false =>
    have e2 : DD.read n d s = ([], 21) := by simp [DD.read, hon]
    rw [e2]
    rw [hon] at c0
    clear e2 h hon
    go_enter Tryz.func28, Tryz.ntmps28
    go_wp2
    go_ret2
    exact ⟨rfl, rfl⟩
  | true =>
    rw [hon] at c0
    have H1 := Lib.hid (has_any h s)
    cases hh : DD.hasB n s with
    | false =>
      have e2 : DD.read n d s = ([], 1) := by simp [DD.read, hon, hh]
      rw [e2]
      rw [hh] at H1
      clear e2 h hon hh
      go_enter Tryz.func28, Tryz.ntmps28
      go_wp2_with fail
      refine H1.out.mono ?_
      rintro e w' ⟨rfl, rfl⟩
      go_wp2_with fail
      go_ret2
      exact ⟨rfl, rfl⟩
    | true =>
      have e2 : DD.read n d s = (d.text s.toNat, 0) := by simp [DD.read, hon, hh]
      rw [e2]
      rw [hh] at H1
      have hs := hh
      simp [DD.hasB] at hs
      obtain ⟨m, rfl⟩ : ∃ m : Nat, s = m := ⟨s.toNat, by omega⟩
      have hmn : m < n := by omega
      have hn2 := h.ok.n2
      have hfew := h.ok.few
      have c3 := h.blk.cellD 3 _ rfl
      simp only [Int.toNat_natCast]
      clear e2 hon hh
      cases hl : lastOf d.pend (m : Int) with
      | some j =>
        obtain ⟨q, x, rfl, hx, hxs⟩ := lastOf_some hl
        have et : d.text m = x.2 := by simp [DD.text, hl, hx]
        have hlk := h.map.look_some (P := Tryz.prog) (t := 51) Tryz.underlying51 Tryz.underlying3 hl
        obtain ⟨g, cap, rfl, hrg⟩ := h.pendAt hx
        have hl32 := (h.ok.sec q x hx).2
        have hq : q < d.pend.length := (List.getElem?_eq_some_iff.1 hx).1
        have c2 := h.blk.cellD 2 _ rfl
        have hcv := conv_at (w := w) x.2 g (q * 33 + 1) 32 32 hl32 (fun j u hu => by
          have := hrg (1 + j) u (by rw [Nat.add_comm]; simp only [encW, List.getElem?_cons_succ]; exact hu)
          rw [Nat.mul_comm, ← Nat.add_assoc] at this; exact this)
        rw [et]
        have hqi : (q : Int) < (d.pend.length : Int) := by omega
        clear et hl hrg hx hxs h
        go_enter Tryz.func28, Tryz.ntmps28
        go_wp2_with fail
        refine H1.out.mono ?_
        rintro e w' ⟨rfl, rfl⟩
        clear H1
        go_wp2_with fail
        go_ret2
        exact ⟨rfl, rfl⟩
      | none =>
        have et : d.text m = (d.st.drop (32 * m)).take 32 := by simp [DD.text, hl]
        have hlk := h.map.look_none (P := Tryz.prog) (t := 51) Tryz.underlying51 Tryz.underlying3 (zero3 w) hl
        have hst := h.st
        have hlen := h.ok.len
        have hcv := conv_at (w := w) ((d.st.drop (32 * m)).take 32) bs (32 * m) (32 * n - 32 * m) 32 (by simp; omega) (fun j u hu => by
          refine hst.cellD (32 * m + j) u ?_
          rw [List.getElem?_map] at hu ⊢
          rw [List.getElem?_take, List.getElem?_drop] at hu
          split at hu
          · exact hu
          · simp at hu)
        rw [et]
        have S1 := Lib.hid (sector_any h m hmn)
        clear et hl h hst
        go_enter Tryz.func28, Tryz.ntmps28
        go_wp2_with fail
        refine H1.out.mono ?_
        rintro e w' ⟨rfl, rfl⟩
        clear H1
        go_wp2_with fail
        refine S1.out.mono ?_
        rintro e w' ⟨rfl, rfl⟩
        go_wp2_with fail
        go_ret2
        exact ⟨rfl, rfl⟩
end
end Go.Proofs.YthfjaaigncjhlaaGreatDoor
