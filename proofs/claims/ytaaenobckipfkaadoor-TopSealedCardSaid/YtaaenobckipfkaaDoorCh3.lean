/- Package chain: the checks of an entry's place. No condition. -/
import Derived.Test.YtaaenobckipfkaaDoorCh2
namespace Go.Proofs.YtaaenobckipfkaaDoor
open Go.RowKit Go.Blk Go.Opn

theorem unwanted2 {o : Oper} {ops : Array Oper} {a : Act} {j t : Nat} {b b' : Bool} (hg : o.guard = some (j, b')) (hj : (ops[j]?).bind (·.dst) = some t) (ht : a.tmps[t]? = some (.bool b)) (hne : (b == b') = false) : Region.wanted o (yielded ops a.tmps) = false := by
  unfold Region.wanted yielded
  rw [hg]
  simp only [hj, Option.bind_some, ht]
  simpa using hne
def limB (n : Nat) (e : E31) : Bool := decide ((n : Int) < 4000) && decide ((e.body.size : Int) ≤ 2000)
def argB (n : Nat) (e : E31) (house : Int) : Bool := (e.house == house) && ((e.seq == (n : Int)) && (decide (0 ≤ e.day) && decide (e.day ≤ 2000)))
def ordB (l : List E31) (e : E31) : Bool := match l.getLast? with | none => true | some x => decide (x.day ≤ e.day)
/-- The error of an entry behind a list. -/
def misp (l : List E31) (e : E31) (house : Int) : Int := if limB l.length e then (if argB l.length e house then (if ordB l e then 0 else 15) else 1) else 3
theorem lim_any (bn be n : Nat) (e : E31) (w : World) (hn : w.cell? ⟨bn, 0, none⟩ = some (.int .i64 n)) (he : w.cell? ⟨be, 4, none⟩ = some (.string e.body)) :
    Calls Tryd.prog 59 #[.pointer (some ⟨bn, 0, none⟩), .pointer (some ⟨be, 0, none⟩)] w fun en w' => en = .returned (.bool (limB n e)) ∧ w = w' := by
  unfold limB
  by_cases h1 : (n : Int) < 4000
  · have e1 : decide ((n : Int) < 4000) = true := decide_eq_true h1
    rw [e1, Bool.true_and]
    go_enter Tryd.func59, Tryd.ntmps59
    go_wp2
    go_ret
    exact ⟨rfl, rfl⟩
  · have e1 : decide ((n : Int) < 4000) = false := decide_eq_false h1
    rw [e1, Bool.false_and]
    go_enter Tryd.func59, Tryd.ntmps59
    go_wp2
    go_ret
    exact ⟨rfl, rfl⟩
theorem arg_any (bn be bh n : Nat) (e : E31) (house : Int) (w : World) (hn : w.cell? ⟨bn, 0, none⟩ = some (.int .i64 n)) (hh : w.cell? ⟨bh, 0, none⟩ = some (.int .i64 house))
    (he0 : w.cell? ⟨be, 0, none⟩ = some (.int .i64 e.house)) (he1 : w.cell? ⟨be, 1, none⟩ = some (.int .i64 e.seq)) (he2 : w.cell? ⟨be, 2, none⟩ = some (.int .i64 e.day)) :
    Calls Tryd.prog 60 #[.pointer (some ⟨be, 0, none⟩), .pointer (some ⟨bh, 0, none⟩), .pointer (some ⟨bn, 0, none⟩)] w fun en w' => en = .returned (.bool (argB n e house)) ∧ w = w' := by
  unfold argB
  cases e1 : (e.house == house) with
  | false =>
    rw [Bool.false_and]
    go_enter Tryd.func60, Tryd.ntmps60
    go_wp2
    go_ret
    exact ⟨rfl, rfl⟩
  | true =>
    rw [Bool.true_and]
    cases e2 : (e.seq == (n : Int)) with
    | false =>
      rw [Bool.false_and]
      go_enter Tryd.func60, Tryd.ntmps60
      go_wp2
      go_ret
      exact ⟨rfl, rfl⟩
    | true =>
      rw [Bool.true_and]
      by_cases h3 : 0 ≤ e.day
      · have e3 : decide (0 ≤ e.day) = true := decide_eq_true h3
        rw [e3, Bool.true_and]
        go_enter Tryd.func60, Tryd.ntmps60
        go_wp2
        go_ret
        exact ⟨rfl, rfl⟩
      · have e3 : decide (0 ≤ e.day) = false := decide_eq_false h3
        rw [e3, Bool.false_and]
        go_enter Tryd.func60, Tryd.ntmps60
        go_wp2
        go_ret
        exact ⟨rfl, rfl⟩
set_option maxRecDepth 100000 in
theorem ord_any (bn be bl : Nat) (A : Option Addr) (c : Nat) (l : List E31) (e : E31) (w : World) (hl : l.length ≤ 9223372036854775807) (hn : w.cell? ⟨bn, 0, none⟩ = some (.int .i64 l.length)) (hs : w.cell? ⟨bl, 0, none⟩ = some (.slice A l.length c))
    (h : SL w 7 encE A l) (he2 : w.cell? ⟨be, 2, none⟩ = some (.int .i64 e.day)) :
    Calls Tryd.prog 61 #[.pointer (some ⟨bn, 0, none⟩), .pointer (some ⟨be, 0, none⟩), .pointer (some ⟨bl, 0, none⟩)] w fun en w' => en = .returned (.bool (ordB l e)) ∧ Below w.heap.size w w' := by
  by_cases h0 : l = []
  · subst h0
    have eo : ordB [] e = true := rfl
    rw [eo]
    have hn' : w.drew.cell? ⟨bn, 0, none⟩ = some (.int .i64 0) := hn
    clear h hs eo
    go_enter Tryd.func61, Tryd.ntmps61
    go_wp2_with fail
    refine Free.wp_region_free 13 [] (fun w2 => w2.cell? ⟨bn, 0, none⟩ = some (.int .i64 0)) (by kernel_rfl) (by kernel_rfl) ?_ hn' (fun _ _ h g => grow_cell h g) ?_
    · intro j mk r hf
      simp only [Free.find] at hf
      cases hf
    simp only [List.take_succ_cons, List.take_zero]
    clear hn hn'
    iterate 3 (apply Free.chain_still (by first | exact Free.wanted_of rfl rfl rfl | rfl) rfl; (intro w' hB hA; obtain q0 := hB; clear hA ; go_light; go_simp <;> rfl); (try simp only [Act.put, List.setIfInBounds_toArray, List.set_cons_succ, List.set_cons_zero]))
    iterate 9 (apply Free.chain_skip (by exact unwanted2 rfl rfl rfl rfl); simp only [Act.put, List.setIfInBounds_toArray, List.set_cons_succ, List.set_cons_zero])
    iterate 1 (apply Free.chain_still (by first | exact Free.wanted_of rfl rfl rfl | rfl) rfl; (intro w' hB hA; obtain q0 := hB; clear hA ; go_light; go_simp <;> rfl); (try simp only [Act.put, List.setIfInBounds_toArray, List.set_cons_succ, List.set_cons_zero]))
    apply Free.chain_nil
    intro wz _ hg _
    simp only [List.drop_succ_cons, List.drop_zero]
    have FIN := Lib.hid (grow_drew2 hg)
    clear hg
    go_wp2
    go_ret
    exact ⟨rfl, FIN.out⟩
  · have hpos : 0 < l.length := List.length_pos_iff.2 h0
    obtain ⟨x, hx⟩ : ∃ x, l[l.length - 1]? = some x := ⟨_, List.getElem?_eq_getElem (by omega)⟩
    have hg : l.getLast? = some x := by rw [List.getLast?_eq_getElem?]; exact hx
    have eo : ordB l e = decide (x.day ≤ e.day) := by unfold ordB; rw [hg]
    rw [eo]
    obtain ⟨b, off, rfl, hc⟩ := h.at_ hx
    have c2 := hc 2 _ rfl
    obtain ⟨m, hm⟩ : ∃ m, l.length = m + 1 := ⟨l.length - 1, by omega⟩
    have hm1 : l.length - 1 = m := by omega
    rw [hm1] at c2
    rw [hm] at hl hn hs
    simp only [← Nat.add_assoc] at c2
    have p0 : w.drew.cell? ⟨bn, 0, none⟩ = some (.int .i64 ((m + 1 : Nat) : Int)) := hn
    have p1 : w.drew.cell? ⟨bl, 0, none⟩ = some (.slice (some ⟨b, off, none⟩) (m + 1) c) := hs
    have p2 : w.drew.cell? ⟨b, off + m * 7 + 2, none⟩ = some (.int .i64 x.day) := c2
    have p3 : w.drew.cell? ⟨be, 2, none⟩ = some (.int .i64 e.day) := he2
    have hm0 : ((m + 1 : Nat) : Int) = (m : Int) + 1 := by omega
    rw [hm0] at p0
    have m0 : ((m : Int) + 1 == 0) = false := by simp; omega
    have m00 : (0 : Int) ≤ (m : Int) := by omega
    have mw : IntKind.i64.wrap (m : Int) = (m : Int) := IntWalk.i64_in _ (by omega)
    have mlt : (m : Int) < (m : Int) + 1 := by omega
    clear h hc hg eo hx hpos h0 hm hm1 hn hs c2 he2
    go_enter Tryd.func61, Tryd.ntmps61
    go_wp2_with fail
    refine Free.wp_region_free 13 [] (fun w2 => w2.cell? ⟨bn, 0, none⟩ = some (.int .i64 ((m : Int) + 1)) ∧ w2.cell? ⟨bl, 0, none⟩ = some (.slice (some ⟨b, off, none⟩) (m + 1) c) ∧ w2.cell? ⟨b, off + m * 7 + 2, none⟩ = some (.int .i64 x.day) ∧ w2.cell? ⟨be, 2, none⟩ = some (.int .i64 e.day)) (by kernel_rfl) (by kernel_rfl) ?_ ⟨p0, p1, p2, p3⟩ (fun _ _ h g => ⟨grow_cell h.1 g, grow_cell h.2.1 g, grow_cell h.2.2.1 g, grow_cell h.2.2.2 g⟩) ?_
    · intro j mk r hf
      simp only [Free.find] at hf
      cases hf
    simp only [List.take_succ_cons, List.take_zero]
    clear p0 p1 p2 p3
    iterate 13 (apply Free.chain_still (by first | exact Free.wanted_of rfl rfl rfl | rfl) rfl; (intro w' hB hA; obtain ⟨q0, q1, q2, q3⟩ := hB; clear hA ; go_light; go_simp <;> rfl); (try simp only [Act.put, List.setIfInBounds_toArray, List.set_cons_succ, List.set_cons_zero]))
    apply Free.chain_nil
    intro wz _ hg _
    simp only [List.drop_succ_cons, List.drop_zero]
    have FIN := Lib.hid (grow_drew2 hg)
    clear hg
    go_wp2
    go_ret
    exact ⟨rfl, FIN.out⟩
end Go.Proofs.YtaaenobckipfkaaDoor
