/- Package disclose: levels, as an iterator. No condition. -/
import Derived.Test.YtamiaalfjmppaaaDoorDi2
import Derived.Test.YtamiaalfjmppaaaDoorRfX
namespace Go.Proofs.YtamiaalfjmppaaaDoor
open Go.RowKit Go.W32 Go.Blk Go.Sg Go.Opn Go.Di Go.Rf Go.Shelf
attribute [local go_sem] Oper.semAt_some

/-- From the root on: how many leaves the first part has, and whether the leaf is in it. -/
def lev (i n : Nat) : List (Nat × Bool) :=
  if _h : 2 ≤ n ∧ n < 9223372036854775808 then (half n, decide (i < half n)) :: (if i < half n then lev i (half n) else lev (i - half n) (n - half n)) else []
termination_by n
decreasing_by
  · exact (half_facts n _h.1 _h.2).1
  · have := half_pos n; have := (half_facts n _h.1 _h.2).1; omega
theorem lev_small {i n : Nat} (h : n ≤ 1) : lev i n = [] := by rw [lev, dif_neg (by omega)]
theorem lev_more {i n : Nat} (h : 2 ≤ n) (h2 : n < 9223372036854775808) : lev i n = (half n, decide (i < half n)) :: (if i < half n then lev i (half n) else lev (i - half n) (n - half n)) := by rw [lev, dif_pos ⟨h, h2⟩]
abbrev encL (x : Nat × Bool) : Array Value := #[.int .i64 (x.1 : Int), .bool x.2]
set_option maxRecDepth 100000 in
set_option maxHeartbeats 1000000 in
theorem levels1_in (m : Nat) (hm : 1 ≤ m) (l bi bn n0 : Nat) (i n : Nat) (hi : i < 4611686018427387904) (hn : n < 4611686018427387904) (J Jx : List (Nat × Bool) → World → Prop) (B : Nat) (hJ : AbidesFrom B J)
    (hY : ∀ pre x W, J pre W → pre ++ [x] <+: lev i n → YieldAt Fence.wide (m - 1) Tryd.prog l (encL x) W fun e W' =>
      (e = .returned (.bool true) ∧ J (pre ++ [x]) W' ∧ Below n0 W W') ∨ (e = .returned (.bool false) ∧ Jx (pre ++ [x]) W'))
    (W : World) (c1 : W.cell? ⟨bi, 0, none⟩ = some (.int .i64 (i : Int))) (c2 : W.cell? ⟨bn, 0, none⟩ = some (.int .i64 (n : Int))) (h0 : J [] W) :
    CallsIn Fence.wide m Tryd.prog 77 #[.func (.yield l) #[] #[], .pointer (some ⟨bi, 0, none⟩), .pointer (some ⟨bn, 0, none⟩)] W fun e W' => (∃ v, e = .returned v) ∧
      ((∃ ys, ys = lev i n ∧ J ys W') ∨ (∃ pre, pre <+: lev i n ∧ Jx pre W')) := by
  have H0 := Lib.hid h0
  have HY := Lib.hid hY
  clear h0 hY
  refine callsIn_of_wp Tryd.func77 rfl trivial ?_ rfl
  simp only [Tryd.ntmps77, List.size_toArray, List.length_cons, List.length_nil, Nat.reduceAdd, Nat.reduceSub, Array.replicate_succ, Array.replicate_zero, List.push_toArray, List.append_toArray, List.nil_append, List.cons_append]
  gi_wp2
  refine wpIn_wide.2 ?_
  refine Free.wp_region_free 4 [] (fun w2 => Below W.heap.size W w2 ∧ w2.cell? ⟨bi, 0, none⟩ = some (.int .i64 (i : Int)) ∧ w2.cell? ⟨bn, 0, none⟩ = some (.int .i64 (n : Int))) (by kernel_rfl) (by kernel_rfl) (Free.mono_det (fun j mk r hf => by cases hf)) ⟨(Below.refl _ _).drew, c1, c2⟩ (fun _ _ h g => ⟨h.1.trans (Below.mono g h.1.size), cell_grow h.2.1 g, cell_grow h.2.2 g⟩) ?_
  simp only [List.take_succ_cons, List.take_zero]
  clear c1 c2
  iterate 4 (apply Free.chain_still (by first | exact Free.wanted_of rfl rfl rfl | rfl) rfl; (intro w' hB hA; obtain ⟨qB, q1, q2⟩ := hB; clear hA  qB; go_light; go_simp <;> rfl); (try simp only [Act.put, List.setIfInBounds_toArray, List.set_cons_succ, List.set_cons_zero]))
  apply Free.chain_nil
  intro w1 hB1 _ _
  simp only [List.drop_succ_cons, List.drop_zero]
  have HJ1 := Lib.hid (abide hJ H0.out hB1.1)
  clear hB1 H0
  refine wpList_nil ?_
  gi_wp2
  gi_loopw [4, 5] (fun vi vn wr => ∃ (pre : List (Nat × Bool)) (i' n' : Nat), vi = .int .i64 (i' : Int) ∧ vn = .int .i64 (n' : Int) ∧ i' < 4611686018427387904 ∧ n' < 4611686018427387904 ∧ pre ++ lev i' n' = lev i n ∧ J pre wr) (fun _ vn _ => (intOf vn).toNat)
  case atStart => exact ⟨[], i, n, rfl, rfl, hi, hn, rfl, HJ1.out⟩
  case round =>
    clear HJ1
    obtain ⟨pre, i', n', rfl, rfl, hi', hn', eq, hJs⟩ := hrel
    have EQ := Lib.hid eq
    have HJ := Lib.hid hJs
    clear eq hJs
    by_cases h2 : 2 ≤ n'
    · obtain ⟨k1, k2, _, _⟩ := half_facts n' h2 (by omega)
      have k0 := half_pos n'
      have HH := Lib.hid (fun w => half_any n' w h2 (by omega))
      have hlev := lev_more (i := i') h2 (by omega)
      obtain ⟨k, ek⟩ : ∃ k, k = half n' := ⟨_, rfl⟩
      rw [← ek] at k0 k1 k2 HH hlev
      clear ek
      have hgt : decide ((1 : Int) < (n' : Int)) = true := decide_eq_true (by omega)
      by_cases hik : i' < k
      · have hb : decide ((i' : Int) < (k : Int)) = true := decide_eq_true (by omega)
        rw [decide_eq_true hik, if_pos hik] at hlev
        have HX : Hid (pre ++ [(k, true)] <+: lev i n) := by rw [← EQ.out, hlev]; exact ⟨(lev i' k), by simp⟩
        have EQ2 : Hid ((pre ++ [(k, true)]) ++ (lev i' k) = lev i n) := by
          show _ = _
          rw [← EQ.out, hlev]; simp
        clear hlev EQ
        gi_wp2
        refine ⟨trivial, callsIn_wide.2 ?_⟩
        refine (HH.out _).mono ?_
        rintro e w2 ⟨rfl, rfl⟩
        obtain ⟨fn, tmps, assign, body, hy, hR⟩ := HY.out pre (k, true) wr HJ.out HX.out
        dsimp only [encL] at hy
        have HR := Lib.hid hR
        clear hR HJ
        gi_wp2
        refine HR.out.mono ?_
        rintro e3 w3 (⟨rfl, hJ3, hk3⟩ | ⟨rfl, hJx3⟩)
        · have HJ3 := Lib.hid hJ3
          clear hk3 hJ3 HR hy HX
          gi_wp2
          go_roundw
          case rel => exact ⟨pre ++ [(k, true)], i', k, rfl, rfl, by omega, by omega, EQ2.out, HJ3.out⟩
          case measure => simp [intOf]; omega
        · have HJX := Lib.hid hJx3
          clear hJx3 HR hy
          gi_wp2
          refine bodyPost_ret (results_none rfl _ _ _) rfl ?_
          exact ⟨⟨_, rfl⟩, .inr ⟨_, HX.out, HJX.out⟩⟩
      · have hb : decide ((i' : Int) < (k : Int)) = false := decide_eq_false (by omega)
        rw [decide_eq_false hik, if_neg hik] at hlev
        have HX : Hid (pre ++ [(k, false)] <+: lev i n) := by rw [← EQ.out, hlev]; exact ⟨(lev (i' - k) (n' - k)), by simp⟩
        have EQ2 : Hid ((pre ++ [(k, false)]) ++ (lev (i' - k) (n' - k)) = lev i n) := by
          show _ = _
          rw [← EQ.out, hlev]; simp
        clear hlev EQ
        gi_wp2
        refine ⟨trivial, callsIn_wide.2 ?_⟩
        refine (HH.out _).mono ?_
        rintro e w2 ⟨rfl, rfl⟩
        obtain ⟨fn, tmps, assign, body, hy, hR⟩ := HY.out pre (k, false) wr HJ.out HX.out
        dsimp only [encL] at hy
        have HR := Lib.hid hR
        clear hR HJ
        gi_wp2
        refine HR.out.mono ?_
        rintro e3 w3 (⟨rfl, hJ3, hk3⟩ | ⟨rfl, hJx3⟩)
        · have HJ3 := Lib.hid hJ3
          clear hk3 hJ3 HR hy HX
          gi_wp2
          go_roundw
          case rel => exact ⟨pre ++ [(k, false)], i' - k, n' - k, by go_num, by go_num, by omega, by omega, EQ2.out, HJ3.out⟩
          case measure => simp [intOf]; omega
        · have HJX := Lib.hid hJx3
          clear hJx3 HR hy
          gi_wp2
          refine bodyPost_ret (results_none rfl _ _ _) rfl ?_
          exact ⟨⟨_, rfl⟩, .inr ⟨_, HX.out, HJX.out⟩⟩
    · have hgt : decide ((1 : Int) < (n' : Int)) = false := decide_eq_false (by omega)
      have E2 : Hid (pre = lev i n) := by
        have := EQ.out
        rw [lev_small (by omega), List.append_nil] at this
        exact this
      gi_wp2
      go_end0
      exact ⟨⟨_, rfl⟩, .inl ⟨_, E2.out, HJ.out⟩⟩
theorem levels_any (i n : Nat) (w : World) :
    Calls Tryd.prog 50 #[.int .i64 (i : Int), .int .i64 (n : Int)] w fun e w' => e = .returned (.func (.func 77) #[] #[.pointer (some ⟨w.heap.size, 0, none⟩), .pointer (some ⟨w.heap.size + 1, 0, none⟩)]) ∧ w' = (w.alloc (.cells #[.int .i64 (i : Int)] 3)).alloc (.cells #[.int .i64 (n : Int)] 3) := by
  go_enter Tryd.func50, Tryd.ntmps50
  go_wp2_with fail
  go_ret
  exact ⟨rfl, rfl⟩
theorem levels_seq (m bi bn n0 i n : Nat) (hm : 1 ≤ m) (hi : i < 4611686018427387904) (hn : n < 4611686018427387904) (w : World) (c1 : w.cell? ⟨bi, 0, none⟩ = some (.int .i64 (i : Int))) (c2 : w.cell? ⟨bn, 0, none⟩ = some (.int .i64 (n : Int))) :
    SeqX m Tryd.prog 77 #[.pointer (some ⟨bi, 0, none⟩), .pointer (some ⟨bn, 0, none⟩)] encL n0 (fun pre x => pre ++ [x] <+: lev i n) (fun ys => ys = lev i n) (fun pre => pre <+: lev i n) w := fun l J Jx W hW hJ _ hY h0 =>
  levels1_in m hm l bi bn n0 i n hi hn J Jx _ hJ hY W (cell_grow c1 hW) (cell_grow c2 hW) h0
end Go.Proofs.YtamiaalfjmppaaaDoor
