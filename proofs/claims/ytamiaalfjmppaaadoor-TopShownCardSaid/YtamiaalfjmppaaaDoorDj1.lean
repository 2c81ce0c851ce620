/- The reference of layer 32 (numerals and the text of a fact) and of layer 34 (texts, Split), and the law's node. Condition: the variables of digest hold their numbers; texts of at most 10^9 bytes. -/
import Derived.Test.YtamiaalfjmppaaaDoorDiP
import Derived.Test.YtamiaalfjmppaaaDoorRefG
namespace Go.Dj
open Go

theorem ba_ext {a b : ByteArray} (h : a.data.toList = b.data.toList) : a = b := by
  cases a; cases b; congr 1; exact Array.ext' h
theorem ba_append (a b : ByteArray) : (a ++ b).data.toList = a.data.toList ++ b.data.toList := by simp
def digB (d : Nat) : ByteArray := ⟨#[UInt8.ofNat (48 + d)]⟩
theorem dig_slice (d : Nat) (h : d < 10) : (⟨#[48, 49, 50, 51, 52, 53, 54, 55, 56, 57]⟩ : ByteArray).extract d (d + 1) = digB d := by
  have : ∀ d, d < 10 → (⟨#[48, 49, 50, 51, 52, 53, 54, 55, 56, 57]⟩ : ByteArray).extract d (d + 1) = digB d := by decide +kernel
  exact this d h
end Go.Dj
namespace Go.Proofs.YtamiaalfjmppaaaDoor
open Go.RowKit Go.W32 Go.Blk Go.Sg Go.Opn Go.Di

theorem size_lit (a : Array UInt8) : (⟨a⟩ : ByteArray).size = a.size := rfl
theorem run_cat (s t : ByteArray) (h : s.size + t.size ≤ 9223372036854775807) (W : World) : (binOp .add 9 (.string s) (.string t)).run Tryd.prog W = .ok (.string (s ++ t)) W := by
  have h2 : ¬ 9223372036854775807 < s.size + t.size := by omega
  go_simp <;> rfl
theorem exec_cat {o : Oper} {ρ : Operand → Value} {w : World} {a b : Operand} {s t : ByteArray} (ho : o.op = .binOp .add 9 a b 9) (ha : ρ a = .string s) (hb : ρ b = .string t) (h : s.size + t.size ≤ 9223372036854775807) :
    (execOp ρ o).run Tryd.prog w = .ok (.value (.string (s ++ t))) w := by
  have hg : (eqGuard .add 9 a b (.string s) (.string t)).run Tryd.prog w = .ok () w := by
    unfold eqGuard
    simp
  unfold execOp
  simp only [ho, ha, hb, Sem.run_bind, hg, Result.andThen_ok, run_cat s t h, Sem.run_pure]
theorem nn_dec (n : Nat) : dec (n : Int) = ⟨(Lib.decDigits n).toArray⟩ := by unfold dec; rw [Lib.itoa_nonneg]
theorem big_dec (n : Nat) (h : 9 < n) : dec (n : Int) = dec ((n / 10 : Nat) : Int) ++ Dj.digB (n % 10) := by
  rw [nn_dec, nn_dec]
  apply Dj.ba_ext
  rw [Dj.ba_append, Lib.decDigits, dif_neg (by omega)]
  simp [Dj.digB]
theorem small_dec (n : Nat) (h : n ≤ 9) : dec (n : Int) = Dj.digB n := by
  rw [nn_dec, Lib.decDigits_one (by omega)]; rfl
theorem len_dec (N : Nat) (h : N ≤ 9223372036854775808) : (dec (N : Int)).size ≤ 22 := by
  by_cases h9 : 9 < N
  · rw [big_dec N h9, ByteArray.size_append]
    have := dec_size ((N / 10 : Nat) : Int) (by omega) (by omega)
    have e : (Dj.digB (N % 10)).size = 1 := rfl
    omega
  · have := dec_size (N : Int) (by omega) (by omega)
    omega
set_option maxRecDepth 100000 in
theorem digits32_any : ∀ (m n : Nat) (w : World), n < m → n ≤ 9223372036854775808 → Calls Tryd.prog 81 #[.int .u64 (n : Int)] w fun e w' => e = .returned (.string (dec (n : Int))) ∧ Below w.heap.size w w' := by
  intro m
  induction m with
  | zero => intro n w h; omega
  | succ m ih =>
    intro n w h hn
    by_cases h9 : 9 < n
    · have hj : ¬ ((n : Int) < 10) := by omega
      have hd := Dj.dig_slice (n % 10) (by omega)
      have CR := Lib.hid (fun w' => ih (n / 10) w' (by omega) (by omega))
      have hz := len_dec (n / 10) (by omega)
      have ed := big_dec n h9
      have q0 : 0 ≤ (n : Int) % 10 := by omega
      have q1 : (n : Int) % 10 + 1 ≤ 10 := by omega
      have q2 : ((n : Int) % 10).toNat = n % 10 := by omega
      have q3 : ((n : Int) % 10 + 1).toNat = n % 10 + 1 := by omega
      have q4 : (Dj.digB (n % 10)).size = 1 := rfl
      have q5 : (n : Int) % 10 ≤ (n : Int) % 10 + 1 := by omega
      have t1 : (n : Int).tdiv 10 = (n : Int) / 10 := Int.tdiv_eq_ediv_of_nonneg (by omega)
      have t2 : (n : Int).tmod 10 = (n : Int) % 10 := Int.tmod_eq_emod_of_nonneg (by omega)
      have t3 : IntKind.u64.wrap ((n : Int) / 10) = (n : Int) / 10 := IntWalk.u64_in _ (by omega)
      have t4 : IntKind.u64.wrap ((n : Int) % 10) = (n : Int) % 10 := IntWalk.u64_in _ (by omega)
      have t5 : IntKind.u64.wrap ((n : Int) % 10 + 1) = (n : Int) % 10 + 1 := IntWalk.u64_in _ (by omega)
      have n0 : (0 : Int) ≤ (n : Int) := by omega
      rw [ed]
      obtain ⟨d1, e1⟩ : ∃ d1, d1 = dec ((n / 10 : Nat) : Int) := ⟨_, rfl⟩
      obtain ⟨d2, e2⟩ : ∃ d2, d2 = Dj.digB (n % 10) := ⟨_, rfl⟩
      rw [← e1] at CR hz ⊢
      rw [show ((n / 10 : Nat) : Int) = (n : Int) / 10 by omega] at CR
      rw [← e2] at hd q4 ⊢
      have hz2 : ((⟨#[48, 49, 50, 51, 52, 53, 54, 55, 56, 57]⟩ : ByteArray).extract (n % 10) (n % 10 + 1)).size = 1 := by rw [hd]; exact q4
      have HD := Lib.hid hd
      clear ih h ed e1 e2 hd
      go_enter Tryd.func81, Tryd.ntmps81
      go_wp2_with fail
      refine Free.wp_region_free 11 [(2, .det (.string d1))] (fun w2 => Below w.heap.size w w2) (by kernel_rfl) (by kernel_rfl) (Free.mono_det (fun j mk r hf => by simp only [Free.find] at hf; repeat' (first | cases hf | split at hf))) (Below.refl _ _).drew (fun _ _ h g => h.trans (Below.mono g h.size)) ?_
      simp only [List.take_succ_cons, List.take_zero]
      iterate 2 (apply Free.chain_still (by first | exact Free.wanted_of rfl rfl rfl | rfl) rfl; (intro w' hB hA; obtain qB := hB; clear hA  ; go_light; go_simp <;> rfl); (try simp only [Act.put, List.setIfInBounds_toArray, List.set_cons_succ, List.set_cons_zero]))
      apply Free.chain_det (by first | exact Free.wanted_of rfl rfl rfl | rfl) rfl
      · intro w' hB hA
        refine Free.opRun_call (f := 81) (args := #[.int .u64 ((n : Int) / 10)]) (by clear hB hA; go_simp <;> rfl) ?_
        refine (CR.out w').mono ?_
        rintro e w3 ⟨rfl, hb3⟩
        exact ⟨_, rfl, hb3, rfl⟩
      simp only [Act.put, List.setIfInBounds_toArray, List.set_cons_succ, List.set_cons_zero]
      iterate 8 (apply Free.chain_still (by first | exact Free.wanted_of rfl rfl rfl | rfl) rfl; (intro w' hB hA; obtain qB := hB; clear hA  ; go_light; first | (refine exec_cat rfl rfl rfl ?_; (try simp only [ba_size, size_lit, List.size_toArray, List.length_cons, List.length_nil]); omega) | (go_simp <;> rfl)); (try simp only [Act.put, List.setIfInBounds_toArray, List.set_cons_succ, List.set_cons_zero]))
      apply Free.chain_nil
      intro wy hBz _ _
      simp only [List.drop_succ_cons, List.drop_zero]
      have L := Lib.hid hBz
      clear hBz
      go_wp2_with fail
      go_ret
      exact ⟨by rw [← HD.out]; rfl, L.out⟩
    · have hj : (n : Int) < 10 := by omega
      have hd := Dj.dig_slice n (by omega)
      have HD := Lib.hid hd
      have q1 : (n : Int) + 1 ≤ 10 := by omega
      have q3 : ((n : Int) + 1).toNat = n + 1 := by omega
      have ed := small_dec n (by omega)
      rw [ed]
      clear ih hd ed
      go_enter Tryd.func81, Tryd.ntmps81
      go_wp2_with fail
      go_ret
      exact ⟨by rw [← HD.out]; rfl, Below.refl _ _⟩
theorem decimal32_any (n : Int) (w : World) (h0 : -9223372036854775808 ≤ n) (h1 : n ≤ 9223372036854775807) : Calls Tryd.prog 58 #[.int .i64 n] w fun e w' => e = .returned (.string (dec n)) ∧ Below w.heap.size w w' := by
  by_cases hn : n < 0
  · obtain ⟨N, rfl⟩ : ∃ N : Nat, n = -(N : Int) := ⟨n.natAbs, by omega⟩
    have hN : N ≤ 9223372036854775808 := by omega
    have hdn : dec (-(N : Int)) = ⟨#[45]⟩ ++ dec (N : Int) := by
      apply Dj.ba_ext
      have e : ∀ n : Int, (dec n).data.toList = Lib.itoa n := fun _ => rfl
      rw [Dj.ba_append, e, e, Lib.itoa_neg N (by omega), Lib.itoa_nonneg]; rfl
    have hw1 : IntKind.u64.wrap (-(N : Int)) = 18446744073709551616 - (N : Int) := by unfold IntKind.wrap; simp [IntKind.bits, IntKind.signed]; omega
    have hw2 : IntKind.u64.wrap (-(18446744073709551616 - (N : Int))) = (N : Int) := by unfold IntKind.wrap; simp [IntKind.bits, IntKind.signed]; omega
    have CD := Lib.hid (fun w => digits32_any (N + 1) N w (by omega) hN)
    have hz := len_dec N hN
    rw [hdn]
    obtain ⟨d, ed⟩ : ∃ d, d = dec (N : Int) := ⟨_, rfl⟩
    rw [← ed] at CD hz ⊢
    clear ed hdn
    go_enter Tryd.func58, Tryd.ntmps58
    go_wp2_with fail
    refine (CD.out _).mono ?_
    rintro e w1 ⟨rfl, hb⟩
    have L := Lib.hid hb
    clear hb
    go_wp2_with fail
    go_ret
    exact ⟨rfl, L.out⟩
  · obtain ⟨N, rfl⟩ : ∃ N : Nat, n = (N : Int) := ⟨n.toNat, by omega⟩
    have CD := Lib.hid (fun w => digits32_any (N + 1) N w (by omega) (by omega))
    obtain ⟨d, ed⟩ : ∃ d, d = dec (N : Int) := ⟨_, rfl⟩
    rw [← ed] at CD ⊢
    clear ed
    go_enter Tryd.func58, Tryd.ntmps58
    go_wp2_with fail
    refine (CD.out _).mono ?_
    rintro e w1 ⟨rfl, hb⟩
    have L := Lib.hid hb
    clear hb
    go_wp2_with fail
    go_ret
    exact ⟨rfl, L.out⟩
/-- The text of a fact as the reference puts it together. -/
def bdR (d0 d1 d2 d3 d4 s : ByteArray) : ByteArray := ⟨#[102, 97, 99, 116, 32]⟩ ++ d0 ++ ⟨#[32]⟩ ++ d1 ++ ⟨#[32]⟩ ++ d2 ++ ⟨#[32]⟩ ++ d3 ++ ⟨#[32]⟩ ++ d4 ++ ⟨#[32]⟩ ++ s
theorem bdR_eq (x : Fac) : bdR (dec x.ref) (dec x.act) (dec x.low) (dec x.high) (dec x.filed) (dec (secN x.secret)) = bdF x := by
  unfold bdR bdF bdP bdP bdP bdP bdP bdP bdP numF
  apply Dj.ba_ext
  simp only [Dj.ba_append, List.append_assoc]
  rfl
theorem dec_0 : dec 0 = ⟨#[48]⟩ := by
  have := small_dec 0 (by decide)
  exact this.trans (by decide +kernel)
theorem dec_1 : dec 1 = ⟨#[49]⟩ := by
  have := small_dec 1 (by decide)
  exact this.trans (by decide +kernel)
set_option maxRecDepth 100000 in
set_option maxHeartbeats 1000000 in
theorem body32_any (x : Fac) (w : World) (hx : x.Ok) : Calls Tryd.prog 59 #[.agg (encF x).toArray] w fun e w' => e = .returned (.string (bdF x)) ∧ Below w.heap.size w w' := by
  have eb := bdR_eq x
  have D0 := Lib.hid (fun w => decimal32_any x.ref w hx.r0 hx.r1)
  have D1 := Lib.hid (fun w => decimal32_any x.act w hx.a0 hx.a1)
  have D2 := Lib.hid (fun w => decimal32_any x.low w hx.l0 hx.l1)
  have D3 := Lib.hid (fun w => decimal32_any x.high w hx.h0 hx.h1)
  have D4 := Lib.hid (fun w => decimal32_any x.filed w hx.f0 hx.f1)
  have z0 := dec_size x.ref hx.r0 hx.r1
  have z1 := dec_size x.act hx.a0 hx.a1
  have z2 := dec_size x.low hx.l0 hx.l1
  have z3 := dec_size x.high hx.h0 hx.h1
  have z4 := dec_size x.filed hx.f0 hx.f1
  obtain ⟨R, eR⟩ : ∃ R, R = bdF x := ⟨_, rfl⟩
  obtain ⟨d0, e0⟩ : ∃ d, d = dec x.ref := ⟨_, rfl⟩
  obtain ⟨d1, e1⟩ : ∃ d, d = dec x.act := ⟨_, rfl⟩
  obtain ⟨d2, e2⟩ : ∃ d, d = dec x.low := ⟨_, rfl⟩
  obtain ⟨d3, e3⟩ : ∃ d, d = dec x.high := ⟨_, rfl⟩
  obtain ⟨d4, e4⟩ : ∃ d, d = dec x.filed := ⟨_, rfl⟩
  rw [← eR] at eb ⊢
  rw [← e0] at D0 z0 eb
  rw [← e1] at D1 z1 eb
  rw [← e2] at D2 z2 eb
  rw [← e3] at D3 z3 eb
  rw [← e4] at D4 z4 eb
  clear hx eR e0 e1 e2 e3 e4
  obtain ⟨xr, xa, xl, xh, xf, xs⟩ := x
  rw [show encF ⟨xr, xa, xl, xh, xf, xs⟩ = [.int .i64 xr, .int .i64 xa, .int .i64 xl, .int .i64 xh, .int .i64 xf, .bool xs] from rfl]
  cases xs with
  | true =>
    have EB : Hid (R = bdR d0 d1 d2 d3 d4 ⟨#[49]⟩) := by rw [← dec_1]; exact eb.symm
    clear eb
    go_enter Tryd.func59, Tryd.ntmps59
    go_wp2_with fail
    refine Free.wp_region_free 28 [(2, .det (.string d0)), (7, .det (.string d1)), (12, .det (.string d2)), (17, .det (.string d3)), (22, .det (.string d4))] (fun w2 => Below w.heap.size w w2 ∧ w2.cell? ⟨w.heap.size, 0, none⟩ = some (.int .i64 xr) ∧ w2.cell? ⟨w.heap.size, 1, none⟩ = some (.int .i64 xa) ∧ w2.cell? ⟨w.heap.size, 2, none⟩ = some (.int .i64 xl) ∧ w2.cell? ⟨w.heap.size, 3, none⟩ = some (.int .i64 xh) ∧ w2.cell? ⟨w.heap.size, 4, none⟩ = some (.int .i64 xf)) (by kernel_rfl) (by kernel_rfl) (Free.mono_det (fun j mk r hf => by simp only [Free.find] at hf; repeat' (first | cases hf | split at hf))) ⟨((Below.refl _ _).alloc (Nat.le_refl _) _).drew, (Blk.newA w _ 25).cell 0 (by simp), (Blk.newA w _ 25).cell 1 (by simp), (Blk.newA w _ 25).cell 2 (by simp), (Blk.newA w _ 25).cell 3 (by simp), (Blk.newA w _ 25).cell 4 (by simp)⟩ (fun _ _ h g => ⟨h.1.trans (Below.mono g h.1.size), cell_grow h.2.1 g, cell_grow h.2.2.1 g, cell_grow h.2.2.2.1 g, cell_grow h.2.2.2.2.1 g, cell_grow h.2.2.2.2.2 g⟩) ?_
    simp only [List.take_succ_cons, List.take_zero]
    iterate 2 (apply Free.chain_still (by first | exact Free.wanted_of rfl rfl rfl | rfl) rfl; (intro w' hB hA; obtain ⟨qB, q0, q1, q2, q3, q4⟩ := hB; clear hA  qB; go_light; first | (refine exec_cat rfl rfl rfl ?_; (try simp only [ba_size, size_lit, List.size_toArray, List.length_cons, List.length_nil]); omega) | (go_simp <;> rfl)); (try simp only [Act.put, List.setIfInBounds_toArray, List.set_cons_succ, List.set_cons_zero]))
    apply Free.chain_det (by first | exact Free.wanted_of rfl rfl rfl | rfl) rfl
    · intro w' hB hA
      refine Free.opRun_call (f := 58) (args := #[.int .i64 xr]) (by clear hB hA; go_simp <;> rfl) ?_
      refine (D0.out w').mono ?_
      rintro e w3 ⟨rfl, hb3⟩
      exact ⟨_, rfl, hb3, rfl⟩
    simp only [Act.put, List.setIfInBounds_toArray, List.set_cons_succ, List.set_cons_zero]
    iterate 4 (apply Free.chain_still (by first | exact Free.wanted_of rfl rfl rfl | rfl) rfl; (intro w' hB hA; obtain ⟨qB, q0, q1, q2, q3, q4⟩ := hB; clear hA  qB; go_light; first | (refine exec_cat rfl rfl rfl ?_; (try simp only [ba_size, size_lit, List.size_toArray, List.length_cons, List.length_nil]); omega) | (go_simp <;> rfl)); (try simp only [Act.put, List.setIfInBounds_toArray, List.set_cons_succ, List.set_cons_zero]))
    apply Free.chain_det (by first | exact Free.wanted_of rfl rfl rfl | rfl) rfl
    · intro w' hB hA
      refine Free.opRun_call (f := 58) (args := #[.int .i64 xa]) (by clear hB hA; go_simp <;> rfl) ?_
      refine (D1.out w').mono ?_
      rintro e w3 ⟨rfl, hb3⟩
      exact ⟨_, rfl, hb3, rfl⟩
    simp only [Act.put, List.setIfInBounds_toArray, List.set_cons_succ, List.set_cons_zero]
    iterate 4 (apply Free.chain_still (by first | exact Free.wanted_of rfl rfl rfl | rfl) rfl; (intro w' hB hA; obtain ⟨qB, q0, q1, q2, q3, q4⟩ := hB; clear hA  qB; go_light; first | (refine exec_cat rfl rfl rfl ?_; (try simp only [ba_size, size_lit, List.size_toArray, List.length_cons, List.length_nil]); omega) | (go_simp <;> rfl)); (try simp only [Act.put, List.setIfInBounds_toArray, List.set_cons_succ, List.set_cons_zero]))
    apply Free.chain_det (by first | exact Free.wanted_of rfl rfl rfl | rfl) rfl
    · intro w' hB hA
      refine Free.opRun_call (f := 58) (args := #[.int .i64 xl]) (by clear hB hA; go_simp <;> rfl) ?_
      refine (D2.out w').mono ?_
      rintro e w3 ⟨rfl, hb3⟩
      exact ⟨_, rfl, hb3, rfl⟩
    simp only [Act.put, List.setIfInBounds_toArray, List.set_cons_succ, List.set_cons_zero]
    iterate 4 (apply Free.chain_still (by first | exact Free.wanted_of rfl rfl rfl | rfl) rfl; (intro w' hB hA; obtain ⟨qB, q0, q1, q2, q3, q4⟩ := hB; clear hA  qB; go_light; first | (refine exec_cat rfl rfl rfl ?_; (try simp only [ba_size, size_lit, List.size_toArray, List.length_cons, List.length_nil]); omega) | (go_simp <;> rfl)); (try simp only [Act.put, List.setIfInBounds_toArray, List.set_cons_succ, List.set_cons_zero]))
    apply Free.chain_det (by first | exact Free.wanted_of rfl rfl rfl | rfl) rfl
    · intro w' hB hA
      refine Free.opRun_call (f := 58) (args := #[.int .i64 xh]) (by clear hB hA; go_simp <;> rfl) ?_
      refine (D3.out w').mono ?_
      rintro e w3 ⟨rfl, hb3⟩
      exact ⟨_, rfl, hb3, rfl⟩
    simp only [Act.put, List.setIfInBounds_toArray, List.set_cons_succ, List.set_cons_zero]
    iterate 4 (apply Free.chain_still (by first | exact Free.wanted_of rfl rfl rfl | rfl) rfl; (intro w' hB hA; obtain ⟨qB, q0, q1, q2, q3, q4⟩ := hB; clear hA  qB; go_light; first | (refine exec_cat rfl rfl rfl ?_; (try simp only [ba_size, size_lit, List.size_toArray, List.length_cons, List.length_nil]); omega) | (go_simp <;> rfl)); (try simp only [Act.put, List.setIfInBounds_toArray, List.set_cons_succ, List.set_cons_zero]))
    apply Free.chain_det (by first | exact Free.wanted_of rfl rfl rfl | rfl) rfl
    · intro w' hB hA
      refine Free.opRun_call (f := 58) (args := #[.int .i64 xf]) (by clear hB hA; go_simp <;> rfl) ?_
      refine (D4.out w').mono ?_
      rintro e w3 ⟨rfl, hb3⟩
      exact ⟨_, rfl, hb3, rfl⟩
    simp only [Act.put, List.setIfInBounds_toArray, List.set_cons_succ, List.set_cons_zero]
    iterate 5 (apply Free.chain_still (by first | exact Free.wanted_of rfl rfl rfl | rfl) rfl; (intro w' hB hA; obtain ⟨qB, q0, q1, q2, q3, q4⟩ := hB; clear hA  qB; go_light; first | (refine exec_cat rfl rfl rfl ?_; (try simp only [ba_size, size_lit, List.size_toArray, List.length_cons, List.length_nil]); omega) | (go_simp <;> rfl)); (try simp only [Act.put, List.setIfInBounds_toArray, List.set_cons_succ, List.set_cons_zero]))
    apply Free.chain_nil
    intro wy hBz _ _
    simp only [List.drop_succ_cons, List.drop_zero]
    have L := Lib.hid hBz.1
    clear hBz
    go_wp2_with fail
    go_ret
    exact ⟨by rw [EB.out]; rfl, L.out⟩
  | false =>
    have EB : Hid (R = bdR d0 d1 d2 d3 d4 ⟨#[48]⟩) := by rw [← dec_0]; exact eb.symm
    clear eb
    go_enter Tryd.func59, Tryd.ntmps59
    go_wp2_with fail
    refine Free.wp_region_free 28 [(2, .det (.string d0)), (7, .det (.string d1)), (12, .det (.string d2)), (17, .det (.string d3)), (22, .det (.string d4))] (fun w2 => Below w.heap.size w w2 ∧ w2.cell? ⟨w.heap.size, 0, none⟩ = some (.int .i64 xr) ∧ w2.cell? ⟨w.heap.size, 1, none⟩ = some (.int .i64 xa) ∧ w2.cell? ⟨w.heap.size, 2, none⟩ = some (.int .i64 xl) ∧ w2.cell? ⟨w.heap.size, 3, none⟩ = some (.int .i64 xh) ∧ w2.cell? ⟨w.heap.size, 4, none⟩ = some (.int .i64 xf)) (by kernel_rfl) (by kernel_rfl) (Free.mono_det (fun j mk r hf => by simp only [Free.find] at hf; repeat' (first | cases hf | split at hf))) ⟨((Below.refl _ _).alloc (Nat.le_refl _) _).drew, (Blk.newA w _ 25).cell 0 (by simp), (Blk.newA w _ 25).cell 1 (by simp), (Blk.newA w _ 25).cell 2 (by simp), (Blk.newA w _ 25).cell 3 (by simp), (Blk.newA w _ 25).cell 4 (by simp)⟩ (fun _ _ h g => ⟨h.1.trans (Below.mono g h.1.size), cell_grow h.2.1 g, cell_grow h.2.2.1 g, cell_grow h.2.2.2.1 g, cell_grow h.2.2.2.2.1 g, cell_grow h.2.2.2.2.2 g⟩) ?_
    simp only [List.take_succ_cons, List.take_zero]
    iterate 2 (apply Free.chain_still (by first | exact Free.wanted_of rfl rfl rfl | rfl) rfl; (intro w' hB hA; obtain ⟨qB, q0, q1, q2, q3, q4⟩ := hB; clear hA  qB; go_light; first | (refine exec_cat rfl rfl rfl ?_; (try simp only [ba_size, size_lit, List.size_toArray, List.length_cons, List.length_nil]); omega) | (go_simp <;> rfl)); (try simp only [Act.put, List.setIfInBounds_toArray, List.set_cons_succ, List.set_cons_zero]))
    apply Free.chain_det (by first | exact Free.wanted_of rfl rfl rfl | rfl) rfl
    · intro w' hB hA
      refine Free.opRun_call (f := 58) (args := #[.int .i64 xr]) (by clear hB hA; go_simp <;> rfl) ?_
      refine (D0.out w').mono ?_
      rintro e w3 ⟨rfl, hb3⟩
      exact ⟨_, rfl, hb3, rfl⟩
    simp only [Act.put, List.setIfInBounds_toArray, List.set_cons_succ, List.set_cons_zero]
    iterate 4 (apply Free.chain_still (by first | exact Free.wanted_of rfl rfl rfl | rfl) rfl; (intro w' hB hA; obtain ⟨qB, q0, q1, q2, q3, q4⟩ := hB; clear hA  qB; go_light; first | (refine exec_cat rfl rfl rfl ?_; (try simp only [ba_size, size_lit, List.size_toArray, List.length_cons, List.length_nil]); omega) | (go_simp <;> rfl)); (try simp only [Act.put, List.setIfInBounds_toArray, List.set_cons_succ, List.set_cons_zero]))
    apply Free.chain_det (by first | exact Free.wanted_of rfl rfl rfl | rfl) rfl
    · intro w' hB hA
      refine Free.opRun_call (f := 58) (args := #[.int .i64 xa]) (by clear hB hA; go_simp <;> rfl) ?_
      refine (D1.out w').mono ?_
      rintro e w3 ⟨rfl, hb3⟩
      exact ⟨_, rfl, hb3, rfl⟩
    simp only [Act.put, List.setIfInBounds_toArray, List.set_cons_succ, List.set_cons_zero]
    iterate 4 (apply Free.chain_still (by first | exact Free.wanted_of rfl rfl rfl | rfl) rfl; (intro w' hB hA; obtain ⟨qB, q0, q1, q2, q3, q4⟩ := hB; clear hA  qB; go_light; first | (refine exec_cat rfl rfl rfl ?_; (try simp only [ba_size, size_lit, List.size_toArray, List.length_cons, List.length_nil]); omega) | (go_simp <;> rfl)); (try simp only [Act.put, List.setIfInBounds_toArray, List.set_cons_succ, List.set_cons_zero]))
    apply Free.chain_det (by first | exact Free.wanted_of rfl rfl rfl | rfl) rfl
    · intro w' hB hA
      refine Free.opRun_call (f := 58) (args := #[.int .i64 xl]) (by clear hB hA; go_simp <;> rfl) ?_
      refine (D2.out w').mono ?_
      rintro e w3 ⟨rfl, hb3⟩
      exact ⟨_, rfl, hb3, rfl⟩
    simp only [Act.put, List.setIfInBounds_toArray, List.set_cons_succ, List.set_cons_zero]
    iterate 4 (apply Free.chain_still (by first | exact Free.wanted_of rfl rfl rfl | rfl) rfl; (intro w' hB hA; obtain ⟨qB, q0, q1, q2, q3, q4⟩ := hB; clear hA  qB; go_light; first | (refine exec_cat rfl rfl rfl ?_; (try simp only [ba_size, size_lit, List.size_toArray, List.length_cons, List.length_nil]); omega) | (go_simp <;> rfl)); (try simp only [Act.put, List.setIfInBounds_toArray, List.set_cons_succ, List.set_cons_zero]))
    apply Free.chain_det (by first | exact Free.wanted_of rfl rfl rfl | rfl) rfl
    · intro w' hB hA
      refine Free.opRun_call (f := 58) (args := #[.int .i64 xh]) (by clear hB hA; go_simp <;> rfl) ?_
      refine (D3.out w').mono ?_
      rintro e w3 ⟨rfl, hb3⟩
      exact ⟨_, rfl, hb3, rfl⟩
    simp only [Act.put, List.setIfInBounds_toArray, List.set_cons_succ, List.set_cons_zero]
    iterate 4 (apply Free.chain_still (by first | exact Free.wanted_of rfl rfl rfl | rfl) rfl; (intro w' hB hA; obtain ⟨qB, q0, q1, q2, q3, q4⟩ := hB; clear hA  qB; go_light; first | (refine exec_cat rfl rfl rfl ?_; (try simp only [ba_size, size_lit, List.size_toArray, List.length_cons, List.length_nil]); omega) | (go_simp <;> rfl)); (try simp only [Act.put, List.setIfInBounds_toArray, List.set_cons_succ, List.set_cons_zero]))
    apply Free.chain_det (by first | exact Free.wanted_of rfl rfl rfl | rfl) rfl
    · intro w' hB hA
      refine Free.opRun_call (f := 58) (args := #[.int .i64 xf]) (by clear hB hA; go_simp <;> rfl) ?_
      refine (D4.out w').mono ?_
      rintro e w3 ⟨rfl, hb3⟩
      exact ⟨_, rfl, hb3, rfl⟩
    simp only [Act.put, List.setIfInBounds_toArray, List.set_cons_succ, List.set_cons_zero]
    iterate 5 (apply Free.chain_still (by first | exact Free.wanted_of rfl rfl rfl | rfl) rfl; (intro w' hB hA; obtain ⟨qB, q0, q1, q2, q3, q4⟩ := hB; clear hA  qB; go_light; first | (refine exec_cat rfl rfl rfl ?_; (try simp only [ba_size, size_lit, List.size_toArray, List.length_cons, List.length_nil]); omega) | (go_simp <;> rfl)); (try simp only [Act.put, List.setIfInBounds_toArray, List.set_cons_succ, List.set_cons_zero]))
    apply Free.chain_nil
    intro wy hBz _ _
    simp only [List.drop_succ_cons, List.drop_zero]
    have L := Lib.hid hBz.1
    clear hBz
    go_wp2_with fail
    go_ret
    exact ⟨by rw [EB.out]; rfl, L.out⟩
theorem nodeT_eq (a b : ByteArray) : ⟨#[110, 111, 100, 101, 32]⟩ ++ dec (a.size : Int) ++ ⟨#[32]⟩ ++ a ++ b = nodeT a b := by
  unfold nodeT tagT
  apply Dj.ba_ext
  simp only [Dj.ba_append, List.append_assoc]
  rfl
theorem leafT_eq (x : Fac) (s : ByteArray) : ⟨#[108, 101, 97, 102, 32]⟩ ++ dec (s.size : Int) ++ ⟨#[32]⟩ ++ s ++ bdF x = leafT x s := by
  unfold leafT tagT
  apply Dj.ba_ext
  simp only [Dj.ba_append, List.append_assoc]
  rfl
theorem nodetext_any (a b : ByteArray) (w : World) (h1 : a.size ≤ 1000000000) (h2 : b.size ≤ 1000000000) :
    Calls Tryd.prog 53 #[.string a, .string b] w fun e w' => e = .returned (.string (nodeT a b)) ∧ Below w.heap.size w w' := by
  have D0 := Lib.hid (fun w => decimal32_any (a.size : Int) w (by omega) (by omega))
  have z0 := dec_size (a.size : Int) (by omega) (by omega)
  have eb := nodeT_eq a b
  obtain ⟨d0, e0⟩ : ∃ d, d = dec (a.size : Int) := ⟨_, rfl⟩
  rw [← e0] at D0 z0 eb
  have EB := Lib.hid eb
  clear e0 eb
  go_enter Tryd.func53, Tryd.ntmps53
  go_wp2_with fail
  refine (D0.out _).mono ?_
  rintro e w1 ⟨rfl, hb⟩
  have L := Lib.hid hb
  clear hb
  go_wp2_with fail
  go_ret
  exact ⟨by rw [← EB.out]; rfl, L.out⟩
set_option maxRecDepth 100000 in
theorem leaftext_any (x : Fac) (s : ByteArray) (w : World) (hx : x.Ok) (h1 : s.size ≤ 1000000000) :
    Calls Tryd.prog 33 #[.agg (encF x).toArray, .string s] w fun e w' => e = .returned (.string (leafT x s)) ∧ Below w.heap.size w w' := by
  have hs := bdP_size hx 6
  have D0 := Lib.hid (fun w => decimal32_any (s.size : Int) w (by omega) (by omega))
  have z0 := dec_size (s.size : Int) (by omega) (by omega)
  have B1 := Lib.hid (fun w => body32_any x w hx)
  have eb := leafT_eq x s
  have hbs : (bdF x).size ≤ 200 := by show (bdP x 6).size ≤ _; omega
  obtain ⟨d0, e0⟩ : ∃ d, d = dec (s.size : Int) := ⟨_, rfl⟩
  obtain ⟨bd, ebd⟩ : ∃ d, d = bdF x := ⟨_, rfl⟩
  rw [← e0] at D0 z0 eb
  rw [← ebd] at B1 eb hbs
  have EB := Lib.hid eb
  obtain ⟨R, eR⟩ : ∃ R, R = leafT x s := ⟨_, rfl⟩
  rw [← eR] at EB ⊢
  clear e0 eb hs ebd hx eR
  obtain ⟨xr, xa, xl, xh, xf, xs⟩ := x
  rw [show encF ⟨xr, xa, xl, xh, xf, xs⟩ = [.int .i64 xr, .int .i64 xa, .int .i64 xl, .int .i64 xh, .int .i64 xf, .bool xs] from rfl] at B1 ⊢
  go_enter Tryd.func33, Tryd.ntmps33
  go_wp2_with fail
  refine Free.wp_region_free 11 [(2, .det (.string d0)), (8, .det (.string bd))] (fun w2 => Below w.heap.size w w2 ∧ w2.cell? ⟨w.heap.size, 0, none⟩ = some (.int .i64 xr) ∧ w2.cell? ⟨w.heap.size, 1, none⟩ = some (.int .i64 xa) ∧ w2.cell? ⟨w.heap.size, 2, none⟩ = some (.int .i64 xl) ∧ w2.cell? ⟨w.heap.size, 3, none⟩ = some (.int .i64 xh) ∧ w2.cell? ⟨w.heap.size, 4, none⟩ = some (.int .i64 xf) ∧ w2.cell? ⟨w.heap.size, 5, none⟩ = some (.bool xs)) (by kernel_rfl) (by kernel_rfl) (Free.mono_det (fun j mk r hf => by simp only [Free.find] at hf; repeat' (first | cases hf | split at hf))) ⟨((Below.refl _ _).alloc (Nat.le_refl _) _).drew, (Blk.newA w _ 25).cell 0 (by simp), (Blk.newA w _ 25).cell 1 (by simp), (Blk.newA w _ 25).cell 2 (by simp), (Blk.newA w _ 25).cell 3 (by simp), (Blk.newA w _ 25).cell 4 (by simp), (Blk.newA w _ 25).cell 5 (by simp)⟩ (fun _ _ h g => ⟨h.1.trans (Below.mono g h.1.size), cell_grow h.2.1 g, cell_grow h.2.2.1 g, cell_grow h.2.2.2.1 g, cell_grow h.2.2.2.2.1 g, cell_grow h.2.2.2.2.2.1 g, cell_grow h.2.2.2.2.2.2 g⟩) ?_
  simp only [List.take_succ_cons, List.take_zero]
  iterate 2 (apply Free.chain_still (by first | exact Free.wanted_of rfl rfl rfl | rfl) rfl; (intro w' hB hA; obtain ⟨qB, q0, q1, q2, q3, q4, q5⟩ := hB; clear hA  qB; go_light; first | (refine exec_cat rfl rfl rfl ?_; (try simp only [ba_size, size_lit, List.size_toArray, List.length_cons, List.length_nil]); omega) | (go_simp <;> rfl)); (try simp only [Act.put, List.setIfInBounds_toArray, List.set_cons_succ, List.set_cons_zero]))
  apply Free.chain_det (by first | exact Free.wanted_of rfl rfl rfl | rfl) rfl
  · intro w' hB hA
    refine Free.opRun_call (f := 58) (args := #[.int .i64 (s.size : Int)]) (by clear hB hA; go_simp <;> rfl) ?_
    refine (D0.out w').mono ?_
    rintro e w3 ⟨rfl, hb3⟩
    exact ⟨_, rfl, hb3, rfl⟩
  simp only [Act.put, List.setIfInBounds_toArray, List.set_cons_succ, List.set_cons_zero]
  iterate 5 (apply Free.chain_still (by first | exact Free.wanted_of rfl rfl rfl | rfl) rfl; (intro w' hB hA; obtain ⟨qB, q0, q1, q2, q3, q4, q5⟩ := hB; clear hA  qB; go_light; first | (refine exec_cat rfl rfl rfl ?_; (try simp only [ba_size, size_lit, List.size_toArray, List.length_cons, List.length_nil]); omega) | (go_simp <;> rfl)); (try simp only [Act.put, List.setIfInBounds_toArray, List.set_cons_succ, List.set_cons_zero]))
  apply Free.chain_det (by first | exact Free.wanted_of rfl rfl rfl | rfl) rfl
  · intro w' hB hA
    refine Free.opRun_call (f := 59) (args := #[.agg #[.int .i64 xr, .int .i64 xa, .int .i64 xl, .int .i64 xh, .int .i64 xf, .bool xs]]) (by clear hB hA; go_simp <;> rfl) ?_
    refine (B1.out w').mono ?_
    rintro e w3 ⟨rfl, hb3⟩
    exact ⟨_, rfl, hb3, rfl⟩
  simp only [Act.put, List.setIfInBounds_toArray, List.set_cons_succ, List.set_cons_zero]
  iterate 2 (apply Free.chain_still (by first | exact Free.wanted_of rfl rfl rfl | rfl) rfl; (intro w' hB hA; obtain ⟨qB, q0, q1, q2, q3, q4, q5⟩ := hB; clear hA  qB; go_light; first | (refine exec_cat rfl rfl rfl ?_; (try simp only [ba_size, size_lit, List.size_toArray, List.length_cons, List.length_nil]); omega) | (go_simp <;> rfl)); (try simp only [Act.put, List.setIfInBounds_toArray, List.set_cons_succ, List.set_cons_zero]))
  apply Free.chain_nil
  intro wy hBz _ _
  simp only [List.drop_succ_cons, List.drop_zero]
  have L := Lib.hid hBz.1
  clear hBz
  go_wp2_with fail
  go_ret
  exact ⟨by rw [← EB.out]; rfl, L.out⟩
def RSP (n : Nat) (k : Value) : Prop := ∃ j : Nat, k = .int .i64 ((2 ^ j : Nat) : Int) ∧ 2 ^ j < n
theorem split_any (n : Nat) (w : World) (h : 2 ≤ n) (h2 : n < 4611686018427387904) : Calls Tryd.prog 52 #[.int .i64 (n : Int)] w fun e w' => e = .returned (.int .i64 (half n : Nat)) ∧ w = w' := by
  have HST : Hid (RSP n (.int .i64 1)) := ⟨0, rfl, by omega⟩
  go_enter Tryd.func52, Tryd.ntmps52
  go_wp2_with fail
  go_loop [3] (fun k => RSP n k) (fun k => n - (intOf k).toNat)
  case atStart => exact HST.out
  case round =>
    clear HST
    obtain ⟨j, rfl, hj⟩ := hrel
    have HN : Hid (∀ q, q = 2 ^ j → ¬ 2 * q < n → half n = q) := fun q hq h3 => by subst hq; exact half_uniq h (by omega) hj (by omega)
    have HP : Hid (2 ^ (j + 1) = 2 * 2 ^ j) := by show _ = _; rw [Nat.pow_succ]; omega
    have h1 : 1 ≤ 2 ^ j := Nat.two_pow_pos j
    obtain ⟨q, eq⟩ : ∃ q, q = 2 ^ j := ⟨_, rfl⟩
    have EQ := Lib.hid eq
    rw [← eq] at hj h1 HP ⊢
    clear eq
    by_cases hlt : 2 * q < n
    · have g1 : (2 : Int) * (q : Int) < (n : Int) := by omega
      go_wp2_with fail
      go_round
      case rel => exact ⟨j + 1, by rw [HP.out]; go_num, by rw [HP.out]; exact hlt⟩
      case measure => simp [intOf]; omega
    · have g1 : ¬ (2 : Int) * (q : Int) < (n : Int) := by omega
      go_wp2_with fail
      go_ret
      exact ⟨by rw [HN.out q EQ.out hlt]; rfl, rfl⟩
end Go.Proofs.YtamiaalfjmppaaaDoor
