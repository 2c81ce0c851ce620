/- The reference of layer 30: the text and the digest of a proposal; equal proposals. Condition: the letters lie in memory. -/
import Derived.Test.YtekfoaenomgjgaaGreatDoorRcD
namespace Go.Proofs.YtekfoaenomgjgaaGreatDoor
open Go.RowKit Go.W32 Go.Blk Go.Cs Go.Lib Go.Opn Go.Mg

theorem size_lit24 (a : Array UInt8) : (⟨a⟩ : ByteArray).size = a.size := rfl
theorem run_cat24 (s t : ByteArray) (h : s.size + t.size ≤ 9223372036854775807) (W : World) : (binOp .add 9 (.string s) (.string t)).run Tryz.prog W = .ok (.string (s ++ t)) W := by
  have h2 : ¬ 9223372036854775807 < s.size + t.size := by omega
  go_simp <;> rfl
theorem exec_cat {o : Oper} {ρ : Operand → Value} {w : World} {a b : Operand} {s t : ByteArray} (ho : o.op = .binOp .add 9 a b 9) (ha : ρ a = .string s) (hb : ρ b = .string t) (h : s.size + t.size ≤ 9223372036854775807) :
    (execOp ρ o).run Tryz.prog w = .ok (.value (.string (s ++ t))) w := by
  have hg : (eqGuard .add 9 a b (.string s) (.string t)).run Tryz.prog w = .ok () w := by
    unfold eqGuard
    simp
  unfold execOp
  simp only [ho, ha, hb, Sem.run_bind, hg, Result.andThen_ok, run_cat24 s t h, Sem.run_pure]
/-- A text of a proposal as the reference puts it together. -/
def conT (a b c t : ByteArray) : ByteArray := ((((((⟨#[112, 114, 111, 112, 111, 115, 101, 32]⟩ ++ a) ++ ⟨#[32]⟩) ++ b) ++ ⟨#[32]⟩) ++ c) ++ ⟨#[32]⟩) ++ t
theorem conT_eq (x : Let) : conT (dec x.party) (dec x.number) (dec x.day) (tx x.patch.text) = tx x.text := by
  unfold conT Let.text
  rw [show (⟨#[112, 114, 111, 112, 111, 115, 101, 32]⟩ : ByteArray) = tx (proposeT ++ [32]) from rfl, show (⟨#[32]⟩ : ByteArray) = tx [32] from rfl, dec_tx, dec_tx, dec_tx]
  simp only [tx_append]
  simp [words, word]
theorem text24_len (p : Pat) (h : ∀ n ∈ p.nums, i64P n) : (tx p.text).size ≤ 9600 := by
  rw [tx_size]
  unfold Pat.text
  cases hs : p.small with
  | false => simp
  | true =>
    unfold Pat.small at hs
    simp only [Bool.and_eq_true, decide_eq_true_eq] at hs
    rw [if_pos rfl, List.length_append]
    have h1 := words24_len h
    have h2 := nums_len p
    have h3 : patchT.length = 5 := rfl
    omega
set_option maxRecDepth 100000 in
set_option maxHeartbeats 2000000 in
theorem content30_any (r : Rl) (W : World) (hp : PatAt W r.1.patch r.2) (ho : LetOk r.1) : Calls Tryz.prog 51 #[.agg (encLet r).toArray] W fun e w' => e = .returned (.string (tx r.1.text)) ∧ Below W.heap.size W w' := by
  obtain ⟨R, eR⟩ : ∃ R : Ending → World → Prop, R = fun e w' => e = .returned (.string (tx r.1.text)) ∧ Below W.heap.size W w' := ⟨_, rfl⟩
  rw [← eR]
  have FIN : Hid (∀ w', Below W.heap.size W w' → R (.returned (.string (conT (dec r.1.party) (dec r.1.number) (dec r.1.day) (tx r.1.patch.text)))) w') := Lib.hid fun w' hb => by rw [eR, conT_eq]; exact ⟨rfl, hb⟩
  clear eR
  obtain ⟨W1, cs, ps, hx⟩ := boxL W r
  have hrow := hx.row
  have E1 := Lib.hid hx.e
  have HB1 := Lib.hid hx.below
  have HC : Hid (∀ w', Below W1.heap.size W1 w' → w'.cell? ⟨W.heap.size, 1, none⟩ = some (.int .i64 r.1.party) ∧ w'.cell? ⟨W.heap.size, 2, none⟩ = some (.int .i64 r.1.number) ∧ w'.cell? ⟨W.heap.size, 4, none⟩ = some (.int .i64 r.1.day)) := Lib.hid fun w' hb => by
    have h := hrow.below hb hrow.lt
    exact ⟨h.at (show cs[1]? = _ by rw [hx.cs]; rfl), h.at (show cs[2]? = _ by rw [hx.cs]; rfl), h.at (show cs[4]? = _ by rw [hx.cs]; rfl)⟩
  have HM : Hid (∀ w', Below W1.heap.size W1 w' → w'.rangeAt W.heap.size 5 ps) := Lib.hid fun w' hb => (hrow.below hb hrow.lt).range (fun j v hj => by rw [hx.ps] at hj; rw [hx.cs]; exact let_at hj)
  have HI := Lib.hid (info_p ps (by rw [hx.ps]; rfl))
  have CT : Hid (∀ w', Below W1.heap.size W1 w' → Calls Tryz.prog 47 #[.agg ps.toArray] w' fun e w'' => e = .returned (.string (tx r.1.patch.text)) ∧ Below w'.heap.size w' w'') := Lib.hid fun w' hb => by
    rw [hx.ps]; exact text24_any r.1.patch r.2 w' (hp.below (hx.below.trans (hb.mono hx.below.size)) (Nat.le_refl _)) ho.patch
  have CD1 := Lib.hid (fun w => dec24_any r.1.party w ho.nums.2.1.1 ho.nums.2.1.2)
  have CD2 := Lib.hid (fun w => dec24_any r.1.number w ho.nums.2.2.1.1 ho.nums.2.2.1.2)
  have CD3 := Lib.hid (fun w => dec24_any r.1.day w ho.nums.2.2.2.2.1 ho.nums.2.2.2.2.2)
  have z1 := dec_size r.1.party ho.nums.2.1.1 ho.nums.2.1.2
  have z2 := dec_size r.1.number ho.nums.2.2.1.1 ho.nums.2.2.1.2
  have z3 := dec_size r.1.day ho.nums.2.2.2.2.1 ho.nums.2.2.2.2.2
  have z4 := text24_len r.1.patch ho.patch.nums
  rw [← hx.cs]
  clear hx hrow hp ho
  obtain ⟨a, ea⟩ : ∃ a, a = dec r.1.party := ⟨_, rfl⟩
  obtain ⟨b, eb⟩ : ∃ b, b = dec r.1.number := ⟨_, rfl⟩
  obtain ⟨c, ec⟩ : ∃ c, c = dec r.1.day := ⟨_, rfl⟩
  obtain ⟨t, et⟩ : ∃ t, t = tx r.1.patch.text := ⟨_, rfl⟩
  rw [← ea] at CD1 z1
  rw [← eb] at CD2 z2
  rw [← ec] at CD3 z3
  rw [← et] at CT z4
  rw [← ea, ← eb, ← ec, ← et] at FIN
  clear ea eb ec et
  go_enter Tryz.func51, Tryz.ntmps51
  go_wp2_with (simp only [E1.out])
  refine Free.wp_region_free 19 [(2, .det (.string a)), (7, .det (.string b)), (12, .det (.string c)), (17, .det (.string t))] (fun w' => Below W1.heap.size W1 w') (by kernel_rfl) (by kernel_rfl) (Free.mono_det (fun j mk r hf => by simp only [Free.find] at hf; repeat' (first | cases hf | split at hf))) (Below.refl _ _).drew (fun _ _ h g => h.trans (Below.mono g h.size)) ?_
  simp only [List.take_succ_cons, List.take_zero]
  iterate 2 (apply Free.chain_still (by first | exact Free.wanted_of rfl rfl rfl | rfl) rfl; (intro w' hB hA; obtain ⟨q1, q2, q4⟩ := HC.out w' hB; clear hA; go_light; go_simp <;> rfl); (try simp only [Act.put, List.setIfInBounds_toArray, List.set_cons_succ, List.set_cons_zero]))
  apply Free.chain_det (by first | exact Free.wanted_of rfl rfl rfl | rfl) rfl
  · intro w' hB hA
    refine Free.opRun_call (f := 83) (args := #[.int .i64 r.1.party]) (by clear hB hA; go_simp <;> rfl) ?_
    refine (CD1.out _).mono ?_
    rintro e w3 ⟨rfl, hb3⟩
    exact ⟨_, rfl, hb3, rfl⟩
  simp only [Act.put, List.setIfInBounds_toArray, List.set_cons_succ, List.set_cons_zero]
  apply Free.chain_still (by first | exact Free.wanted_of rfl rfl rfl | rfl) rfl
  · intro w' hB hA
    exact exec_cat rfl rfl rfl (by simp only [ByteArray.size_append, size_lit24, List.size_toArray, List.length_cons, List.length_nil]; omega)
  simp only [Act.put, List.setIfInBounds_toArray, List.set_cons_succ, List.set_cons_zero]
  apply Free.chain_still (by first | exact Free.wanted_of rfl rfl rfl | rfl) rfl
  · intro w' hB hA
    exact exec_cat rfl rfl rfl (by simp only [ByteArray.size_append, size_lit24, List.size_toArray, List.length_cons, List.length_nil]; omega)
  simp only [Act.put, List.setIfInBounds_toArray, List.set_cons_succ, List.set_cons_zero]
  iterate 2 (apply Free.chain_still (by first | exact Free.wanted_of rfl rfl rfl | rfl) rfl; (intro w' hB hA; obtain ⟨q1, q2, q4⟩ := HC.out w' hB; clear hA; go_light; go_simp <;> rfl); (try simp only [Act.put, List.setIfInBounds_toArray, List.set_cons_succ, List.set_cons_zero]))
  apply Free.chain_det (by first | exact Free.wanted_of rfl rfl rfl | rfl) rfl
  · intro w' hB hA
    refine Free.opRun_call (f := 83) (args := #[.int .i64 r.1.number]) (by clear hB hA; go_simp <;> rfl) ?_
    refine (CD2.out _).mono ?_
    rintro e w3 ⟨rfl, hb3⟩
    exact ⟨_, rfl, hb3, rfl⟩
  simp only [Act.put, List.setIfInBounds_toArray, List.set_cons_succ, List.set_cons_zero]
  apply Free.chain_still (by first | exact Free.wanted_of rfl rfl rfl | rfl) rfl
  · intro w' hB hA
    exact exec_cat rfl rfl rfl (by simp only [ByteArray.size_append, size_lit24, List.size_toArray, List.length_cons, List.length_nil]; omega)
  simp only [Act.put, List.setIfInBounds_toArray, List.set_cons_succ, List.set_cons_zero]
  apply Free.chain_still (by first | exact Free.wanted_of rfl rfl rfl | rfl) rfl
  · intro w' hB hA
    exact exec_cat rfl rfl rfl (by simp only [ByteArray.size_append, size_lit24, List.size_toArray, List.length_cons, List.length_nil]; omega)
  simp only [Act.put, List.setIfInBounds_toArray, List.set_cons_succ, List.set_cons_zero]
  iterate 2 (apply Free.chain_still (by first | exact Free.wanted_of rfl rfl rfl | rfl) rfl; (intro w' hB hA; obtain ⟨q1, q2, q4⟩ := HC.out w' hB; clear hA; go_light; go_simp <;> rfl); (try simp only [Act.put, List.setIfInBounds_toArray, List.set_cons_succ, List.set_cons_zero]))
  apply Free.chain_det (by first | exact Free.wanted_of rfl rfl rfl | rfl) rfl
  · intro w' hB hA
    refine Free.opRun_call (f := 83) (args := #[.int .i64 r.1.day]) (by clear hB hA; go_simp <;> rfl) ?_
    refine (CD3.out _).mono ?_
    rintro e w3 ⟨rfl, hb3⟩
    exact ⟨_, rfl, hb3, rfl⟩
  simp only [Act.put, List.setIfInBounds_toArray, List.set_cons_succ, List.set_cons_zero]
  apply Free.chain_still (by first | exact Free.wanted_of rfl rfl rfl | rfl) rfl
  · intro w' hB hA
    exact exec_cat rfl rfl rfl (by simp only [ByteArray.size_append, size_lit24, List.size_toArray, List.length_cons, List.length_nil]; omega)
  simp only [Act.put, List.setIfInBounds_toArray, List.set_cons_succ, List.set_cons_zero]
  apply Free.chain_still (by first | exact Free.wanted_of rfl rfl rfl | rfl) rfl
  · intro w' hB hA
    exact exec_cat rfl rfl rfl (by simp only [ByteArray.size_append, size_lit24, List.size_toArray, List.length_cons, List.length_nil]; omega)
  simp only [Act.put, List.setIfInBounds_toArray, List.set_cons_succ, List.set_cons_zero]
  iterate 1 (apply Free.chain_still (by first | exact Free.wanted_of rfl rfl rfl | rfl) rfl; (intro w' hB hA; obtain ⟨q1, q2, q4⟩ := HC.out w' hB; clear hA; go_light; go_simp <;> rfl); (try simp only [Act.put, List.setIfInBounds_toArray, List.set_cons_succ, List.set_cons_zero]))
  apply Free.chain_still (by first | exact Free.wanted_of rfl rfl rfl | rfl) rfl
  · intro w' hB hA
    exact Hk.exec_mid 47 (.tmp 18) rfl W.heap.size 5 rfl ps _ (HM.out _ hB) Tryz.underlying47 rfl HI.out
  simp only [Act.put, List.setIfInBounds_toArray, List.set_cons_succ, List.set_cons_zero]
  apply Free.chain_det (by first | exact Free.wanted_of rfl rfl rfl | rfl) rfl
  · intro w' hB hA
    refine Free.opRun_call (f := 47) (args := #[.agg ps.toArray]) (by clear hB hA; go_simp <;> rfl) ?_
    refine (CT.out _ hB).mono ?_
    rintro e w3 ⟨rfl, hb3⟩
    exact ⟨_, rfl, hb3, rfl⟩
  simp only [Act.put, List.setIfInBounds_toArray, List.set_cons_succ, List.set_cons_zero]
  apply Free.chain_still (by first | exact Free.wanted_of rfl rfl rfl | rfl) rfl
  · intro w' hB hA
    exact exec_cat rfl rfl rfl (by simp only [ByteArray.size_append, size_lit24, List.size_toArray, List.length_cons, List.length_nil]; omega)
  simp only [Act.put, List.setIfInBounds_toArray, List.set_cons_succ, List.set_cons_zero]
  apply Free.chain_nil
  intro w6 hw6 _ _
  have HF := Lib.hid (FIN.out w6 (HB1.out.trans (hw6.mono HB1.out.size)))
  unfold conT at HF
  simp only [List.drop_succ_cons, List.drop_zero]
  clear hw6 FIN HC HM CT CD1 CD2 CD3
  go_wp2_with fail
  exact HF.out
theorem let_len (x : Let) (ho : LetOk x) : (tx x.text).size ≤ 1000000 := by
  rw [← conT_eq]
  unfold conT
  have z1 := dec_size x.party ho.nums.2.1.1 ho.nums.2.1.2
  have z2 := dec_size x.number ho.nums.2.2.1.1 ho.nums.2.2.1.2
  have z3 := dec_size x.day ho.nums.2.2.2.2.1 ho.nums.2.2.2.2.2
  have z4 := text24_len x.patch ho.patch.nums
  simp only [ByteArray.size_append, size_lit24, List.size_toArray, List.length_cons, List.length_nil]
  omega
theorem dg_cases (x : Let) : DG x = if x.kind = 1 ∧ x.formed = true then SD (tx x.text) else ByteArray.empty := by
  unfold DG dig counts
  by_cases hf : x.formed = true
  · have hp : x.party < 12 := by
      unfold Let.formed Let.base at hf
      simp only [Bool.and_eq_true, decide_eq_true_eq] at hf
      exact hf.1.2.1
    by_cases hk : x.kind = 1
    · simp [hk, hf, hp, tx]
    · simp [hk, hf]
  · simp [hf]
set_option maxRecDepth 100000 in
set_option maxHeartbeats 1000000 in
theorem digest30_any (r : Rl) (W : World) (hp : PatAt W r.1.patch r.2) (ho : LetOk r.1) : Calls Tryz.prog 18 #[.agg (encLet r).toArray] W fun e w' => e = .returned (.string (DG r.1)) ∧ Below W.heap.size W w' := by
  obtain ⟨R, eR⟩ : ∃ R : Ending → World → Prop, R = fun e w' => e = .returned (.string (DG r.1)) ∧ Below W.heap.size W w' := ⟨_, rfl⟩
  rw [← eR]
  have FIN : Hid (∀ w' v, v = (if r.1.kind = 1 ∧ r.1.formed = true then SD (tx r.1.text) else ByteArray.empty) → Below W.heap.size W w' → R (.returned (.string v)) w') := Lib.hid fun w' v h hb => by rw [eR, dg_cases, h]; exact ⟨rfl, hb⟩
  clear eR
  obtain ⟨W1, cs, ps, hx⟩ := boxL W r
  have c0 := hx.row.at (show cs[0]? = some (.int .i64 r.1.kind) by rw [hx.cs]; rfl)
  have E1 := Lib.hid hx.e
  have HB1 := Lib.hid hx.below
  have HM0 : Hid (∀ w', Below W1.heap.size W1 w' → w'.rangeAt W.heap.size 0 cs) := Lib.hid fun w' hb => (hx.row.below hb hx.row.lt).range fun j v hj => by rw [Nat.zero_add]; exact hj
  have HI0 := Lib.hid (info_l25 cs (by rw [hx.cs]; rfl))
  have CF := Lib.hid (formed30_any r W1 (hp.below hx.below (Nat.le_refl _)) ho)
  have CC : Hid (∀ w', Below W1.heap.size W1 w' → Calls Tryz.prog 51 #[.agg cs.toArray] w' fun e w'' => e = .returned (.string (tx r.1.text)) ∧ Below w'.heap.size w' w'') := Lib.hid fun w' hb => by
    rw [hx.cs]; exact content30_any r w' (hp.below (hx.below.trans (hb.mono hx.below.size)) (Nat.le_refl _)) ho
  have HL := Lib.hid (let_len r.1 ho)
  rw [← hx.cs] at CF ⊢
  clear hx hp ho
  by_cases k1 : r.1.kind = 1
  rotate_left
  · have k1b : (r.1.kind == 1) = false := by simp [k1]
    have k1n : (r.1.kind != 1) = true := by simp [k1]
    have HF := Lib.hid (FIN.out W1 ⟨#[]⟩ (by rw [if_neg (fun h => k1 h.1)]; rfl) HB1.out)
    clear FIN k1
    go_enter Tryz.func18, Tryz.ntmps18
    go_wp2_with (simp only [E1.out])
    exact HF.out
  have k1b : (r.1.kind == 1) = true := by simp [k1]
  have k1n : (r.1.kind != 1) = false := by simp [k1]
  have HK := Lib.hid k1
  have HM1 := Lib.hid (HM0.out W1 (Below.refl _ _))
  obtain ⟨f, ef⟩ : ∃ f, f = r.1.formed := ⟨_, rfl⟩
  obtain ⟨t, et⟩ : ∃ t, t = tx r.1.text := ⟨_, rfl⟩
  rw [← ef] at CF FIN
  rw [← et] at CC HL FIN
  clear k1 ef et
  go_enter Tryz.func18, Tryz.ntmps18
  go_wp2_with (first
    | (simp only [E1.out])
    | (refine at_load (.tmp 1) ?_; refine Row.still (by first | exact Free.wanted_of rfl rfl rfl | rfl) (Hk.exec_mid 49 (.tmp 1) rfl W.heap.size 0 rfl cs _ HM1.out Tryz.underlying49 rfl HI0.out) ?_; simp only [Act.put, List.setIfInBounds_toArray, List.set_cons_succ, List.set_cons_zero]))
  refine CF.out.mono ?_
  rintro e w2 ⟨rfl, hb2⟩
  have HB2 := Lib.hid (HB1.out.trans (hb2.mono HB1.out.size))
  have HM2 := Lib.hid (HM0.out w2 hb2)
  have CC2 := Lib.hid (CC.out w2 hb2)
  clear hb2 CF CC HM1
  cases f with
  | false =>
    have HF := Lib.hid (FIN.out w2 ⟨#[]⟩ (by rw [if_neg (fun h => by cases h.2)]; rfl) HB2.out)
    clear FIN
    go_wp2_with fail
    exact HF.out
  | true =>
    go_wp2_with (refine at_load (.tmp 1) ?_; refine Row.still (by first | exact Free.wanted_of rfl rfl rfl | rfl) (Hk.exec_mid 49 (.tmp 1) rfl W.heap.size 0 rfl cs _ HM2.out Tryz.underlying49 rfl HI0.out) ?_; simp only [Act.put, List.setIfInBounds_toArray, List.set_cons_succ, List.set_cons_zero])
    refine CC2.out.mono ?_
    rintro e w3 ⟨rfl, hb3⟩
    have HB3 := Lib.hid (HB2.out.trans (hb3.mono HB2.out.size))
    have CS := Lib.hid (refsum_any t w3 (by have := HL.out; omega))
    clear hb3 CC2
    go_wp2_with fail
    refine CS.out.mono ?_
    rintro e w4 ⟨rfl, hb4⟩
    have HF := Lib.hid (FIN.out w4 (sumB KC t) (by rw [if_pos ⟨HK.out, by trivial⟩]) (HB3.out.trans (hb4.mono HB3.out.size)))
    clear hb4 CS FIN
    obtain ⟨d, ed⟩ : ∃ d, d = sumB KC t := ⟨_, rfl⟩
    rw [← ed] at HF ⊢
    clear ed
    go_wp2_with fail
    exact HF.out
def sameP (x y : Let) : Bool := decide (x.party = y.party) && (decide (x.number = y.number) && (decide (x.day = y.day) && x.patch.same y.patch))
set_option maxRecDepth 100000 in
set_option maxHeartbeats 1000000 in
theorem same30_any (r q : Rl) (W : World) (hr : PatAt W r.1.patch r.2) (hq : PatAt W q.1.patch q.2) (hrz : PatSz r.1.patch) (hqz : PatSz q.1.patch) : Calls Tryz.prog 17 #[.agg (encLet r).toArray, .agg (encLet q).toArray] W fun e w' => e = .returned (.bool (sameP r.1 q.1)) ∧ Below W.heap.size W w' := by
  obtain ⟨R, eR⟩ : ∃ R : Ending → World → Prop, R = fun e w' => e = .returned (.bool (sameP r.1 q.1)) ∧ Below W.heap.size W w' := ⟨_, rfl⟩
  rw [← eR]
  have FIN : Hid (∀ w' v, v = sameP r.1 q.1 → Below W.heap.size W w' → R (.returned (.bool v)) w') := Lib.hid fun w' v h hb => by rw [eR, h]; exact ⟨rfl, hb⟩
  clear eR
  obtain ⟨cs, ecs⟩ : ∃ cs, cs = encLet r := ⟨_, rfl⟩
  obtain ⟨ds, eds⟩ : ∃ ds, ds = encLet q := ⟨_, rfl⟩
  obtain ⟨hr1, hr2, hbw⟩ := two_boxes W 49 cs ds
  rw [← ecs, ← eds]
  generalize eW : (W.alloc (.cells cs.toArray 49)).alloc (.cells ds.toArray 49) = W2 at *
  have E1 := Lib.hid eW
  have c1 := hr1.at (show cs[1]? = some (.int .i64 r.1.party) by rw [ecs]; rfl)
  have c2 := hr1.at (show cs[2]? = some (.int .i64 r.1.number) by rw [ecs]; rfl)
  have c4 := hr1.at (show cs[4]? = some (.int .i64 r.1.day) by rw [ecs]; rfl)
  have d1 := hr2.at (show ds[1]? = some (.int .i64 q.1.party) by rw [eds]; rfl)
  have d2 := hr2.at (show ds[2]? = some (.int .i64 q.1.number) by rw [eds]; rfl)
  have d4 := hr2.at (show ds[4]? = some (.int .i64 q.1.day) by rw [eds]; rfl)
  obtain ⟨ps, eps⟩ : ∃ ps, ps = encPat r.1.patch r.2 := ⟨_, rfl⟩
  obtain ⟨qs, eqs⟩ : ∃ qs, qs = encPat q.1.patch q.2 := ⟨_, rfl⟩
  have HM1 : Hid (W2.rangeAt W.heap.size 5 ps) := Lib.hid (hr1.range fun j v hj => by rw [eps] at hj; rw [ecs]; exact let_at hj)
  have HM2 : Hid (W2.rangeAt (W.heap.size + 1) 5 qs) := Lib.hid (hr2.range fun j v hj => by rw [eqs] at hj; rw [eds]; exact let_at hj)
  have HI1 := Lib.hid (info_p ps (by rw [eps]; rfl))
  have HI2 := Lib.hid (info_p qs (by rw [eqs]; rfl))
  have HB2 := Lib.hid hbw
  have CS := Lib.hid (sm_any r.1.patch q.1.patch r.2 q.2 W2 (hr.below hbw (Nat.le_refl _)) (hq.below hbw (Nat.le_refl _)) hrz hqz)
  rw [← eps, ← eqs] at CS
  clear eW hr1 hr2 ecs eds hbw eps eqs hr hq hrz hqz
  by_cases h1 : r.1.party = q.1.party
  rotate_left
  · have HF := Lib.hid (FIN.out W2 false (by unfold sameP; simp [h1]) HB2.out)
    have hb : (r.1.party == q.1.party) = false := by simpa using h1
    clear FIN h1
    go_enter Tryz.func17, Tryz.ntmps17
    go_wp2_with (simp only [E1.out])
    exact HF.out
  by_cases h2 : r.1.number = q.1.number
  rotate_left
  · have HF := Lib.hid (FIN.out W2 false (by unfold sameP; simp [h2]) HB2.out)
    have hb : (r.1.number == q.1.number) = false := by simpa using h2
    clear FIN h2
    go_enter Tryz.func17, Tryz.ntmps17
    go_wp2_with (simp only [E1.out])
    exact HF.out
  by_cases h3 : r.1.day = q.1.day
  rotate_left
  · have HF := Lib.hid (FIN.out W2 false (by unfold sameP; simp [h3]) HB2.out)
    have hb : (r.1.day == q.1.day) = false := by simpa using h3
    clear FIN h3
    go_enter Tryz.func17, Tryz.ntmps17
    go_wp2_with (simp only [E1.out])
    exact HF.out
  have FV : Hid (∀ w' v, v = r.1.patch.same q.1.patch → Below W.heap.size W w' → R (.returned (.bool v)) w') := Lib.hid fun w' v h hb => FIN.out w' v (by unfold sameP; rw [decide_eq_true h1, decide_eq_true h2, decide_eq_true h3, h]; rfl) hb
  have b1 : (r.1.party == q.1.party) = true := by simpa using h1
  have b2 : (r.1.number == q.1.number) = true := by simpa using h2
  have b3 : (r.1.day == q.1.day) = true := by simpa using h3
  obtain ⟨v, ev⟩ : ∃ v, v = r.1.patch.same q.1.patch := ⟨_, rfl⟩
  rw [← ev] at CS FV
  clear FIN h1 h2 h3 ev
  go_enter Tryz.func17, Tryz.ntmps17
  go_wp2_with (first
    | (simp only [E1.out])
    | (refine at_load (.tmp 25) ?_; refine Row.still (by first | exact Free.wanted_of rfl rfl rfl | rfl) (Hk.exec_mid 47 (.tmp 25) rfl W.heap.size 5 rfl ps _ HM1.out Tryz.underlying47 rfl HI1.out) ?_; simp only [Act.put, List.setIfInBounds_toArray, List.set_cons_succ, List.set_cons_zero])
    | (refine at_load (.tmp 27) ?_; refine Row.still (by first | exact Free.wanted_of rfl rfl rfl | rfl) (Hk.exec_mid 47 (.tmp 27) rfl (W.heap.size + 1) 5 rfl qs _ HM2.out Tryz.underlying47 rfl HI2.out) ?_; simp only [Act.put, List.setIfInBounds_toArray, List.set_cons_succ, List.set_cons_zero]))
  refine CS.out.mono ?_
  rintro e w4 ⟨rfl, hb4⟩
  have HF := Lib.hid (FV.out w4 v rfl (HB2.out.trans (hb4.mono HB2.out.size)))
  clear hb4 CS FV
  go_wp2_with fail
  exact HF.out
end Go.Proofs.YtekfoaenomgjgaaGreatDoor
