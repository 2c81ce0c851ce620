/- The reference of layer 31: decimal. No condition. The reference of layer 31: the text of an entry. No condition. The reference of layer 31: the digest of an entry. No condition. The reference of layer 31: Signed, the error of an entry. No condition. The reference of layer 31: the error of an entry, walked. No condition. The reference of layer 31: Check and Fork. No condition. The reference of layer 31: Fork. No condition. The reference of layer 31: Append. Condition: the variables of digest and of strconv hold their numbers. The law ChainMatchesReference, walked. Condition: the variables of digest and of strconv hold their numbers. -/
import Derived.Test.YtaaenobckipfkaaDoorCh20
import Derived.Test.YtaaenobckipfkaaDoorRefG
import Derived.Test.YtaaenobckipfkaaDoorSgX
import Derived.Test.YtaaenobckipfkaaDoorCh14
import Derived.Test.YtaaenobckipfkaaDoorCh12
import Derived.Test.YtaaenobckipfkaaDoorCh18
import Derived.Test.YtaaenobckipfkaaDoorChP
namespace Go.Proofs.YtaaenobckipfkaaDoor
open Go.RowKit Go.Blk Go.Opn

theorem dec_len2 (N : Nat) (h : N ≤ 9223372036854775808) : (dec (N : Int)).size ≤ 22 := by
  by_cases h9 : 9 < N
  · rw [dec_big N h9, ByteArray.size_append]
    have := dec_size ((N / 10 : Nat) : Int) (by omega) (by omega)
    have e : (digB (N % 10)).size = 1 := rfl
    omega
  · have := dec_size (N : Int) (by omega) (by omega)
    omega
theorem conv_dig (d : Nat) (hd : d < 10) (v : Int) (hv : v = 48 + (d : Int)) (W : World) : (convert 77 9 (.slice (some ⟨W.heap.size, 0, none⟩) 1 1)).run Tryd.prog (W.alloc (.cells #[.int .u8 v] 5)) = .ok (.string (digB d)) (W.alloc (.cells #[.int .u8 v] 5)) := by
  have h := conv_bytes (P := Tryd.prog) (cap := 1) [UInt8.ofNat (48 + d)] Tryd.underlying77 Tryd.underlying5 Tryd.underlying9 (Blk.new W [.int .u8 v] 5) (fun j hj => by
    have : j = 0 := by simpa using hj
    subst this
    show some (Value.int .u8 v) = some (C8 (UInt8.ofNat (48 + d)))
    unfold C8
    rw [dig_nat d hd, hv]; simp)
  exact h
def RD31 (w : World) (N : Nat) (u s : Value) (wr : World) : Prop := ∃ (k : Nat) (t : ByteArray), k ≤ N ∧ u = .int .u64 (k : Int) ∧ s = .string (digB (k % 10) ++ t) ∧ dec (N : Int) = dec (k : Int) ++ t ∧ Below w.heap.size w wr
set_option maxRecDepth 100000 in
set_option maxHeartbeats 2000000 in
theorem rdec31_any (n : Int) (w : World) (h0 : -9223372036854775808 ≤ n) (h1 : n ≤ 9223372036854775807) : Calls Tryd.prog 47 #[.int .i64 n] w fun e w' => e = .returned (.string (dec n)) ∧ Below w.heap.size w w' := by
  by_cases hn : n < 0
  · obtain ⟨N, rfl⟩ : ∃ N : Nat, n = -(N : Int) := ⟨n.natAbs, by omega⟩
    have hN : N ≤ 9223372036854775808 := by omega
    have hdn : dec (-(N : Int)) = ⟨#[45]⟩ ++ dec (N : Int) := by
      apply ba_ext
      rw [ba_append, dec_tl, dec_tl, Lib.itoa_neg N (by omega), Lib.itoa_nonneg]; rfl
    have HDN := Lib.hid hdn
    have hw1 : IntKind.u64.wrap (-(N : Int)) = 18446744073709551616 - (N : Int) := by unfold IntKind.wrap; simp [IntKind.bits, IntKind.signed]; omega
    have hw2 : IntKind.u64.wrap (-(18446744073709551616 - (N : Int))) = (N : Int) := by unfold IntKind.wrap; simp [IntKind.bits, IntKind.signed]; omega
    have hcv := fun W => conv_dig (N % 10) (by omega) (48 + (N : Int) % 10) (by omega) W
    have HST : Hid (RD31 w N (.int .u64 N) (.string (digB (N % 10))) (w.alloc (.cells #[.int .u8 (48 + (N : Int) % 10)] 5))) := ⟨N, ⟨#[]⟩, Nat.le_refl _, rfl, by rw [show digB (N % 10) ++ ⟨#[]⟩ = digB (N % 10) from by apply ba_ext; simp], by apply ba_ext; simp, (Below.refl _ _).alloc (Nat.le_refl _) _⟩
    obtain ⟨R, eR⟩ : ∃ R, R = dec (-(N : Int)) := ⟨_, rfl⟩
    rw [← eR] at HDN ⊢
    clear hdn eR
    go_enter Tryd.func47, Tryd.ntmps47
    go_wp2_with fail
    go_loopw [3, 4] (fun u s wr => RD31 w N u s wr) (fun u _ _ => (intOf u).toNat)
    case atStart => exact HST.out
    case round =>
      clear HST
      obtain ⟨k, t, hk, rfl, rfl, heq, hbr⟩ := hrel
      have hts : t.size ≤ 22 := by
        have h1 := dec_len2 N hN
        rw [heq, ByteArray.size_append] at h1; omega
      have HE := Lib.hid heq
      clear heq
      by_cases h9 : 9 < k
      · have hj : (9 : Int) < (k : Int) := by omega
        have hq : IntKind.u64.wrap ((k : Int).tdiv 10) = ((k / 10 : Nat) : Int) := by rw [Int.tdiv_eq_ediv_of_nonneg (by omega), IntWalk.u64_in _ (by omega)]; omega
        have k00 : (0 : Int) ≤ (k : Int) := by omega
        have q00 : (0 : Int) ≤ ((k / 10 : Nat) : Int) := by omega
        have hcv := fun W => conv_dig (k / 10 % 10) (by omega) (48 + ((k / 10 : Nat) : Int) % 10) (by omega) W
        have KEY : Hid (∀ v : Int, RD31 w N (.int .u64 ((k / 10 : Nat) : Int)) (.string (digB (k / 10 % 10) ++ (digB (k % 10) ++ t))) (wr.alloc (.cells #[.int .u8 v] 5))) := fun v => ⟨k / 10, digB (k % 10) ++ t, by omega, rfl, rfl, by rw [HE.out, dec_big k h9]; apply ba_ext; simp only [ba_append, List.append_assoc], hbr.alloc hbr.size _⟩
        have z1 : (digB (k / 10 % 10)).size = 1 := rfl
        have z2 : (digB (k % 10)).size = 1 := rfl
        obtain ⟨q, eq⟩ : ∃ q, q = k / 10 := ⟨_, rfl⟩
        have hqk : q < k := by omega
        have hq2 : (k : Int) / 10 = (q : Int) := by omega
        have HQK := Lib.hid hqk
        rw [← eq] at hq hcv KEY z1 q00
        obtain ⟨d1, ed1⟩ : ∃ d1, d1 = digB (q % 10) := ⟨_, rfl⟩
        obtain ⟨d2, ed2⟩ : ∃ d2, d2 = digB (k % 10) := ⟨_, rfl⟩
        rw [← ed1] at hcv z1 KEY
        rw [← ed2] at z2 KEY ⊢
        clear hbr ed1 ed2 eq hqk
        go_wp2_with fail
        go_roundw
        case rel =>
          go_light
          have key := KEY.out (48 + (q : Int) % 10)
          first | exact key | ((repeat apply Exists.intro); exact ⟨key, rfl⟩)
        case measure => have := HQK.out; simp [intOf]; omega
      · have hj : ¬ ((9 : Int) < (k : Int)) := by omega
        have ed : dec (N : Int) = digB (k % 10) ++ t := by rw [HE.out, dec_small k (by omega), Nat.mod_eq_of_lt (by omega)]
        have z2 : (digB (k % 10)).size = 1 := rfl
        have ED := Lib.hid ed
        have HB := Lib.hid hbr
        obtain ⟨d2, ed2⟩ : ∃ d2, d2 = digB (k % 10) := ⟨_, rfl⟩
        rw [← ed2] at z2 ED ⊢
        clear hbr ed ed2 HE
        go_wp2_with fail
        go_ret
        refine ⟨?_, HB.out⟩
        rw [HDN.out, ED.out]; rfl
  · obtain ⟨N, rfl⟩ : ∃ N : Nat, n = (N : Int) := ⟨n.toNat, by omega⟩
    have hN : N ≤ 9223372036854775808 := by omega
    have hcv := fun W => conv_dig (N % 10) (by omega) (48 + (N : Int) % 10) (by omega) W
    have HST : Hid (RD31 w N (.int .u64 N) (.string (digB (N % 10))) (w.alloc (.cells #[.int .u8 (48 + (N : Int) % 10)] 5))) := ⟨N, ⟨#[]⟩, Nat.le_refl _, rfl, by rw [show digB (N % 10) ++ ⟨#[]⟩ = digB (N % 10) from by apply ba_ext; simp], by apply ba_ext; simp, (Below.refl _ _).alloc (Nat.le_refl _) _⟩
    obtain ⟨R, eR⟩ : ∃ R, R = dec (N : Int) := ⟨_, rfl⟩
    have HDN := Lib.hid eR
    rw [← eR]
    clear eR
    go_enter Tryd.func47, Tryd.ntmps47
    go_wp2_with fail
    go_loopw [3, 4] (fun u s wr => RD31 w N u s wr) (fun u _ _ => (intOf u).toNat)
    case atStart => exact HST.out
    case round =>
      clear HST
      obtain ⟨k, t, hk, rfl, rfl, heq, hbr⟩ := hrel
      have hts : t.size ≤ 22 := by
        have h1 := dec_len2 N hN
        rw [heq, ByteArray.size_append] at h1; omega
      have HE := Lib.hid heq
      clear heq
      by_cases h9 : 9 < k
      · have hj : (9 : Int) < (k : Int) := by omega
        have hq : IntKind.u64.wrap ((k : Int).tdiv 10) = ((k / 10 : Nat) : Int) := by rw [Int.tdiv_eq_ediv_of_nonneg (by omega), IntWalk.u64_in _ (by omega)]; omega
        have k00 : (0 : Int) ≤ (k : Int) := by omega
        have q00 : (0 : Int) ≤ ((k / 10 : Nat) : Int) := by omega
        have hcv := fun W => conv_dig (k / 10 % 10) (by omega) (48 + ((k / 10 : Nat) : Int) % 10) (by omega) W
        have KEY : Hid (∀ v : Int, RD31 w N (.int .u64 ((k / 10 : Nat) : Int)) (.string (digB (k / 10 % 10) ++ (digB (k % 10) ++ t))) (wr.alloc (.cells #[.int .u8 v] 5))) := fun v => ⟨k / 10, digB (k % 10) ++ t, by omega, rfl, rfl, by rw [HE.out, dec_big k h9]; apply ba_ext; simp only [ba_append, List.append_assoc], hbr.alloc hbr.size _⟩
        have z1 : (digB (k / 10 % 10)).size = 1 := rfl
        have z2 : (digB (k % 10)).size = 1 := rfl
        obtain ⟨q, eq⟩ : ∃ q, q = k / 10 := ⟨_, rfl⟩
        have hqk : q < k := by omega
        have hq2 : (k : Int) / 10 = (q : Int) := by omega
        have HQK := Lib.hid hqk
        rw [← eq] at hq hcv KEY z1 q00
        obtain ⟨d1, ed1⟩ : ∃ d1, d1 = digB (q % 10) := ⟨_, rfl⟩
        obtain ⟨d2, ed2⟩ : ∃ d2, d2 = digB (k % 10) := ⟨_, rfl⟩
        rw [← ed1] at hcv z1 KEY
        rw [← ed2] at z2 KEY ⊢
        clear hbr ed1 ed2 eq hqk
        go_wp2_with fail
        go_roundw
        case rel =>
          go_light
          have key := KEY.out (48 + (q : Int) % 10)
          first | exact key | ((repeat apply Exists.intro); exact ⟨key, rfl⟩)
        case measure => have := HQK.out; simp [intOf]; omega
      · have hj : ¬ ((9 : Int) < (k : Int)) := by omega
        have ed : dec (N : Int) = digB (k % 10) ++ t := by rw [HE.out, dec_small k (by omega), Nat.mod_eq_of_lt (by omega)]
        have z2 : (digB (k % 10)).size = 1 := rfl
        have ED := Lib.hid ed
        have HB := Lib.hid hbr
        obtain ⟨d2, ed2⟩ : ∃ d2, d2 = digB (k % 10) := ⟨_, rfl⟩
        rw [← ed2] at z2 ED ⊢
        clear hbr ed ed2 HE
        go_wp2_with fail
        go_ret
        refine ⟨?_, HB.out⟩
        rw [HDN.out, ED.out]; rfl
end Go.Proofs.YtaaenobckipfkaaDoor

namespace Go.Proofs.YtaaenobckipfkaaDoor
open Go.RowKit Go.Blk Go.Opn

theorem txE_cat (e : E31) : txE e = (⟨#[101, 110, 116, 114, 121, 32]⟩ : ByteArray) ++ dec e.house ++ ⟨#[32]⟩ ++ dec e.seq ++ ⟨#[32]⟩ ++ dec e.day ++ ⟨#[32]⟩ ++ dec (e.prev.size : Int) ++ ⟨#[32]⟩ ++ e.prev ++ e.body := by
  apply ba_ext
  show txL e = _
  rw [txL_eq]
  simp only [ba_append, dec_tl, List.append_assoc, List.cons_append, List.nil_append]
set_option maxRecDepth 100000 in
set_option maxHeartbeats 2000000 in
theorem rtext_any (e0 : E31) (w : World) (ho : e0.Ok) (hp : e0.prev.size ≤ 1000000000) (hb : e0.body.size ≤ 1000000000) :
    Calls Tryd.prog 29 #[.agg (encE e0).toArray] w fun e w' => e = .returned (.string (txE e0)) ∧ Below w.heap.size w w' := by
  have B0 := (Blk.new w (encE e0) 37)
  have c0 := B0.cellD 0 _ rfl
  have c1 := B0.cellD 1 _ rfl
  have c2 := B0.cellD 2 _ rfl
  have c3 := B0.cellD 3 _ rfl
  have c4 := B0.cellD 4 _ rfl
  have hbw := (Below.refl w.heap.size w).alloc (Nat.le_refl _) (.cells (encE e0).toArray 37)
  have HB := Lib.hid hbw
  have C1 := Lib.hid (fun w => rdec31_any e0.house w ho.h0 ho.h1)
  have C2 := Lib.hid (fun w => rdec31_any e0.seq w ho.q0 ho.q1)
  have C3 := Lib.hid (fun w => rdec31_any e0.day w ho.d0 ho.d1)
  have C4 := Lib.hid (fun w => rdec31_any (e0.prev.size : Int) w (by omega) (by omega))
  have s1 := dec_size e0.house ho.h0 ho.h1
  have s2 := dec_size e0.seq ho.q0 ho.q1
  have s3 := dec_size e0.day ho.d0 ho.d1
  have s4 := dec_size (e0.prev.size : Int) (by omega) (by omega)
  have HC := Lib.hid (txE_cat e0)
  obtain ⟨R, eR⟩ : ∃ R, R = txE e0 := ⟨_, rfl⟩
  rw [← eR] at HC ⊢
  obtain ⟨xh, xq, xd, xp, xb, xr, xs⟩ := e0
  dsimp only at hp hb s1 s2 s3 s4
  obtain ⟨t1, et1⟩ : ∃ t1, t1 = dec xh := ⟨_, rfl⟩
  obtain ⟨t2, et2⟩ : ∃ t2, t2 = dec xq := ⟨_, rfl⟩
  obtain ⟨t3, et3⟩ : ∃ t3, t3 = dec xd := ⟨_, rfl⟩
  obtain ⟨t4, et4⟩ : ∃ t4, t4 = dec (xp.size : Int) := ⟨_, rfl⟩
  dsimp only at C1 C2 C3 C4 HC
  rw [← et1] at s1 HC
  simp only [← et1] at C1
  rw [← et2] at s2 HC
  simp only [← et2] at C2
  rw [← et3] at s3 HC
  simp only [← et3] at C3
  rw [← et4] at s4 HC
  simp only [← et4] at C4
  clear ho B0 hbw et1 et2 et3 et4 eR
  have z1 : ¬ 9223372036854775807 < 6 + t1.size := by omega
  have z2 : ¬ 9223372036854775807 < 6 + t1.size + 1 := by omega
  have z3 : ¬ 9223372036854775807 < 6 + t1.size + 1 + t2.size := by omega
  have z4 : ¬ 9223372036854775807 < 6 + t1.size + 1 + t2.size + 1 := by omega
  have z5 : ¬ 9223372036854775807 < 6 + t1.size + 1 + t2.size + 1 + t3.size := by omega
  have z6 : ¬ 9223372036854775807 < 6 + t1.size + 1 + t2.size + 1 + t3.size + 1 := by omega
  have z7 : ¬ 9223372036854775807 < 6 + t1.size + 1 + t2.size + 1 + t3.size + 1 + t4.size := by omega
  have z8 : ¬ 9223372036854775807 < 6 + t1.size + 1 + t2.size + 1 + t3.size + 1 + t4.size + 1 := by omega
  have z9 : ¬ 9223372036854775807 < 6 + t1.size + 1 + t2.size + 1 + t3.size + 1 + t4.size + 1 + xp.size := by omega
  have z10 : ¬ 9223372036854775807 < 6 + t1.size + 1 + t2.size + 1 + t3.size + 1 + t4.size + 1 + xp.size + xb.size := by omega
  go_enter Tryd.func29, Tryd.ntmps29
  go_wp2_with fail
  refine Free.wp_region_free 27 [(2, .det (.string t1)), (7, .det (.string t2)), (12, .det (.string t3)), (18, .det (.string t4))] (fun w2 => w2.cell? ⟨w.heap.size, 0, none⟩ = some (.int .i64 xh) ∧ w2.cell? ⟨w.heap.size, 1, none⟩ = some (.int .i64 xq) ∧ w2.cell? ⟨w.heap.size, 2, none⟩ = some (.int .i64 xd) ∧ w2.cell? ⟨w.heap.size, 3, none⟩ = some (.string xp) ∧ w2.cell? ⟨w.heap.size, 4, none⟩ = some (.string xb)) (by kernel_rfl) (by kernel_rfl) ?_ ⟨c0, c1, c2, c3, c4⟩ (fun _ _ h g => ⟨grow_cell h.1 g, grow_cell h.2.1 g, grow_cell h.2.2.1 g, grow_cell h.2.2.2.1 g, grow_cell h.2.2.2.2 g⟩) ?_
  · intro j mk r hf
    simp only [Free.find] at hf
    repeat' split at hf
    all_goals (first | cases hf | skip)
  simp only [List.take_succ_cons, List.take_zero]
  clear c0 c1 c2 c3 c4
  iterate 2 (apply Free.chain_still (by first | exact Free.wanted_of rfl rfl rfl | rfl) rfl; (intro w' hB hA; obtain ⟨q0, q1, q2, q3, q4⟩ := hB; clear hA ; go_light; go_simp <;> rfl); (try simp only [Act.put, List.setIfInBounds_toArray, List.set_cons_succ, List.set_cons_zero]))
  apply Free.chain_det rfl rfl
  · intro w' hB hA
    refine Free.opRun_call (f := 47) (args := #[.int .i64 xh]) (by clear hB hA; go_simp <;> rfl) ?_
    refine (C1.out w').mono ?_
    rintro e w3 ⟨rfl, hb3⟩
    exact ⟨_, rfl, hb3, rfl⟩
  simp only [Act.put, List.setIfInBounds_toArray, List.set_cons_succ, List.set_cons_zero]
  iterate 4 (apply Free.chain_still (by first | exact Free.wanted_of rfl rfl rfl | rfl) rfl; (intro w' hB hA; obtain ⟨q0, q1, q2, q3, q4⟩ := hB; clear hA ; go_light; go_simp <;> rfl); (try simp only [Act.put, List.setIfInBounds_toArray, List.set_cons_succ, List.set_cons_zero]))
  apply Free.chain_det rfl rfl
  · intro w' hB hA
    refine Free.opRun_call (f := 47) (args := #[.int .i64 xq]) (by clear hB hA; go_simp <;> rfl) ?_
    refine (C2.out w').mono ?_
    rintro e w3 ⟨rfl, hb3⟩
    exact ⟨_, rfl, hb3, rfl⟩
  simp only [Act.put, List.setIfInBounds_toArray, List.set_cons_succ, List.set_cons_zero]
  iterate 4 (apply Free.chain_still (by first | exact Free.wanted_of rfl rfl rfl | rfl) rfl; (intro w' hB hA; obtain ⟨q0, q1, q2, q3, q4⟩ := hB; clear hA ; go_light; go_simp <;> rfl); (try simp only [Act.put, List.setIfInBounds_toArray, List.set_cons_succ, List.set_cons_zero]))
  apply Free.chain_det rfl rfl
  · intro w' hB hA
    refine Free.opRun_call (f := 47) (args := #[.int .i64 xd]) (by clear hB hA; go_simp <;> rfl) ?_
    refine (C3.out w').mono ?_
    rintro e w3 ⟨rfl, hb3⟩
    exact ⟨_, rfl, hb3, rfl⟩
  simp only [Act.put, List.setIfInBounds_toArray, List.set_cons_succ, List.set_cons_zero]
  iterate 5 (apply Free.chain_still (by first | exact Free.wanted_of rfl rfl rfl | rfl) rfl; (intro w' hB hA; obtain ⟨q0, q1, q2, q3, q4⟩ := hB; clear hA ; go_light; go_simp <;> rfl); (try simp only [Act.put, List.setIfInBounds_toArray, List.set_cons_succ, List.set_cons_zero]))
  apply Free.chain_det rfl rfl
  · intro w' hB hA
    refine Free.opRun_call (f := 47) (args := #[.int .i64 (xp.size : Int)]) (by clear hB hA; go_simp <;> rfl) ?_
    refine (C4.out w').mono ?_
    rintro e w3 ⟨rfl, hb3⟩
    exact ⟨_, rfl, hb3, rfl⟩
  simp only [Act.put, List.setIfInBounds_toArray, List.set_cons_succ, List.set_cons_zero]
  iterate 8 (apply Free.chain_still (by first | exact Free.wanted_of rfl rfl rfl | rfl) rfl; (intro w' hB hA; obtain ⟨q0, q1, q2, q3, q4⟩ := hB; clear hA ; go_light; go_simp <;> rfl); (try simp only [Act.put, List.setIfInBounds_toArray, List.set_cons_succ, List.set_cons_zero]))
  apply Free.chain_nil
  intro wz _ hg _
  simp only [List.drop_succ_cons, List.drop_zero]
  have hz := grow_drew2 hg
  have FIN := Lib.hid (HB.out.trans (hz.mono (by simp)))
  clear hg hz HB C1 C2 C3 C4
  go_wp2
  go_ret
  exact ⟨by rw [HC.out]; rfl, FIN.out⟩
end Go.Proofs.YtaaenobckipfkaaDoor

namespace Go.Proofs.YtaaenobckipfkaaDoor
open Go.RowKit Go.Blk Go.Opn

set_option maxRecDepth 100000 in
set_option maxHeartbeats 2000000 in
theorem rdig_any (e0 : E31) (w : World) (ho : e0.Ok) (hp : e0.prev.size ≤ 1000000) (hb : e0.body.size ≤ 1000000) :
    Calls Tryd.prog 22 #[.agg (encE e0).toArray] w fun e w' => e = .returned (.string (dig e0)) ∧ Below w.heap.size w w' := by
  have B0 := (Blk.new w (encE e0) 37)
  have c0 := B0.cellD 0 _ rfl
  have c1 := B0.cellD 1 _ rfl
  have c2 := B0.cellD 2 _ rfl
  have c3 := B0.cellD 3 _ rfl
  have c4 := B0.cellD 4 _ rfl
  have c5 := B0.cellD 5 _ rfl
  have c6 := B0.cellD 6 _ rfl
  have C1 := Lib.hid (fun w => rtext_any e0 w ho (by omega) (by omega))
  have C2 := Lib.hid (fun w => rdec31_any e0.r w ho.r0 ho.r1)
  have C3 := Lib.hid (fun w => rdec31_any e0.s w ho.s0 ho.s1)
  have hs := txS_size ho
  have C4 := Lib.hid (fun w => refsum_any (txS e0) w (by omega))
  have ED : Hid (dig e0 = sumB KC (txS e0)) := rfl
  obtain ⟨dg, edg⟩ : ∃ dg, dg = dig e0 := ⟨_, rfl⟩
  rw [← edg]
  rw [← ED.out, ← edg] at C4
  unfold txS at C4
  obtain ⟨tt, ett⟩ : ∃ tt, tt = txE e0 := ⟨_, rfl⟩
  rw [← ett] at C1 C4
  obtain ⟨xh, xq, xd, xp, xb, xr, xs⟩ := e0
  have hbw := (Below.refl w.heap.size w).alloc (Nat.le_refl _) (.cells (encE ⟨xh, xq, xd, xp, xb, xr, xs⟩).toArray 37)
  have HB := Lib.hid hbw
  have htt : tt.size ≤ 3000000000 := by have := txE_size ho; rw [ett]; simp only at this hp hb; omega
  have hdr := dec_size xr ho.r0 ho.r1
  have hds := dec_size xs ho.s0 ho.s1
  have z1 : ¬ 9223372036854775807 < tt.size + 1 := by omega
  have z2 : ¬ 9223372036854775807 < tt.size + 1 + (dec xr).size := by omega
  have z3 : ¬ 9223372036854775807 < tt.size + 1 + (dec xr).size + 1 := by omega
  have z4 : ¬ 9223372036854775807 < tt.size + 1 + (dec xr).size + 1 + (dec xs).size := by omega
  clear ho hp hb hs ED edg ett B0 hbw
  go_enter Tryd.func22, Tryd.ntmps22
  go_wp2_with fail
  refine Free.wp_region_free 15 [(1, .det (.string tt)), (6, .det (.string (dec xr))), (12, .det (.string (dec xs))), (14, .det (.string dg))] (fun w2 => w2.cell? ⟨w.heap.size, 0, none⟩ = some (.int .i64 xh) ∧ w2.cell? ⟨w.heap.size, 1, none⟩ = some (.int .i64 xq) ∧ w2.cell? ⟨w.heap.size, 2, none⟩ = some (.int .i64 xd) ∧ w2.cell? ⟨w.heap.size, 3, none⟩ = some (.string xp) ∧ w2.cell? ⟨w.heap.size, 4, none⟩ = some (.string xb) ∧ w2.cell? ⟨w.heap.size, 5, none⟩ = some (.int .i64 xr) ∧ w2.cell? ⟨w.heap.size, 6, none⟩ = some (.int .i64 xs)) (by kernel_rfl) (by kernel_rfl) ?_ ⟨c0, c1, c2, c3, c4, c5, c6⟩ (fun _ _ h g => ⟨grow_cell h.1 g, grow_cell h.2.1 g, grow_cell h.2.2.1 g, grow_cell h.2.2.2.1 g, grow_cell h.2.2.2.2.1 g, grow_cell h.2.2.2.2.2.1 g, grow_cell h.2.2.2.2.2.2 g⟩) ?_
  · intro j mk r hf
    simp only [Free.find] at hf
    repeat' split at hf
    all_goals (first | cases hf | skip)
  simp only [List.take_succ_cons, List.take_zero]
  clear c0 c1 c2 c3 c4 c5 c6
  iterate 1 (apply Free.chain_still (by first | exact Free.wanted_of rfl rfl rfl | rfl) rfl; (intro w' hB hA; obtain ⟨q0, q1, q2, q3, q4, q5, q6⟩ := hB; clear hA ; go_light; go_simp <;> rfl); (try simp only [Act.put, List.setIfInBounds_toArray, List.set_cons_succ, List.set_cons_zero]))
  apply Free.chain_det rfl rfl
  · intro w' hB hA
    refine Free.opRun_call (f := 29) (args := #[.agg (encE ⟨xh, xq, xd, xp, xb, xr, xs⟩).toArray]) (by clear hB hA; go_simp <;> rfl) ?_
    refine (C1.out w').mono ?_
    rintro e w3 ⟨rfl, hb3⟩
    exact ⟨_, rfl, hb3, rfl⟩
  simp only [Act.put, List.setIfInBounds_toArray, List.set_cons_succ, List.set_cons_zero]
  iterate 4 (apply Free.chain_still (by first | exact Free.wanted_of rfl rfl rfl | rfl) rfl; (intro w' hB hA; obtain ⟨q0, q1, q2, q3, q4, q5, q6⟩ := hB; clear hA ; go_light; go_simp <;> rfl); (try simp only [Act.put, List.setIfInBounds_toArray, List.set_cons_succ, List.set_cons_zero]))
  apply Free.chain_det rfl rfl
  · intro w' hB hA
    refine Free.opRun_call (f := 47) (args := #[.int .i64 xr]) (by clear hB hA; go_simp <;> rfl) ?_
    refine (C2.out w').mono ?_
    rintro e w3 ⟨rfl, hb3⟩
    exact ⟨_, rfl, hb3, rfl⟩
  simp only [Act.put, List.setIfInBounds_toArray, List.set_cons_succ, List.set_cons_zero]
  iterate 5 (apply Free.chain_still (by first | exact Free.wanted_of rfl rfl rfl | rfl) rfl; (intro w' hB hA; obtain ⟨q0, q1, q2, q3, q4, q5, q6⟩ := hB; clear hA ; go_light; go_simp <;> rfl); (try simp only [Act.put, List.setIfInBounds_toArray, List.set_cons_succ, List.set_cons_zero]))
  apply Free.chain_det rfl rfl
  · intro w' hB hA
    refine Free.opRun_call (f := 47) (args := #[.int .i64 xs]) (by clear hB hA; go_simp <;> rfl) ?_
    refine (C3.out w').mono ?_
    rintro e w3 ⟨rfl, hb3⟩
    exact ⟨_, rfl, hb3, rfl⟩
  simp only [Act.put, List.setIfInBounds_toArray, List.set_cons_succ, List.set_cons_zero]
  iterate 1 (apply Free.chain_still (by first | exact Free.wanted_of rfl rfl rfl | rfl) rfl; (intro w' hB hA; obtain ⟨q0, q1, q2, q3, q4, q5, q6⟩ := hB; clear hA ; go_light; go_simp <;> rfl); (try simp only [Act.put, List.setIfInBounds_toArray, List.set_cons_succ, List.set_cons_zero]))
  apply Free.chain_det rfl rfl
  · intro w' hB hA
    refine Free.opRun_call (f := 46) (args := #[.string (tt ++ ⟨#[32]⟩ ++ dec xr ++ ⟨#[32]⟩ ++ dec xs)]) (by clear hB hA; go_simp <;> rfl) ?_
    refine (C4.out w').mono ?_
    rintro e w3 ⟨rfl, hb3⟩
    exact ⟨_, rfl, hb3, rfl⟩
  simp only [Act.put, List.setIfInBounds_toArray, List.set_cons_succ, List.set_cons_zero]
  apply Free.chain_nil
  intro wz _ hg _
  simp only [List.drop_succ_cons, List.drop_zero]
  have hz := grow_drew2 hg
  have FIN := Lib.hid (HB.out.trans (hz.mono (by simp)))
  clear hg hz HB C1 C2 C3 C4
  go_wp2
  go_ret
  exact ⟨rfl, FIN.out⟩
theorem few_small {l : List E31} {n : Nat} (h : fewB l n = true) : ∀ e ∈ l, e.prev.size ≤ 100 ∧ e.body.size ≤ 2100 := by
  unfold fewB at h
  rw [Bool.and_eq_true, List.all_eq_true] at h
  intro e he
  have := h.2 e he
  unfold smallE at this
  rw [Bool.and_eq_true, decide_eq_true_iff, decide_eq_true_iff] at this
  exact this
end Go.Proofs.YtaaenobckipfkaaDoor

namespace Go.Proofs.YtaaenobckipfkaaDoor
open Go.RowKit Go.Blk Go.Opn

def SmallE (e : E31) : Prop := e.Ok ∧ e.prev.size ≤ 1000000 ∧ e.body.size ≤ 1000000
set_option maxRecDepth 100000 in
set_option maxHeartbeats 2000000 in
theorem rsgn_any (e0 : E31) (pub : Int) (w : World) (hs : SmallE e0) :
    Calls Tryd.prog 51 #[.agg (encE e0).toArray, .int .i64 pub] w fun e w' => e = .returned (.bool (sgnB e0 pub)) ∧ Below w.heap.size w w' := by
  obtain ⟨ho, hp, hb⟩ := hs
  have B0 := (Blk.new w (encE e0) 37)
  have c0 := B0.cellD 0 _ rfl
  have c1 := B0.cellD 1 _ rfl
  have c2 := B0.cellD 2 _ rfl
  have c3 := B0.cellD 3 _ rfl
  have c4 := B0.cellD 4 _ rfl
  have c5 := B0.cellD 5 _ rfl
  have c6 := B0.cellD 6 _ rfl
  have C1 := Lib.hid (fun w => rtext_any e0 w ho (by omega) (by omega))
  have htx := txE_size ho
  obtain ⟨tt, ett⟩ : ∃ tt, tt = txE e0 := ⟨_, rfl⟩
  have C2 := Lib.hid (fun w => rver_any pub tt e0.r e0.s w (by rw [ett]; omega))
  have hs : sgnB e0 pub = verB pub tt e0.r e0.s := by unfold sgnB; rw [ett]
  rw [hs]
  obtain ⟨vb, evb⟩ : ∃ vb, vb = verB pub tt e0.r e0.s := ⟨_, rfl⟩
  rw [← evb] at C2 ⊢
  rw [← ett] at C1
  obtain ⟨xh, xq, xd, xp, xb, xr, xs⟩ := e0
  have hbw := (Below.refl w.heap.size w).alloc (Nat.le_refl _) (.cells (encE ⟨xh, xq, xd, xp, xb, xr, xs⟩).toArray 37)
  have HB := Lib.hid hbw
  clear ho hp hb hs evb ett B0 hbw htx
  go_enter Tryd.func51, Tryd.ntmps51
  go_wp2_with fail
  refine Free.wp_region_free 6 [(2, .det (.string tt)), (5, .det (.bool vb))] (fun w2 => w2.cell? ⟨w.heap.size, 0, none⟩ = some (.int .i64 xh) ∧ w2.cell? ⟨w.heap.size, 1, none⟩ = some (.int .i64 xq) ∧ w2.cell? ⟨w.heap.size, 2, none⟩ = some (.int .i64 xd) ∧ w2.cell? ⟨w.heap.size, 3, none⟩ = some (.string xp) ∧ w2.cell? ⟨w.heap.size, 4, none⟩ = some (.string xb) ∧ w2.cell? ⟨w.heap.size, 5, none⟩ = some (.int .i64 xr) ∧ w2.cell? ⟨w.heap.size, 6, none⟩ = some (.int .i64 xs)) (by kernel_rfl) (by kernel_rfl) ?_ ⟨c0, c1, c2, c3, c4, c5, c6⟩ (fun _ _ h g => ⟨grow_cell h.1 g, grow_cell h.2.1 g, grow_cell h.2.2.1 g, grow_cell h.2.2.2.1 g, grow_cell h.2.2.2.2.1 g, grow_cell h.2.2.2.2.2.1 g, grow_cell h.2.2.2.2.2.2 g⟩) ?_
  · intro j mk r hf
    simp only [Free.find] at hf
    repeat' split at hf
    all_goals (first | cases hf | skip)
  simp only [List.take_succ_cons, List.take_zero]
  clear c0 c1 c2 c3 c4 c5 c6
  iterate 2 (apply Free.chain_still (by first | exact Free.wanted_of rfl rfl rfl | rfl) rfl; (intro w' hB hA; obtain ⟨q0, q1, q2, q3, q4, q5, q6⟩ := hB; clear hA ; go_light; go_simp <;> rfl); (try simp only [Act.put, List.setIfInBounds_toArray, List.set_cons_succ, List.set_cons_zero]))
  apply Free.chain_det rfl rfl
  · intro w' hB hA
    refine Free.opRun_call (f := 29) (args := #[.agg (encE ⟨xh, xq, xd, xp, xb, xr, xs⟩).toArray]) (by clear hB hA; go_simp <;> rfl) ?_
    refine (C1.out w').mono ?_
    rintro e w3 ⟨rfl, hb3⟩
    exact ⟨_, rfl, hb3, rfl⟩
  simp only [Act.put, List.setIfInBounds_toArray, List.set_cons_succ, List.set_cons_zero]
  iterate 2 (apply Free.chain_still (by first | exact Free.wanted_of rfl rfl rfl | rfl) rfl; (intro w' hB hA; obtain ⟨q0, q1, q2, q3, q4, q5, q6⟩ := hB; clear hA ; go_light; go_simp <;> rfl); (try simp only [Act.put, List.setIfInBounds_toArray, List.set_cons_succ, List.set_cons_zero]))
  apply Free.chain_det rfl rfl
  · intro w' hB hA
    refine Free.opRun_call (f := 71) (args := #[.int .i64 pub, .string tt, .agg #[.int .i64 xr, .int .i64 xs]]) (by clear hB hA; go_simp <;> rfl) ?_
    refine (C2.out w').mono ?_
    rintro e w3 ⟨rfl, hb3⟩
    exact ⟨_, rfl, hb3, rfl⟩
  simp only [Act.put, List.setIfInBounds_toArray, List.set_cons_succ, List.set_cons_zero]
  apply Free.chain_nil
  intro wz _ hg _
  simp only [List.drop_succ_cons, List.drop_zero]
  have hz := grow_drew2 hg
  have FIN := Lib.hid (HB.out.trans (hz.mono (by simp)))
  clear hg hz HB C1 C2
  go_wp2
  go_ret
  exact ⟨rfl, FIN.out⟩
theorem chk1_lim {l : List E31} {i : Nat} {e : E31} {house pub : Int} (h : 2000 < e.body.size) : chk1 l i e house pub = 3 := by
  have : misp (l.take i) e house = 3 := by
    unfold misp limB
    rw [decide_eq_false (p := ((e.body.size : Int) ≤ 2000)) (by omega), Bool.and_false]; rfl
  unfold chk1; rw [this]; rfl
theorem chk1_arg {l : List E31} {i : Nat} {e : E31} {house pub : Int} (hi : i < l.length) (h4 : i < 4000) (h : e.body.size ≤ 2000) (ha : ¬ (e.house = house ∧ e.seq = (i : Int) ∧ 0 ≤ e.day ∧ e.day ≤ 2000)) : chk1 l i e house pub = 1 := by
  have hlen : (l.take i).length = i := by rw [List.length_take]; omega
  have : misp (l.take i) e house = 1 := by
    unfold misp
    have e1 : limB (l.take i).length e = true := by unfold limB; rw [hlen]; simp; omega
    have e2 : argB (l.take i).length e house = false := by
      cases hq : argB (l.take i).length e house with
      | false => rfl
      | true =>
        unfold argB at hq
        rw [hlen] at hq
        simp only [Bool.and_eq_true, beq_iff_eq, decide_eq_true_iff] at hq
        exact absurd ⟨hq.1, hq.2.1, hq.2.2.1, hq.2.2.2⟩ ha
    rw [e1, e2]; rfl
  unfold chk1; rw [this]; rfl
theorem misp_mid {l : List E31} {i : Nat} {e : E31} {house : Int} (hi : i < l.length) (h4 : i < 4000) (h : e.body.size ≤ 2000) (ha : e.house = house ∧ e.seq = (i : Int) ∧ 0 ≤ e.day ∧ e.day ≤ 2000) : misp (l.take i) e house = if ordB (l.take i) e then 0 else 15 := by
  have hlen : (l.take i).length = i := by rw [List.length_take]; omega
  unfold misp
  have e1 : limB (l.take i).length e = true := by unfold limB; rw [hlen]; simp; omega
  have e2 : argB (l.take i).length e house = true := by
    unfold argB
    rw [hlen]
    simp only [Bool.and_eq_true, beq_iff_eq, decide_eq_true_iff]
    exact ⟨ha.1, ha.2.1, ha.2.2.1, ha.2.2.2⟩
  rw [e1, e2]; rfl
end Go.Proofs.YtaaenobckipfkaaDoor

namespace Go.Proofs.YtaaenobckipfkaaDoor
open Go.RowKit Go.Blk Go.Opn

set_option maxRecDepth 100000 in
set_option maxHeartbeats 4000000 in
theorem wrong_any (A : Option Addr) (c : Nat) (l : List E31) (i : Nat) (x : E31) (house pub : Int) (w : World) (h : SL w 7 encE A l) (hx : l[i]? = some x) (h4 : i < 4000) (hs : ∀ e ∈ l, SmallE e) :
    Calls Tryd.prog 48 #[.slice A l.length c, .int .i64 i, .int .i64 house, .int .i64 pub] w fun e w' => e = .returned (.int .i64 (chk1 l i x house pub)) ∧ Below w.heap.size w w' := by
  have hlt : i < l.length := (List.getElem?_eq_some_iff.1 hx).1
  obtain ⟨bb, off, rfl, hc⟩ := h.at_ hx
  obtain ⟨R, eR⟩ : ∃ R, R = chk1 l i x house pub := ⟨_, rfl⟩
  rw [← eR]
  have ER := Lib.hid eR
  have hsx := hs x (List.mem_of_getElem? hx)
  have hbV : Below w.heap.size w (w.alloc (.cells (encE x).toArray 37)) := (Below.refl _ _).alloc (Nat.le_refl _) _
  have bk0 := Blk.new w (encE x) 37
  have i0 := hc 0 _ rfl
  have i1 := hc 1 _ rfl
  have i2 := hc 2 _ rfl
  have i3 := hc 3 _ rfl
  have i4 := hc 4 _ rfl
  have i5 := hc 5 _ rfl
  have i6 := hc 6 _ rfl
  simp only [← Nat.add_assoc, Nat.add_zero] at i0 i1 i2 i3 i4 i5 i6
  have HBV := Lib.hid hbV
  have k00 : (0 : Int) ≤ (i : Int) := by omega
  have hki : (i : Int) < (l.length : Int) := by omega
  have h40 : ¬ ((4000 : Int) ≤ (i : Int)) := by omega
  by_cases hbd : 2000 < x.body.size
  · have HR := Lib.hid (show R = 3 by rw [eR]; exact chk1_lim hbd)
    have hbi : (2000 : Int) < (x.body.size : Int) := by omega
    obtain ⟨xh, xq, xd, xp, xb, xr, xs⟩ := x
    dsimp only at hbi
    clear h hx hs hsx hc eR ER hbd hbV bk0
    go_enter Tryd.func48, Tryd.ntmps48
    go_wp2_with fail
    go_ret
    exact ⟨by rw [HR.out]; rfl, HBV.out⟩
  have hbi : ¬ ((2000 : Int) < (x.body.size : Int)) := by omega
  by_cases ha1 : x.house = house
  · by_cases ha2 : x.seq = (i : Int)
    · by_cases ha3 : x.day < 0
      · have HR := Lib.hid (show R = 1 by rw [eR]; exact chk1_arg hlt h4 (by omega) (fun h => by omega))
        obtain ⟨xh, xq, xd, xp, xb, xr, xs⟩ := x
        dsimp only at hbi ha1 ha2 ha3
        subst ha1 ha2
        clear h hx hs hsx hc eR ER hbd hbV bk0
        go_enter Tryd.func48, Tryd.ntmps48
        go_wp2_with fail
        go_ret
        exact ⟨by rw [HR.out]; rfl, HBV.out⟩
      · by_cases ha4 : 2000 < x.day
        · have HR := Lib.hid (show R = 1 by rw [eR]; exact chk1_arg hlt h4 (by omega) (fun h => by omega))
          obtain ⟨xh, xq, xd, xp, xb, xr, xs⟩ := x
          dsimp only at hbi ha1 ha2 ha3 ha4
          subst ha1 ha2
          clear h hx hs hsx hc eR ER hbd hbV bk0
          go_enter Tryd.func48, Tryd.ntmps48
          go_wp2_with fail
          go_ret
          exact ⟨by rw [HR.out]; rfl, HBV.out⟩
        · have hm := misp_mid (house := house) hlt h4 (by omega) ⟨ha1, ha2, by omega, by omega⟩
          have hR : R = if ordB (l.take i) x then (if (x.prev.toList == (prevE (l.take i)).toList) then (if sgnB x pub then 0 else 17) else 17) else 15 := by
            rw [eR]; unfold chk1; rw [hm]
            cases ordB (l.take i) x with
            | true => rfl
            | false => rfl
          obtain ⟨vb, evb⟩ : ∃ vb, vb = sgnB x pub := ⟨_, rfl⟩
          have C2 : Hid (∀ w', Calls Tryd.prog 51 #[.agg (encE x).toArray, .int .i64 pub] w' fun e w2 => e = .returned (.bool vb) ∧ Below w'.heap.size w' w2) := fun w' => by
            have := rsgn_any x pub w' hsx
            rw [← evb] at this; exact this
          rw [← evb] at hR
          by_cases hi0 : i = 0
          · subst hi0
            have hR2 : R = if (x.prev.toList == (⟨#[]⟩ : ByteArray).toList) then (if vb then 0 else 17) else 17 := hR
            rw [show (⟨#[]⟩ : ByteArray).toList = [] from tl_data _] at hR2
            have z0 : ((0 : Nat) : Int) = 0 := rfl
            rw [z0] at ha2 hki
            simp only [Nat.zero_mul, Nat.add_zero] at i0 i1 i2 i3 i4 i5 i6
            obtain ⟨xh, xq, xd, xp, xb, xr, xs⟩ := x
            dsimp only at hbi ha1 ha2 ha3 ha4 hR2
            subst ha1 ha2
            have HR2 := Lib.hid hR2
            clear h hx hs hsx hc eR ER hbd hbV bk0 hm hR evb hR2 z0 k00 h40 h4
            rw [show ((0 : Nat) : Int) = 0 from rfl]
            by_cases hp0 : xp.toList = []
            · have HR4 := Lib.hid (show R = if vb then 0 else 17 by rw [HR2.out, hp0]; rfl)
              clear HR2
              go_enter Tryd.func48, Tryd.ntmps48
              go_wp2_with fail
              refine (C2.out _).mono ?_
              rintro e w5 ⟨rfl, hb5⟩
              have HB5 := Lib.hid (HBV.out.trans (hb5.mono HBV.out.size))
              clear hb5
              cases vb with
              | true =>
                have HR := Lib.hid (show R = 0 by rw [HR4.out]; rfl)
                clear HR4
                go_wp2_with fail
                go_ret
                exact ⟨by rw [HR.out]; rfl, HB5.out⟩
              | false =>
                have HR := Lib.hid (show R = 17 by rw [HR4.out]; rfl)
                clear HR4
                go_wp2_with fail
                go_ret
                exact ⟨by rw [HR.out]; rfl, HB5.out⟩
            · have HR := Lib.hid (show R = 17 by rw [HR2.out, if_neg (by simpa using hp0)])
              clear HR2
              go_enter Tryd.func48, Tryd.ntmps48
              go_wp2_with fail
              go_ret
              exact ⟨by rw [HR.out]; rfl, HBV.out⟩
          · obtain ⟨j, ej⟩ : ∃ j, i = j + 1 := ⟨i - 1, by omega⟩
            subst ej
            obtain ⟨y, hy⟩ : ∃ y, l[j]? = some y := ⟨_, List.getElem?_eq_getElem (by omega)⟩
            have hlast : (l.take (j + 1)).getLast? = some y := by
              rw [List.getLast?_eq_getElem?, List.length_take, Nat.min_eq_left (by omega), List.getElem?_take, if_pos (by omega)]; exact hy
            have hord : ordB (l.take (j + 1)) x = decide (y.day ≤ x.day) := by unfold ordB; rw [hlast]
            have hprev : prevE (l.take (j + 1)) = dig y := by unfold prevE; rw [hlast]
            rw [hord, hprev] at hR
            have hsy := hs y (List.mem_of_getElem? hy)
            obtain ⟨pv, epv⟩ : ∃ pv, pv = dig y := ⟨_, rfl⟩
            have C1 : Hid (∀ w', Calls Tryd.prog 22 #[.agg (encE y).toArray] w' fun e w2 => e = .returned (.string pv) ∧ Below w'.heap.size w' w2) := fun w' => by
              have := rdig_any y w' hsy.1 hsy.2.1 hsy.2.2
              rw [← epv] at this; exact this
            rw [← epv] at hR
            have CYF : Hid (∀ w', Below w.heap.size w w' → ∀ p u, (encE y)[p]? = some u → w'.cell? ⟨bb, off + j * 7 + p, none⟩ = some u) := fun w' hb p u hu => by
              obtain ⟨_, _, e1, h1⟩ := (h.below hb (Nat.le_refl _)).at_ hy
              cases e1
              rw [Nat.add_assoc]; exact h1 p u hu
            have hcast : (((j + 1 : Nat)) : Int) = (j : Int) + 1 := by omega
            rw [hcast] at ha2 hki k00 h40 ⊢
            have hsub : (j : Int) + 1 - 1 = (j : Int) := by omega
            have hwj : IntKind.i64.wrap (j : Int) = (j : Int) := IntWalk.i64_in _ (by omega)
            have j00 : (0 : Int) ≤ (j : Int) := by omega
            have hjl : (j : Int) < (l.length : Int) := by omega
            have hj1 : (0 : Int) < (j : Int) + 1 := by omega
            have htn : ((j : Int) + 1).toNat = j + 1 := by omega
            have q2 := CYF.out _ hbV 2 _ rfl
            have bkk := Lib.hid bk0
            have HR2 := Lib.hid hR
            obtain ⟨xh, xq, xd, xp, xb, xr, xs⟩ := x
            dsimp only at hbi ha1 ha2 ha3 ha4 HR2
            subst ha1 ha2
            have d2 := bkk.out.cellD 2 _ rfl
            clear h hx hs hsx hc eR ER hbd hbV bk0 hm hR evb hlast hord hprev hsy epv hcast hy h4 hi0
            go_enter Tryd.func48, Tryd.ntmps48
            go_wp2_with fail
            refine Free.wp_region_free 9 [] (fun w2 => w2.cell? ⟨w.heap.size, 2, none⟩ = some (.int .i64 xd) ∧ w2.cell? ⟨bb, off + j * 7 + 2, none⟩ = some (.int .i64 y.day)) (by kernel_rfl) (by kernel_rfl) ?_ ⟨d2, q2⟩ (fun _ _ h g => ⟨grow_cell h.1 g, grow_cell h.2 g⟩) ?_
            · intro j mk r hf
              simp only [Free.find] at hf
              cases hf
            simp only [List.take_succ_cons, List.take_zero]
            clear d2 q2 i0 i1 i2 i3 i4 i5 i6
            iterate 9 (apply Free.chain_still (by first | exact Free.wanted_of rfl rfl rfl | rfl) rfl; (intro w' hB hA; obtain ⟨q0, q1⟩ := hB; clear hA ; go_light; go_simp <;> rfl); (try simp only [Act.put, List.setIfInBounds_toArray, List.set_cons_succ, List.set_cons_zero]))
            apply Free.chain_nil
            intro w3 _ hg _
            simp only [List.drop_succ_cons, List.drop_zero]
            have hz := grow_drew2 hg
            have HB3 := Lib.hid (HBV.out.trans (hz.mono HBV.out.size))
            have bk3 := Lib.hid (bkk.out.below hz bkk.out.lt)
            clear hg hz HBV bkk
            by_cases hdd : xd < y.day
            · have HR := Lib.hid (show R = 15 by rw [HR2.out, decide_eq_false (by omega)]; rfl)
              clear HR2
              go_wp2_with fail
              go_ret
              exact ⟨by rw [HR.out]; rfl, HB3.out⟩
            · have HR3 := Lib.hid (show R = if (xp.toList == pv.toList) then (if vb then 0 else 17) else 17 by rw [HR2.out, decide_eq_true (by omega), if_pos rfl])
              have hcl := CYF.out _ HB3.out
              obtain ⟨yh, yq, yd, yp, yb, yr, ys⟩ := y
              have p0 := hcl 0 _ rfl
              have p1 := hcl 1 _ rfl
              have p2 := hcl 2 _ rfl
              have p3 := hcl 3 _ rfl
              have p4 := hcl 4 _ rfl
              have p5 := hcl 5 _ rfl
              have p6 := hcl 6 _ rfl
              simp only [Nat.add_zero] at p0 p1 p2 p3 p4 p5 p6
              dsimp only at hdd
              clear HR2 hcl CYF
              go_wp2_with fail
              refine (C1.out _).mono ?_
              rintro e w4 ⟨rfl, hb4⟩
              have HB4 := Lib.hid (HB3.out.trans (hb4.mono HB3.out.size))
              have bk : Hid (Blk w4 w.heap.size [.int .i64 xh, .int .i64 ((j : Int) + 1), .int .i64 xd, .string xp, .string xb, .int .i64 xr, .int .i64 xs] 37) := bk3.out.below hb4 bk3.out.lt
              clear hb4 HB3 bk3 p0 p1 p2 p3 p4 p5 p6 C1
              have c0 := bk.out.cellD 0 _ rfl
              have c1 := bk.out.cellD 1 _ rfl
              have c2 := bk.out.cellD 2 _ rfl
              have c3 := bk.out.cellD 3 _ rfl
              have c4 := bk.out.cellD 4 _ rfl
              have c5 := bk.out.cellD 5 _ rfl
              have c6 := bk.out.cellD 6 _ rfl
              cases hpp : (xp.toList == pv.toList) with
              | false =>
                have HR := Lib.hid (show R = 17 by rw [HR3.out, hpp]; rfl)
                clear HR3
                go_wp2_with fail
                go_ret
                exact ⟨by rw [HR.out]; rfl, HB4.out⟩
              | true =>
                have HR4 := Lib.hid (show R = if vb then 0 else 17 by rw [HR3.out, hpp]; rfl)
                clear HR3
                go_wp2_with fail
                refine (C2.out _).mono ?_
                rintro e w5 ⟨rfl, hb5⟩
                have HB5 := Lib.hid (HB4.out.trans (hb5.mono HB4.out.size))
                clear hb5
                cases vb with
                | true =>
                  have HR := Lib.hid (show R = 0 by rw [HR4.out]; rfl)
                  clear HR4
                  go_wp2_with fail
                  go_ret
                  exact ⟨by rw [HR.out]; rfl, HB5.out⟩
                | false =>
                  have HR := Lib.hid (show R = 17 by rw [HR4.out]; rfl)
                  clear HR4
                  go_wp2_with fail
                  go_ret
                  exact ⟨by rw [HR.out]; rfl, HB5.out⟩
    · have HR := Lib.hid (show R = 1 by rw [eR]; exact chk1_arg hlt h4 (by omega) (fun h => ha2 h.2.1))
      have hqb : (x.seq != (i : Int)) = true := by simpa using ha2
      obtain ⟨xh, xq, xd, xp, xb, xr, xs⟩ := x
      dsimp only at hbi ha1 hqb
      subst ha1
      clear h hx hs hsx hc eR ER hbd hbV bk0 ha2
      go_enter Tryd.func48, Tryd.ntmps48
      go_wp2_with fail
      go_ret
      exact ⟨by rw [HR.out]; rfl, HBV.out⟩
  · have HR := Lib.hid (show R = 1 by rw [eR]; exact chk1_arg hlt h4 (by omega) (fun h => ha1 h.1))
    have hqb : (x.house != house) = true := by simpa using ha1
    obtain ⟨xh, xq, xd, xp, xb, xr, xs⟩ := x
    dsimp only at hbi hqb
    clear h hx hs hsx hc eR ER hbd hbV bk0 ha1
    go_enter Tryd.func48, Tryd.ntmps48
    go_wp2_with fail
    go_ret
    exact ⟨by rw [HR.out]; rfl, HBV.out⟩
end Go.Proofs.YtaaenobckipfkaaDoor

namespace Go.Proofs.YtaaenobckipfkaaDoor
open Go.RowKit Go.Blk Go.Opn

set_option maxRecDepth 100000 in
set_option maxHeartbeats 4000000 in
theorem rcheck_any (A : Option Addr) (c : Nat) (l : List E31) (house pub : Int) (w : World) (h : SL w 7 encE A l) (hl : l.length ≤ 4000) (hs : ∀ e ∈ l, SmallE e) :
    Calls Tryd.prog 25 #[.slice A l.length c, .int .i64 house, .int .i64 pub] w (ChkPost w (chk l house pub)) := by
  by_cases hh0 : house < 0
  · have hm : chk l house pub = (1, -1) := by unfold chk; rw [if_neg (by unfold keysOk; omega)]
    have HM := Lib.hid hm
    clear hm
    go_enter Tryd.func25, Tryd.ntmps25
    go_wp2
    go_ret2
    exact ⟨by rw [HM.out]; rfl, Below.refl _ _⟩
  by_cases hh1 : 11 < house
  · have hm : chk l house pub = (1, -1) := by unfold chk; rw [if_neg (by unfold keysOk; omega)]
    have HM := Lib.hid hm
    clear hm
    go_enter Tryd.func25, Tryd.ntmps25
    go_wp2
    go_ret2
    exact ⟨by rw [HM.out]; rfl, Below.refl _ _⟩
  by_cases hp0 : pub < 1
  · have hm : chk l house pub = (1, -1) := by unfold chk; rw [if_neg (by unfold keysOk; omega)]
    have HM := Lib.hid hm
    clear hm
    go_enter Tryd.func25, Tryd.ntmps25
    go_wp2
    go_ret2
    exact ⟨by rw [HM.out]; rfl, Below.refl _ _⟩
  by_cases hp1 : 2147483646 < pub
  · have hm : chk l house pub = (1, -1) := by unfold chk; rw [if_neg (by unfold keysOk; omega)]
    have HM := Lib.hid hm
    clear hm
    go_enter Tryd.func25, Tryd.ntmps25
    go_wp2
    go_ret2
    exact ⟨by rw [HM.out]; rfl, Below.refl _ _⟩
  have HST : Hid (RK w l house pub (.int .i64 0) w) := ⟨0, Nat.zero_le _, rfl, Below.refl _ _, by unfold chk; rw [if_pos (by unfold keysOk; omega)]; rfl⟩
  have HS := Lib.hid h
  have HSM := Lib.hid hs
  obtain ⟨R, eR⟩ : ∃ R, R = chk l house pub := ⟨_, rfl⟩
  rw [← eR]
  have ER := Lib.hid eR
  clear h hs eR
  go_enter Tryd.func25, Tryd.ntmps25
  go_wp2_with fail
  go_loopw [8] (fun i wr => RK w l house pub i wr) (fun i _ => l.length - (intOf i).toNat)
  case atStart => exact HST.out
  case round =>
    clear HST
    obtain ⟨k, hk, rfl, hb, hR⟩ := hrel
    rw [← ER.out] at hR
    by_cases hlt : k < l.length
    · obtain ⟨x, hx⟩ : ∃ x, l[k]? = some x := ⟨_, List.getElem?_eq_getElem hlt⟩
      obtain ⟨n, hn⟩ : ∃ n, l.length - k = n + 1 := ⟨l.length - k - 1, by omega⟩
      rw [hn] at hR
      have hno : chk1 l k x house pub = 0 → R = chkGo l house pub (l.length - (k + 1)) (k + 1) := fun h0 => by
        rw [hR, chkGo_ok hx h0]; congr 1; omega
      have hyes : chk1 l k x house pub ≠ 0 → R = (chk1 l k x house pub, (k : Int)) := fun h0 => by rw [hR, chkGo_bad hx h0]
      have C1 := wrong_any A c l k x house pub wr (HS.out.below hb (Nat.le_refl _)) hx (by omega) HSM.out
      obtain ⟨z, ez⟩ : ∃ z, z = chk1 l k x house pub := ⟨_, rfl⟩
      rw [← ez] at C1 hno hyes
      have HC1 := Lib.hid C1
      have HNO := Lib.hid hno
      have HYES := Lib.hid hyes
      have HB := Lib.hid hb
      have hki : (k : Int) < (l.length : Int) := by omega
      have k00 : (0 : Int) ≤ (k : Int) := by omega
      clear hx hn hR hno hyes C1 hb ez
      go_wp2_with fail
      refine HC1.out.mono ?_
      rintro e w2 ⟨rfl, hb2⟩
      have HB2 := Lib.hid (HB.out.trans (hb2.mono HB.out.size))
      clear hb2 HC1 HB
      by_cases hz : z = 0
      · have KEY : Hid (RK w l house pub (.int .i64 ((k : Int) + 1)) w2) := ⟨k + 1, hlt, by go_num, HB2.out, by rw [← ER.out]; exact HNO.out hz⟩
        subst hz
        clear HNO HYES HB2
        go_wp2_with fail
        go_roundw
        case rel =>
          go_light
          have key := KEY.out
          first | exact key | ((repeat apply Exists.intro); exact ⟨key, rfl⟩)
        case measure => simp [intOf]; omega
      · have HR := Lib.hid (HYES.out hz)
        have hmb : (z != 0) = true := by simp [hz]
        clear HNO HYES
        go_wp2_with fail
        go_ret2
        exact ⟨by rw [HR.out]; rfl, HB2.out⟩
    · obtain rfl : k = l.length := by omega
      have hm : R = (0, -1) := by rw [hR, Nat.sub_self]; rfl
      have HM := Lib.hid hm
      have HB := Lib.hid hb
      have hki : ¬ ((l.length : Int) < (l.length : Int)) := by omega
      clear hm hb hR
      go_wp2_with fail
      go_ret2
      exact ⟨by rw [HM.out]; rfl, HB.out⟩
end Go.Proofs.YtaaenobckipfkaaDoor

namespace Go.Proofs.YtaaenobckipfkaaDoor
open Go.RowKit Go.Blk Go.Opn

theorem box2r (w : World) (la lb : List Value) (T : TypeId) : Blk ((w.alloc (.cells la.toArray T)).alloc (.cells lb.toArray T)) w.heap.size la T ∧
    Blk ((w.alloc (.cells la.toArray T)).alloc (.cells lb.toArray T)) (w.heap.size + 1) lb T ∧ Below w.heap.size w ((w.alloc (.cells la.toArray T)).alloc (.cells lb.toArray T)) := by
  refine ⟨Blk.alloc (Blk.new w la T) _, ?_, (((Below.refl _ w).alloc (Nat.le_refl _) _).alloc (by simp) _)⟩
  have := Blk.new (w.alloc (.cells la.toArray T)) lb T
  simpa using this
set_option maxRecDepth 100000 in
set_option maxHeartbeats 8000000 in
theorem rfork_any (a b : E31) (pub : Int) (w : World) (sa : SmallE a) (sb : SmallE b) :
    Calls Tryd.prog 30 #[.agg (encE a).toArray, .agg (encE b).toArray, .int .i64 pub] w fun e w' => e = .returned (.bool (forkB a b pub)) ∧ Below w.heap.size w w' := by
  obtain ⟨ba, bb0, hbv⟩ := box2r w (encE a) (encE b) 37
  have SA := Lib.hid (fun w => rsgn_any a pub w sa)
  have SB := Lib.hid (fun w => rsgn_any b pub w sb)
  have BB := Lib.hid bb0
  have HBV := Lib.hid hbv
  obtain ⟨ah, aq, ad, ap, ab, ar, az⟩ := a
  obtain ⟨bh, bq, bd, bp, bb, br, bz⟩ := b
  have c0 := ba.cellD 0 _ rfl
  have c1 := ba.cellD 1 _ rfl
  have c2 := ba.cellD 2 _ rfl
  have c3 := ba.cellD 3 _ rfl
  have c4 := ba.cellD 4 _ rfl
  have c5 := ba.cellD 5 _ rfl
  have c6 := ba.cellD 6 _ rfl
  have d0 := bb0.cellD 0 _ rfl
  have d1 := bb0.cellD 1 _ rfl
  have d2 := bb0.cellD 2 _ rfl
  have d3 := bb0.cellD 3 _ rfl
  have d4 := bb0.cellD 4 _ rfl
  have d5 := bb0.cellD 5 _ rfl
  have d6 := bb0.cellD 6 _ rfl
  unfold encE at c0 c1 c2 c3 c4 c5 c6 d0 d1 d2 d3 d4 d5 d6
  show Calls Tryd.prog 30 #[.agg #[.int .i64 ah, .int .i64 aq, .int .i64 ad, .string ap, .string ab, .int .i64 ar, .int .i64 az], .agg #[.int .i64 bh, .int .i64 bq, .int .i64 bd, .string bp, .string bb, .int .i64 br, .int .i64 bz], .int .i64 pub] w _
  clear ba bb0 hbv sa sb
  go_enter Tryd.func30, Tryd.ntmps30
  by_cases h1 : ah = bh
  · subst h1
    by_cases h2 : aq = bq
    · subst h2
      by_cases h3 : ad = bd
      · subst h3
        by_cases h4 : ap.toList = bp.toList
        · by_cases h5 : ab.toList = bb.toList
          · by_cases h6 : ar = br
            · subst h6
              by_cases h7 : az = bz
              · subst h7
                have hF : forkB ⟨ah, aq, ad, ap, ab, ar, az⟩ ⟨ah, aq, ad, bp, bb, ar, az⟩ pub = false := by exact fork_same (by unfold eqB; simp [h4, h5])
                have HF := Lib.hid hF
                clear hF
                go_wp2
                go_ret
                exact ⟨by rw [HF.out]; rfl, HBV.out⟩
              · have hF : forkB ⟨ah, aq, ad, ap, ab, ar, az⟩ ⟨ah, aq, ad, bp, bb, ar, bz⟩ pub = (sgnB ⟨ah, aq, ad, ap, ab, ar, az⟩ pub && sgnB ⟨ah, aq, ad, bp, bb, ar, bz⟩ pub) := by exact fork_yes (by unfold eqB; simp [h7]) rfl rfl
                have HF := Lib.hid hF
                clear hF
                go_wp2_with fail
                refine (SA.out _).mono ?_
                rintro e w1 ⟨rfl, hb1⟩
                have b1 := BB.out.below hb1 BB.out.lt
                have e0 := b1.cellD 0 _ rfl
                have e1 := b1.cellD 1 _ rfl
                have e2 := b1.cellD 2 _ rfl
                have e3 := b1.cellD 3 _ rfl
                have e4 := b1.cellD 4 _ rfl
                have e5 := b1.cellD 5 _ rfl
                have e6 := b1.cellD 6 _ rfl
                have HB1 := Lib.hid (HBV.out.trans (hb1.mono HBV.out.size))
                clear b1 hb1 SA
                cases hs : sgnB ⟨ah, aq, ad, ap, ab, ar, az⟩ pub with
                | true =>
                  rw [hs, Bool.true_and] at HF
                  clear hs
                  go_wp2_with fail
                  refine (SB.out _).mono ?_
                  rintro e w2 ⟨rfl, hb2⟩
                  have FIN := Lib.hid (HB1.out.trans (hb2.mono HB1.out.size))
                  clear hb2
                  go_wp2_with fail
                  go_ret
                  exact ⟨by rw [HF.out]; rfl, FIN.out⟩
                | false =>
                  rw [hs, Bool.false_and] at HF
                  clear hs
                  go_wp2_with fail
                  go_ret
                  exact ⟨by rw [HF.out]; rfl, HB1.out⟩
            · have hF : forkB ⟨ah, aq, ad, ap, ab, ar, az⟩ ⟨ah, aq, ad, bp, bb, br, bz⟩ pub = (sgnB ⟨ah, aq, ad, ap, ab, ar, az⟩ pub && sgnB ⟨ah, aq, ad, bp, bb, br, bz⟩ pub) := by exact fork_yes (by unfold eqB; simp [h6]) rfl rfl
              have HF := Lib.hid hF
              clear hF
              go_wp2_with fail
              refine (SA.out _).mono ?_
              rintro e w1 ⟨rfl, hb1⟩
              have b1 := BB.out.below hb1 BB.out.lt
              have e0 := b1.cellD 0 _ rfl
              have e1 := b1.cellD 1 _ rfl
              have e2 := b1.cellD 2 _ rfl
              have e3 := b1.cellD 3 _ rfl
              have e4 := b1.cellD 4 _ rfl
              have e5 := b1.cellD 5 _ rfl
              have e6 := b1.cellD 6 _ rfl
              have HB1 := Lib.hid (HBV.out.trans (hb1.mono HBV.out.size))
              clear b1 hb1 SA
              cases hs : sgnB ⟨ah, aq, ad, ap, ab, ar, az⟩ pub with
              | true =>
                rw [hs, Bool.true_and] at HF
                clear hs
                go_wp2_with fail
                refine (SB.out _).mono ?_
                rintro e w2 ⟨rfl, hb2⟩
                have FIN := Lib.hid (HB1.out.trans (hb2.mono HB1.out.size))
                clear hb2
                go_wp2_with fail
                go_ret
                exact ⟨by rw [HF.out]; rfl, FIN.out⟩
              | false =>
                rw [hs, Bool.false_and] at HF
                clear hs
                go_wp2_with fail
                go_ret
                exact ⟨by rw [HF.out]; rfl, HB1.out⟩
          · have hF : forkB ⟨ah, aq, ad, ap, ab, ar, az⟩ ⟨ah, aq, ad, bp, bb, br, bz⟩ pub = (sgnB ⟨ah, aq, ad, ap, ab, ar, az⟩ pub && sgnB ⟨ah, aq, ad, bp, bb, br, bz⟩ pub) := by exact fork_yes (by unfold eqB; simp [h5]) rfl rfl
            have HF := Lib.hid hF
            clear hF
            go_wp2_with fail
            refine (SA.out _).mono ?_
            rintro e w1 ⟨rfl, hb1⟩
            have b1 := BB.out.below hb1 BB.out.lt
            have e0 := b1.cellD 0 _ rfl
            have e1 := b1.cellD 1 _ rfl
            have e2 := b1.cellD 2 _ rfl
            have e3 := b1.cellD 3 _ rfl
            have e4 := b1.cellD 4 _ rfl
            have e5 := b1.cellD 5 _ rfl
            have e6 := b1.cellD 6 _ rfl
            have HB1 := Lib.hid (HBV.out.trans (hb1.mono HBV.out.size))
            clear b1 hb1 SA
            cases hs : sgnB ⟨ah, aq, ad, ap, ab, ar, az⟩ pub with
            | true =>
              rw [hs, Bool.true_and] at HF
              clear hs
              go_wp2_with fail
              refine (SB.out _).mono ?_
              rintro e w2 ⟨rfl, hb2⟩
              have FIN := Lib.hid (HB1.out.trans (hb2.mono HB1.out.size))
              clear hb2
              go_wp2_with fail
              go_ret
              exact ⟨by rw [HF.out]; rfl, FIN.out⟩
            | false =>
              rw [hs, Bool.false_and] at HF
              clear hs
              go_wp2_with fail
              go_ret
              exact ⟨by rw [HF.out]; rfl, HB1.out⟩
        · have hF : forkB ⟨ah, aq, ad, ap, ab, ar, az⟩ ⟨ah, aq, ad, bp, bb, br, bz⟩ pub = (sgnB ⟨ah, aq, ad, ap, ab, ar, az⟩ pub && sgnB ⟨ah, aq, ad, bp, bb, br, bz⟩ pub) := by exact fork_yes (by unfold eqB; simp [h4]) rfl rfl
          have HF := Lib.hid hF
          clear hF
          go_wp2_with fail
          refine (SA.out _).mono ?_
          rintro e w1 ⟨rfl, hb1⟩
          have b1 := BB.out.below hb1 BB.out.lt
          have e0 := b1.cellD 0 _ rfl
          have e1 := b1.cellD 1 _ rfl
          have e2 := b1.cellD 2 _ rfl
          have e3 := b1.cellD 3 _ rfl
          have e4 := b1.cellD 4 _ rfl
          have e5 := b1.cellD 5 _ rfl
          have e6 := b1.cellD 6 _ rfl
          have HB1 := Lib.hid (HBV.out.trans (hb1.mono HBV.out.size))
          clear b1 hb1 SA
          cases hs : sgnB ⟨ah, aq, ad, ap, ab, ar, az⟩ pub with
          | true =>
            rw [hs, Bool.true_and] at HF
            clear hs
            go_wp2_with fail
            refine (SB.out _).mono ?_
            rintro e w2 ⟨rfl, hb2⟩
            have FIN := Lib.hid (HB1.out.trans (hb2.mono HB1.out.size))
            clear hb2
            go_wp2_with fail
            go_ret
            exact ⟨by rw [HF.out]; rfl, FIN.out⟩
          | false =>
            rw [hs, Bool.false_and] at HF
            clear hs
            go_wp2_with fail
            go_ret
            exact ⟨by rw [HF.out]; rfl, HB1.out⟩
      · have hF : forkB ⟨ah, aq, ad, ap, ab, ar, az⟩ ⟨ah, aq, bd, bp, bb, br, bz⟩ pub = (sgnB ⟨ah, aq, ad, ap, ab, ar, az⟩ pub && sgnB ⟨ah, aq, bd, bp, bb, br, bz⟩ pub) := by exact fork_yes (by unfold eqB; simp [h3]) rfl rfl
        have HF := Lib.hid hF
        clear hF
        go_wp2_with fail
        refine (SA.out _).mono ?_
        rintro e w1 ⟨rfl, hb1⟩
        have b1 := BB.out.below hb1 BB.out.lt
        have e0 := b1.cellD 0 _ rfl
        have e1 := b1.cellD 1 _ rfl
        have e2 := b1.cellD 2 _ rfl
        have e3 := b1.cellD 3 _ rfl
        have e4 := b1.cellD 4 _ rfl
        have e5 := b1.cellD 5 _ rfl
        have e6 := b1.cellD 6 _ rfl
        have HB1 := Lib.hid (HBV.out.trans (hb1.mono HBV.out.size))
        clear b1 hb1 SA
        cases hs : sgnB ⟨ah, aq, ad, ap, ab, ar, az⟩ pub with
        | true =>
          rw [hs, Bool.true_and] at HF
          clear hs
          go_wp2_with fail
          refine (SB.out _).mono ?_
          rintro e w2 ⟨rfl, hb2⟩
          have FIN := Lib.hid (HB1.out.trans (hb2.mono HB1.out.size))
          clear hb2
          go_wp2_with fail
          go_ret
          exact ⟨by rw [HF.out]; rfl, FIN.out⟩
        | false =>
          rw [hs, Bool.false_and] at HF
          clear hs
          go_wp2_with fail
          go_ret
          exact ⟨by rw [HF.out]; rfl, HB1.out⟩
    · have hF : forkB ⟨ah, aq, ad, ap, ab, ar, az⟩ ⟨ah, bq, bd, bp, bb, br, bz⟩ pub = false := by exact fork_seq h2
      have HF := Lib.hid hF
      clear hF
      go_wp2
      go_ret
      exact ⟨by rw [HF.out]; rfl, HBV.out⟩
  · have hF : forkB ⟨ah, aq, ad, ap, ab, ar, az⟩ ⟨bh, bq, bd, bp, bb, br, bz⟩ pub = false := by exact fork_house h1
    have HF := Lib.hid hF
    clear hF
    go_wp2
    go_ret
    exact ⟨by rw [HF.out]; rfl, HBV.out⟩
end Go.Proofs.YtaaenobckipfkaaDoor

namespace Go.Proofs.YtaaenobckipfkaaDoor
open Go.RowKit Go.Blk Go.Opn Go.Apl Go.Sg

def RAppPost (w : World) (l : List E31) (house secret day : Int) (body : ByteArray) (e : Ending) (w' : World) : Prop :=
  Below w.heap.size w w' ∧ ((appE l house secret day body ≠ 0 ∧ e = .returned (.tuple #[.slice none 0 0, .int .i64 (appE l house secret day body)])) ∨
    (appE l house secret day body = 0 ∧ ∃ b cap, e = .returned (.tuple #[.slice (some ⟨b, 0, none⟩) (l.length + 1) cap, .int .i64 0]) ∧ SL w' 7 encE (some ⟨b, 0, none⟩) (l ++ [appN l house secret day body])))
theorem below_grown {B : Nat} {a w w' : World} {row : Option Nat} (h : Below B a w) (hB : B ≤ a.heap.size) (hg : w.grownBy w' row) (hr : ∀ k, row = some k → B ≤ k) : Below B a w' :=
  ⟨hg.os.trans h.os, hg.tape.trans h.tape, hg.output.trans h.output, Nat.le_trans h.size hg.size, fun k hk => (hg.block k (Nat.lt_of_lt_of_le hk (Nat.le_trans hB h.size)) (fun e => by have := hr k e.symm; omega)).trans (h.block k hk)⟩
theorem wrong_app {l : List E31} {house secret day : Int} {body : ByteArray} (hs : isSec secret) : chk1 (l ++ [appN l house secret day body]) l.length (appN l house secret day body) house (pubV secret) = misp l (nx0 l house day body) house := by
  unfold chk1
  rw [List.take_left, misp_app]
  by_cases hm : misp l (nx0 l house day body) house = 0
  · rw [if_pos hm, hm]
    have e1 : (appN l house secret day body).prev = prevE l := rfl
    rw [e1]
    have e2 : verB (pubV secret) (txE (appN l house secret day body)) (appN l house secret day body).r (appN l house secret day body).s = true := sgnB_app hs
    rw [e2]; simp
  · rw [if_neg hm]
set_option maxRecDepth 100000 in
set_option maxHeartbeats 4000000 in
theorem rapp_any (A : Option Addr) (c : Nat) (l : List E31) (house secret day : Int) (body : ByteArray) (w : World) (h : SL w 7 encE A l) (hl : l.length ≤ 1000) (hf : ∀ e ∈ l, SmallE e)
    (hh0 : -9223372036854775808 ≤ house) (hh1 : house ≤ 9223372036854775807) (hd0 : -9223372036854775808 ≤ day) (hd1 : day ≤ 9223372036854775807) (hb : body.size ≤ 100000) (hT : HasT w) :
    Calls Tryd.prog 27 #[.slice A l.length c, .int .i64 house, .int .i64 secret, .int .i64 day, .string body] w (RAppPost w l house secret day body) := by
  have c0 := fun w => rpub_any secret w
  unfold pubE at c0
  by_cases hs : isSec secret
  · simp only [if_pos hs] at c0
    obtain ⟨E, eE⟩ : ∃ E, E = appE l house secret day body := ⟨_, rfl⟩
    obtain ⟨y, ey⟩ : ∃ y, y = pubV secret := ⟨_, rfl⟩
    have hE : E = if (chk l house y).1 = 0 then misp l (nx0 l house day body) house else (chk l house y).1 := by rw [eE, ey]; unfold appE; rw [if_pos hs]
    have POST : Hid (∀ e w', Below w.heap.size w w' → ((E ≠ 0 ∧ e = .returned (.tuple #[.slice none 0 0, .int .i64 E])) ∨
        (E = 0 ∧ ∃ b cap, e = .returned (.tuple #[.slice (some ⟨b, 0, none⟩) (l.length + 1) cap, .int .i64 0]) ∧ SL w' 7 encE (some ⟨b, 0, none⟩) (l ++ [appN l house secret day body]))) → RAppPost w l house secret day body e w') := by
      intro e w' h1 h2
      rw [eE] at h2
      exact ⟨h1, h2⟩
    have C0 := Lib.hid c0
    have C1 : Hid (∀ w', Below w.heap.size w w' → Calls Tryd.prog 25 #[.slice A l.length c, .int .i64 house, .int .i64 y] w' (ChkPost w' (chk l house y))) := fun w' hb => rcheck_any A c l house y w' (h.below hb (Nat.le_refl _)) (by omega) hf
    have hps := prevE_size l
    have hok := (appN_ok l house secret day body (by omega) hh0 hh1 hd0 hd1 (by omega)).1
    have hsm : SmallE (appN l house secret day body) := ⟨hok, by show (prevE l).size ≤ _; omega, by show body.size ≤ _; omega⟩
    have hokx : (nxE l house day body).Ok := ⟨hok.h0, hok.h1, hok.q0, hok.q1, hok.d0, hok.d1, (by decide : (-9223372036854775808 : Int) ≤ 0), (by decide : (0 : Int) ≤ 9223372036854775807), (by decide : (-9223372036854775808 : Int) ≤ 0), (by decide : (0 : Int) ≤ 9223372036854775807), hok.p1, hok.b1⟩
    have C4 : Hid (∀ w', Calls Tryd.prog 29 #[.agg (encE (nxE l house day body)).toArray] w' fun en w2 => en = .returned (.string (txE (nxE l house day body))) ∧ Below w'.heap.size w' w2) := fun w' => rtext_any _ w' hokx (by show (prevE l).size ≤ _; omega) (by show body.size ≤ _; omega)
    have htx : (txE (nxE l house day body)).size ≤ 500000000 := by
      have := txE_size hokx
      have e1 : (nxE l house day body).prev.size ≤ 64 := hps
      have e2 : (nxE l house day body).body.size ≤ 100000 := hb
      omega
    have C5 : Hid (∀ w', HasT w' → Calls Tryd.prog 50 #[.int .i64 secret, .string (txE (nxE l house day body))] w' fun e w2 => e = .returned (.tuple #[.agg #[.int .i64 (sgR secret (txE (nxE l house day body))), .int .i64 (sgS secret (txE (nxE l house day body)))], .int .i64 0]) ∧ Below w'.heap.size w' w2) := fun w' hT => rsign_yes secret _ w' hs htx hT
    have C6 : Hid (∀ w' b cap, SL w' 7 encE (some ⟨b, 0, none⟩) (l ++ [appN l house secret day body]) → Calls Tryd.prog 48 #[.slice (some ⟨b, 0, none⟩) (l.length + 1) cap, .int .i64 l.length, .int .i64 house, .int .i64 y] w' fun e w2 => e = .returned (.int .i64 (misp l (nx0 l house day body) house)) ∧ Below w'.heap.size w' w2) := fun w' b cap hsl => by
      have := wrong_any (some ⟨b, 0, none⟩) cap (l ++ [appN l house secret day body]) l.length (appN l house secret day body) house y w' hsl (by simp) (by omega) (fun e he => by
        rcases List.mem_append.1 he with he | he
        · exact hf e he
        · simp at he; subst he; exact hsm)
      rw [ey, wrong_app hs, List.length_append, List.length_singleton, ← ey] at this; exact this
    have EA : Hid (encE (appN l house secret day body) = [.int .i64 house, .int .i64 l.length, .int .i64 day, .string (prevE l), .string body, .int .i64 (sgR secret (txE (nxE l house day body))), .int .i64 (sgS secret (txE (nxE l house day body)))]) := rfl
    obtain ⟨nw, enw⟩ : ∃ nw, nw = appN l house secret day body := ⟨_, rfl⟩
    obtain ⟨ms, ems⟩ : ∃ ms, ms = misp l (nx0 l house day body) house := ⟨_, rfl⟩
    rw [← enw] at POST EA C6
    rw [← ems] at hE C6
    obtain ⟨pv, epv⟩ : ∃ pv, pv = prevE l := ⟨_, rfl⟩
    obtain ⟨tx, etx⟩ : ∃ tx, tx = txE (nxE l house day body) := ⟨_, rfl⟩
    have C4' : Hid (∀ w', Calls Tryd.prog 29 #[.agg #[.int .i64 house, .int .i64 l.length, .int .i64 day, .string pv, .string body, .int .i64 0, .int .i64 0]] w' fun en w2 => en = .returned (.string tx) ∧ Below w'.heap.size w' w2) := by
      rw [epv, etx]; exact C4
    rw [← etx] at C5 EA
    rw [← epv] at EA
    obtain ⟨sr, esr⟩ : ∃ sr, sr = sgR secret tx := ⟨_, rfl⟩
    obtain ⟨ss, ess⟩ : ∃ ss, ss = sgS secret tx := ⟨_, rfl⟩
    rw [← esr, ← ess] at C5 EA
    rw [← ey] at C0
    obtain ⟨cr, ecr⟩ : ∃ cr, cr = chk l house y := ⟨_, rfl⟩
    rw [← ecr] at C1 hE
    obtain ⟨ce, ca⟩ := cr
    simp only at hE
    have HSL := Lib.hid h
    have HT := Lib.hid hT
    have HE := Lib.hid hE
    have HSF := Lib.hid hf
    have EPV := Lib.hid epv
    obtain ⟨n, en⟩ : ∃ n, n = l.length := ⟨_, rfl⟩
    rw [← en] at POST C1 C4' EA C6 hl ⊢
    have EN := Lib.hid en
    clear C4 hs eE ey hE c0 hps hok hokx hsm htx hb enw ems epv etx esr ess ecr h hf hT en hh0 hh1 hd0 hd1
    have C4 := C4'
    clear C4'
    go_enter Tryd.func27, Tryd.ntmps27
    go_wp2_with fail
    refine (C0.out _).mono ?_
    rintro e w' ⟨rfl, rfl⟩
    clear C0
    go_wp2_with fail
    refine (C1.out _ (Below.refl _ _)).mono ?_
    rintro e w1 ⟨rfl, hb1⟩
    have HB1 := Lib.hid hb1
    clear hb1 C1
    simp only
    by_cases hce : ce = 0
    · subst hce
      have he : E = ms := by rw [HE.out, if_pos rfl]
      have HE2 := Lib.hid he
      clear HE he
      have B2 := Lib.hid (Blk.new w1 [.int .i64 house, .int .i64 n, .int .i64 day, .string ⟨#[]⟩, .string body, .int .i64 0, .int .i64 0] 37)
      have HB2 := Lib.hid (HB1.out.alloc HB1.out.size (.cells #[.int .i64 house, .int .i64 n, .int .i64 day, .string ⟨#[]⟩, .string body, .int .i64 0, .int .i64 0] 37))
      have hq0 : w.heap.size ≤ w1.heap.size := HB1.out.size
      by_cases hn0 : n = 0
      · subst hn0
        have hl0 : l = [] := List.length_eq_zero_iff.1 EN.out.symm
        have hpv : pv = ⟨#[]⟩ := by rw [EPV.out, hl0]; rfl
        subst hpv
        obtain ⟨q, eq⟩ : ∃ q, q = w1.heap.size := ⟨_, rfl⟩
        have hq : w.heap.size ≤ q := by rw [eq]; exact hq0
        have B4 : Hid (Blk (w1.alloc (.cells #[.int .i64 house, .int .i64 0, .int .i64 day, .string ⟨#[]⟩, .string body, .int .i64 0, .int .i64 0] 37)) q [.int .i64 house, .int .i64 0, .int .i64 day, .string ⟨#[]⟩, .string body, .int .i64 0, .int .i64 0] 37) := by rw [eq]; exact B2
        have HB4 : Hid (Below w.heap.size w (w1.alloc (.cells #[.int .i64 house, .int .i64 0, .int .i64 day, .string ⟨#[]⟩, .string body, .int .i64 0, .int .i64 0] 37))) := HB2
        clear B2 HB2 hq0
        go_wp2_with fail
        rw [← eq]
        clear eq hl0
        refine (C4.out _).mono ?_
        rintro e w5 ⟨rfl, hb5⟩
        have B5 := Lib.hid (B4.out.below hb5 B4.out.lt)
        have HB5 := Lib.hid (HB4.out.trans (hb5.mono HB4.out.size))
        clear hb5 C4 B4 HB4
        go_wp2_with fail
        refine (C5.out _ (HT.out.below HB5.out (Nat.le_refl _))).mono ?_
        rintro e w6 ⟨rfl, hb6⟩
        have b6 := B5.out.below hb6 B5.out.lt
        have f5 := b6.frozen 5
        have f6 := b6.frozen 6
        have g5 := b6.cellD 5 _ rfl
        have g6 := b6.cellD 6 _ rfl
        have b7 := (b6.set 5 (.int .i64 sr)).set 6 (.int .i64 ss)
        simp only [List.set_cons_succ, List.set_cons_zero] at b7
        have B7 := Lib.hid b7
        have HB7 := Lib.hid (((HB5.out.trans (hb6.mono HB5.out.size)).setCell (p := ⟨q, 5, none⟩) hq (.int .i64 sr)).setCell (p := ⟨q, 6, none⟩) hq (.int .i64 ss))
        obtain ⟨W, eW⟩ : ∃ W, W = (w6.setCell ⟨q, 5, none⟩ (.int .i64 sr)).setCell ⟨q, 6, none⟩ (.int .i64 ss) := ⟨_, rfl⟩
        have EW := Lib.hid eW
        have hzW : W.heap.size = w6.heap.size := by rw [eW]; simp [World.setCell]
        rw [← eW] at B7 HB7
        clear hb6 b6 b7 C5 B5 HB5 eW
        obtain ⟨i0, hi, hz0, hz1, hz2⟩ := info_parts infoE
        go_wp2_with (at_builtin; refine wpList_append_list rfl (.tmp 61) (.tmp 62) 26 rfl w6.heap.size 37 i0 _ 72 Tryd.underlying26 hi hz0 hz1 hz2 rfl (by decide) encE_len encE_one _ 0 [] rfl (by rw [← EW.out, ← hzW]; exact World.ownsRow_made W #[] 0 (Nat.le_refl _) (by decide) rfl) A c l (by rw [← EN.out]; rfl) (by rw [← EW.out]; exact (HSL.out.below HB7.out (Nat.le_refl _)).alloc _) (by have := EN.out; unfold maxLen; omega) (by have := EN.out; omega) (by simp [World.setCell]) ?_)
        intro v' w7 hown hgr _
        have hown1 : w7.ownsRow w6.heap.size 37 7 v' l.length (l.flatMap encE) := by simpa using hown
        have hw6 : w.heap.size ≤ w6.heap.size := by rw [← hzW]; exact HB7.out.size
        have hqw : q < w6.heap.size := by rw [← hzW]; exact B7.out.lt
        rw [← EW.out] at hgr
        have HB8 := Lib.hid (below_grown (HB7.out.alloc HB7.out.size (.cells #[] 37)) (Nat.le_refl _) hgr (fun k e => by
          have : w6.heap.size = k := by simpa [Value.ownBlock] using e
          omega))
        have B8 := Lib.hid ((B7.out.alloc (.cells #[] 37)).keepB (hgr.block q (by simp; omega) (by simp [Value.ownBlock]; omega)))
        have HOWN := Lib.hid hown1
        have HW6 := Lib.hid hw6
        have HW7 : Hid (w6.heap.size ≤ w7.heap.size) := by have := hgr.size; simp at this; show _ ≤ _; omega
        clear hown hgr hown1 B7 HB7 EW hzW f5 f6 g5 g6 hqw hw6
        have c0 := B8.out.cellD 0 _ rfl
        have c1 := B8.out.cellD 1 _ rfl
        have c2 := B8.out.cellD 2 _ rfl
        have c3 := B8.out.cellD 3 _ rfl
        have c4 := B8.out.cellD 4 _ rfl
        have c5 := B8.out.cellD 5 _ rfl
        have c6 := B8.out.cellD 6 _ rfl
        go_wp2_with (at_builtin; refine wpList_append_list (ec := encE) rfl (.tmp 64) (.tmp 66) 26 rfl w6.heap.size 37 i0 _ 72 Tryd.underlying26 hi hz0 hz1 hz2 rfl (by decide) encE_len encE_one v' l.length (l.flatMap encE) rfl (HOWN.out.alloc _) (some ⟨w7.heap.size, 0, none⟩) 1 [nw] rfl (sl_of_cells encE_len (heap_alloc_last _ _) (fun j u hu => by rw [show [nw].flatMap encE = encE nw by simp, EA.out] at hu; simpa using hu)) (by have := EN.out; unfold maxLen; simp; omega) (by have := EN.out; simp; omega) (by have := HW7.out; simp; omega) ?_)
        intro v2 w8 hown2 hgr2 _
        obtain ⟨g, cap, cur, rfl, hg1, hg2, hg3, hg4, hg5, hsl⟩ := own_at (l := l ++ [nw]) encE_len (by simpa using hown2) (by simp)
        have HB9 := Lib.hid (below_grown (HB8.out.alloc HB8.out.size _) (Nat.le_refl _) hgr2 (fun k e => by
          have := (HOWN.out.lt k e).1
          have := HW6.out
          omega))
        have C7 := Lib.hid (C6.out w8 g cap hsl)
        have FIN : Hid (∀ w9, Below w8.heap.size w8 w9 → E = 0 → RAppPost w l house secret day body (.returned (.tuple #[.slice (some ⟨g, 0, none⟩) (0 + 1) cap, .int .i64 0])) w9) := fun w9 hb he => POST.out _ w9 (HB9.out.trans (hb.mono HB9.out.size)) (.inr ⟨he, g, cap, rfl, hsl.below hb (Nat.le_refl _)⟩)
        have hlen : (l ++ [nw]).length = (0 + 1) := by rw [List.length_append, List.length_singleton, ← EN.out]
        rw [hlen]
        clear hown2 hgr2 hg1 hg2 hg3 hg4 hg5 hsl HOWN HW6 HW7 HB8 B8 C6 c0 c1 c2 c3 c4 c5 c6 hlen hi hz0 hz1 hz2
        go_wp2_with fail
        refine C7.out.mono ?_
        rintro e w9 ⟨rfl, hb9⟩
        by_cases hms : ms = 0
        · have F9 := Lib.hid (FIN.out w9 hb9 (HE2.out.trans hms))
          subst hms
          clear FIN hb9
          go_wp2_with fail
          go_ret2
          exact F9.out
        · have hcb : (ms != 0) = true := by simp [hms]
          have F9 := Lib.hid (POST.out (.returned (.tuple #[.slice none 0 0, .int .i64 E])) w9 (HB9.out.trans (hb9.mono HB9.out.size)) (.inl ⟨by rw [HE2.out]; exact hms, rfl⟩))
          rw [HE2.out] at F9
          clear FIN hb9
          go_wp2_with fail
          go_ret2
          exact F9.out
      · have hn1 : (0 : Int) < (n : Int) := by omega
        obtain ⟨m, hm⟩ : ∃ m, n = m + 1 := ⟨n - 1, by omega⟩
        obtain ⟨x, hx⟩ : ∃ x, l[m]? = some x := ⟨_, List.getElem?_eq_getElem (by have := EN.out; omega)⟩
        have hpx : pv = dig x := by
          rw [EPV.out]; unfold prevE
          rw [List.getLast?_eq_getElem?, show l.length - 1 = m by have := EN.out; omega, hx]
        have hsx := HSF.out x (List.mem_of_getElem? hx)
        have C3 : Hid (∀ w', Calls Tryd.prog 22 #[.agg (encE x).toArray] w' fun e w2 => e = .returned (.string pv) ∧ Below w'.heap.size w' w2) := fun w' => by
          have := rdig_any x w' hsx.1 hsx.2.1 hsx.2.2
          rw [← hpx] at this; exact this
        obtain ⟨bb, off, hA, hcl⟩ := (HSL.out.below HB2.out (Nat.le_refl _)).at_ hx
        have hsub : (n : Int) - 1 = (m : Int) := by omega
        have hwm : IntKind.i64.wrap (m : Int) = (m : Int) := IntWalk.i64_in _ (by omega)
        have m00 : (0 : Int) ≤ (m : Int) := by omega
        have hmn : (m : Int) < (n : Int) := by omega
        have HA := Lib.hid hA
        obtain ⟨xh, xq, xd, xp, xb, xr, xs⟩ := x
        have p0 := hcl 0 _ rfl
        have p1 := hcl 1 _ rfl
        have p2 := hcl 2 _ rfl
        have p3 := hcl 3 _ rfl
        have p4 := hcl 4 _ rfl
        have p5 := hcl 5 _ rfl
        have p6 := hcl 6 _ rfl
        simp only [← Nat.add_assoc, Nat.add_zero] at p0 p1 p2 p3 p4 p5 p6
        subst hA
        have hm' := Lib.hid hm
        clear hcl hx hpx hsx hm HSF EPV hn0
        go_wp2_with fail
        refine (C3.out _).mono ?_
        rintro e w3 ⟨rfl, hb3⟩
        obtain ⟨q, eq⟩ : ∃ q, q = w1.heap.size := ⟨_, rfl⟩
        have hq : w.heap.size ≤ q := by rw [eq]; exact hq0
        rw [← eq] at B2 ⊢
        have b3 := B2.out.below hb3 B2.out.lt
        have f3 := b3.frozen 3
        have g3 := b3.cellD 3 _ rfl
        have b4 := b3.set 3 (.string pv)
        simp only [List.set_cons_succ, List.set_cons_zero] at b4
        have B4 := Lib.hid b4
        have c0 := b4.cellD 0 _ rfl
        have c1 := b4.cellD 1 _ rfl
        have c2 := b4.cellD 2 _ rfl
        have c3 := b4.cellD 3 _ rfl
        have c4 := b4.cellD 4 _ rfl
        have c5 := b4.cellD 5 _ rfl
        have c6 := b4.cellD 6 _ rfl
        have HB4 := Lib.hid ((HB2.out.trans (hb3.mono HB2.out.size)).setCell (p := ⟨q, 3, none⟩) hq (.string pv))
        clear hb3 b3 b4 C3 B2 HB2 p0 p1 p2 p3 p4 p5 p6 eq hq0
        go_wp2_with fail
        clear c0 c1 c2 c3 c4 c5 c6 f3 g3
        refine (C4.out _).mono ?_
        rintro e w5 ⟨rfl, hb5⟩
        have B5 := Lib.hid (B4.out.below hb5 B4.out.lt)
        have HB5 := Lib.hid (HB4.out.trans (hb5.mono HB4.out.size))
        clear hb5 C4 B4 HB4
        go_wp2_with fail
        refine (C5.out _ (HT.out.below HB5.out (Nat.le_refl _))).mono ?_
        rintro e w6 ⟨rfl, hb6⟩
        have b6 := B5.out.below hb6 B5.out.lt
        have f5 := b6.frozen 5
        have f6 := b6.frozen 6
        have g5 := b6.cellD 5 _ rfl
        have g6 := b6.cellD 6 _ rfl
        have b7 := (b6.set 5 (.int .i64 sr)).set 6 (.int .i64 ss)
        simp only [List.set_cons_succ, List.set_cons_zero] at b7
        have B7 := Lib.hid b7
        have HB7 := Lib.hid (((HB5.out.trans (hb6.mono HB5.out.size)).setCell (p := ⟨q, 5, none⟩) hq (.int .i64 sr)).setCell (p := ⟨q, 6, none⟩) hq (.int .i64 ss))
        obtain ⟨W, eW⟩ : ∃ W, W = (w6.setCell ⟨q, 5, none⟩ (.int .i64 sr)).setCell ⟨q, 6, none⟩ (.int .i64 ss) := ⟨_, rfl⟩
        have EW := Lib.hid eW
        have hzW : W.heap.size = w6.heap.size := by rw [eW]; simp [World.setCell]
        rw [← eW] at B7 HB7
        clear hb6 b6 b7 C5 B5 HB5 eW
        obtain ⟨i0, hi, hz0, hz1, hz2⟩ := info_parts infoE
        go_wp2_with (at_builtin; refine wpList_append_list rfl (.tmp 61) (.tmp 62) 26 rfl w6.heap.size 37 i0 _ 72 Tryd.underlying26 hi hz0 hz1 hz2 rfl (by decide) encE_len encE_one _ 0 [] rfl (by rw [← EW.out, ← hzW]; exact World.ownsRow_made W #[] 0 (Nat.le_refl _) (by decide) rfl) (some ⟨bb, off, none⟩) c l (by rw [← EN.out]; rfl) (by rw [← EW.out]; exact (HSL.out.below HB7.out (Nat.le_refl _)).alloc _) (by have := EN.out; unfold maxLen; omega) (by have := EN.out; omega) (by simp [World.setCell]) ?_)
        intro v' w7 hown hgr _
        have hown1 : w7.ownsRow w6.heap.size 37 7 v' l.length (l.flatMap encE) := by simpa using hown
        have hw6 : w.heap.size ≤ w6.heap.size := by rw [← hzW]; exact HB7.out.size
        have hqw : q < w6.heap.size := by rw [← hzW]; exact B7.out.lt
        rw [← EW.out] at hgr
        have HB8 := Lib.hid (below_grown (HB7.out.alloc HB7.out.size (.cells #[] 37)) (Nat.le_refl _) hgr (fun k e => by
          have : w6.heap.size = k := by simpa [Value.ownBlock] using e
          omega))
        have B8 := Lib.hid ((B7.out.alloc (.cells #[] 37)).keepB (hgr.block q (by simp; omega) (by simp [Value.ownBlock]; omega)))
        have HOWN := Lib.hid hown1
        have HW6 := Lib.hid hw6
        have HW7 : Hid (w6.heap.size ≤ w7.heap.size) := by have := hgr.size; simp at this; show _ ≤ _; omega
        clear hown hgr hown1 B7 HB7 EW hzW f5 f6 g5 g6 hqw hw6
        have c0 := B8.out.cellD 0 _ rfl
        have c1 := B8.out.cellD 1 _ rfl
        have c2 := B8.out.cellD 2 _ rfl
        have c3 := B8.out.cellD 3 _ rfl
        have c4 := B8.out.cellD 4 _ rfl
        have c5 := B8.out.cellD 5 _ rfl
        have c6 := B8.out.cellD 6 _ rfl
        go_wp2_with (at_builtin; refine wpList_append_list (ec := encE) rfl (.tmp 64) (.tmp 66) 26 rfl w6.heap.size 37 i0 _ 72 Tryd.underlying26 hi hz0 hz1 hz2 rfl (by decide) encE_len encE_one v' l.length (l.flatMap encE) rfl (HOWN.out.alloc _) (some ⟨w7.heap.size, 0, none⟩) 1 [nw] rfl (sl_of_cells encE_len (heap_alloc_last _ _) (fun j u hu => by rw [show [nw].flatMap encE = encE nw by simp, EA.out] at hu; simpa using hu)) (by have := EN.out; unfold maxLen; simp; omega) (by have := EN.out; simp; omega) (by have := HW7.out; simp; omega) ?_)
        intro v2 w8 hown2 hgr2 _
        obtain ⟨g, cap, cur, rfl, hg1, hg2, hg3, hg4, hg5, hsl⟩ := own_at (l := l ++ [nw]) encE_len (by simpa using hown2) (by simp)
        have HB9 := Lib.hid (below_grown (HB8.out.alloc HB8.out.size _) (Nat.le_refl _) hgr2 (fun k e => by
          have := (HOWN.out.lt k e).1
          have := HW6.out
          omega))
        have C7 := Lib.hid (C6.out w8 g cap hsl)
        have FIN : Hid (∀ w9, Below w8.heap.size w8 w9 → E = 0 → RAppPost w l house secret day body (.returned (.tuple #[.slice (some ⟨g, 0, none⟩) (n + 1) cap, .int .i64 0])) w9) := fun w9 hb he => POST.out _ w9 (HB9.out.trans (hb.mono HB9.out.size)) (.inr ⟨he, g, cap, rfl, hsl.below hb (Nat.le_refl _)⟩)
        have hlen : (l ++ [nw]).length = (n + 1) := by rw [List.length_append, List.length_singleton, ← EN.out]
        rw [hlen]
        clear hown2 hgr2 hg1 hg2 hg3 hg4 hg5 hsl HOWN HW6 HW7 HB8 B8 C6 c0 c1 c2 c3 c4 c5 c6 hlen hi hz0 hz1 hz2
        go_wp2_with fail
        refine C7.out.mono ?_
        rintro e w9 ⟨rfl, hb9⟩
        by_cases hms : ms = 0
        · have F9 := Lib.hid (FIN.out w9 hb9 (HE2.out.trans hms))
          subst hms
          clear FIN hb9
          go_wp2_with fail
          go_ret2
          exact F9.out
        · have hcb : (ms != 0) = true := by simp [hms]
          have F9 := Lib.hid (POST.out (.returned (.tuple #[.slice none 0 0, .int .i64 E])) w9 (HB9.out.trans (hb9.mono HB9.out.size)) (.inl ⟨by rw [HE2.out]; exact hms, rfl⟩))
          rw [HE2.out] at F9
          clear FIN hb9
          go_wp2_with fail
          go_ret2
          exact F9.out
    · have he : E = ce := by rw [HE.out, if_neg hce]
      have HE2 := Lib.hid he
      have hcb : (ce != 0) = true := by simp [hce]
      clear HE he
      go_wp2_with fail
      go_ret2
      exact POST.out _ _ HB1.out (.inl ⟨by rw [HE2.out]; exact hce, by rw [HE2.out]; rfl⟩)
  · have he : appE l house secret day body = 1 := by unfold appE; rw [if_neg hs]
    simp only [if_neg hs] at c0
    have C0 := Lib.hid c0
    have HE := Lib.hid he
    obtain ⟨y, ey⟩ : ∃ y, y = pubV secret := ⟨_, rfl⟩
    rw [← ey] at C0
    clear c0 he h hf hT ey
    go_enter Tryd.func27, Tryd.ntmps27
    go_wp2_with fail
    refine (C0.out _).mono ?_
    rintro e w' ⟨rfl, rfl⟩
    go_wp2_with fail
    go_ret2
    exact ⟨Below.refl _ _, .inl ⟨by rw [HE.out]; decide, by rw [HE.out]; rfl⟩⟩
end Go.Proofs.YtaaenobckipfkaaDoor

namespace Go.Proofs.YtaaenobckipfkaaDoor
open Go.RowKit Go.Blk Go.Opn Go.OpenShut Go.Apl

def RMT (w : World) (l : List E31) (kk : K31) (i : Value) (wr : World) : Prop := ∃ k : Nat, k ≤ l.length ∧ i = .int .i64 k ∧ Below w.heap.size w wr ∧ Blk wr w.heap.size (encK kk) 48
set_option maxRecDepth 100000 in
set_option maxHeartbeats 4000000 in
theorem mat31_any (A : Option Addr) (c : Nat) (l : List E31) (kk : K31) (w : World) (hl : l.length ≤ 9223372036854775807) (hlc : l.length ≤ c) (h : SL w 7 encE A l) (ho : ∀ a ∈ l, a.Ok) (hk : kk.Ok) (hT : HasT w) :
    Calls Tryd.prog 4 #[.slice A l.length c, .agg (encK kk).toArray] w fun r w' => r = .returned (.bool true) ∧ Below w.heap.size w w' := by
  obtain ⟨V, eV⟩ : ∃ V, V = w.alloc (.cells (encK kk).toArray 48) := ⟨_, rfl⟩
  have bk : Blk V w.heap.size (encK kk) 48 := by rw [eV]; exact Blk.new w (encK kk) 48
  have hbv : Below w.heap.size w V := by rw [eV]; exact (Below.refl _ _).alloc (Nat.le_refl _) _
  have BK := Lib.hid bk
  have HBV := Lib.hid hbv
  have HT := Lib.hid (hT.below hbv (Nat.le_refl _))
  have HT0 := Lib.hid hT
  have C1 : Hid (∀ w', Below w.heap.size w w' → Calls Tryd.prog 24 #[.slice A l.length c, .int .i64 14] w' fun e w2 => e = .returned (.bool (fewB l 14)) ∧ w' = w2) := fun w' hb => few_any A c 14 l w' (h.below hb (Nat.le_refl _)) hl
  obtain ⟨kh, ks, kp, kd, kb⟩ := kk
  obtain ⟨hk1, hk2, hk3, hk4, hk5⟩ := hk
  dsimp only at hk1 hk2 hk3 hk4 hk5
  clear bk hbv
  by_cases hfew : fewB l 14 = true
  · rw [hfew] at C1
    by_cases hbd : kb.size ≤ 2100
    · obtain ⟨hf, hl14⟩ := few_of ho hfew
      have hsm := few_small hfew
      have hbd2 : ¬ (2100 : Int) < (kb.size : Int) := by omega
      have HSM : Hid (∀ e ∈ l, SmallE e) := fun e he => ⟨ho e he, by have := hsm e he; omega, by have := hsm e he; omega⟩
      have HS := Lib.hid h
      have C2 : Hid (∀ w', Below w.heap.size w w' → Calls Tryd.prog 17 #[.slice A l.length c, .int .i64 kh, .int .i64 kp] w' (ChkPost w' (chk l kh kp))) := fun w' hb => check_any A c l kh kp w' (h.below hb (Nat.le_refl _)) hl hlc hf (hT.below hb (Nat.le_refl _))
      have C3 : Hid (∀ w', Below w.heap.size w w' → Calls Tryd.prog 25 #[.slice A l.length c, .int .i64 kh, .int .i64 kp] w' (ChkPost w' (chk l kh kp))) := fun w' hb => rcheck_any A c l kh kp w' (h.below hb (Nat.le_refl _)) (by omega) HSM.out
      have C4 : Hid (∀ w', Below w.heap.size w w' → Calls Tryd.prog 26 #[.slice A l.length c, .int .i64 kh, .int .i64 ks, .int .i64 kd, .string kb] w' (AppPost w' l kh ks kd kb)) := fun w' hb => app_any A c l kh ks kd kb w' (h.below hb (Nat.le_refl _)) (by omega) hlc hf hk1 hk2 hk3 hk4 (by omega) (hT.below hb (Nat.le_refl _))
      have C5 : Hid (∀ w', Below w.heap.size w w' → Calls Tryd.prog 27 #[.slice A l.length c, .int .i64 kh, .int .i64 ks, .int .i64 kd, .string kb] w' (RAppPost w' l kh ks kd kb)) := fun w' hb => rapp_any A c l kh ks kd kb w' (h.below hb (Nat.le_refl _)) (by omega) HSM.out hk1 hk2 hk3 hk4 (by omega) (hT.below hb (Nat.le_refl _))
      obtain ⟨cr, ecr⟩ : ∃ cr, cr = chk l kh kp := ⟨_, rfl⟩
      rw [← ecr] at C2 C3
      obtain ⟨ce, ca⟩ := cr
      have hce : (ce != ce) = false := by simp
      have hca : (ca != ca) = false := by simp
      obtain ⟨nw, enw⟩ : ∃ nw, nw = appN l kh ks kd kb := ⟨_, rfl⟩
      obtain ⟨E, eE⟩ : ∃ E, E = appE l kh ks kd kb := ⟨_, rfl⟩
      have ENW := Lib.hid enw
      have EE := Lib.hid eE
      have hEE : (E != E) = false := by simp
      clear h ho hT hfew hf hsm ecr enw eE
      go_enter Tryd.func4, Tryd.ntmps4
      go_wp2_with fail
      rw [← eV]
      refine (head31_any _ HT.out).mono ?_
      rintro e w1 ⟨rfl, hb1⟩
      have HB1 := Lib.hid (HBV.out.trans (hb1.mono HBV.out.size))
      have BK := Lib.hid (BK.out.below hb1 BK.out.lt)
      clear hb1
      have k0 := BK.out.cellD 0 _ rfl
      have k1 := BK.out.cellD 1 _ rfl
      have k2 := BK.out.cellD 2 _ rfl
      have k3 := BK.out.cellD 3 _ rfl
      have k4 := BK.out.cellD 4 _ rfl
      go_wp2_with fail
      refine (C1.out _ HB1.out).mono ?_
      rintro e w' ⟨rfl, rfl⟩
      clear C1
      go_wp2_with fail
      refine (C2.out _ HB1.out).mono ?_
      rintro e w2 ⟨rfl, bl⟩
      clear C2
      have HB2 := Lib.hid (HB1.out.trans (bl.mono HB1.out.size))
      have BK := Lib.hid (BK.out.below bl BK.out.lt)
      clear HB1 k0 k1 k2 k3 k4
      have k0 := BK.out.cellD 0 _ rfl
      have k1 := BK.out.cellD 1 _ rfl
      have k2 := BK.out.cellD 2 _ rfl
      have k3 := BK.out.cellD 3 _ rfl
      have k4 := BK.out.cellD 4 _ rfl
      clear bl
      simp only
      go_wp2_with fail
      refine (C3.out _ HB2.out).mono ?_
      rintro e w3 ⟨rfl, bl⟩
      clear C3
      have HB3 := Lib.hid (HB2.out.trans (bl.mono HB2.out.size))
      have BK := Lib.hid (BK.out.below bl BK.out.lt)
      clear HB2 k0 k1 k2 k3 k4
      have k0 := BK.out.cellD 0 _ rfl
      have k1 := BK.out.cellD 1 _ rfl
      have k2 := BK.out.cellD 2 _ rfl
      have k3 := BK.out.cellD 3 _ rfl
      have k4 := BK.out.cellD 4 _ rfl
      clear bl
      simp only
      go_wp2_with fail
      refine (C4.out _ HB3.out).mono ?_
      rintro e w4 ⟨bl, hr4⟩
      clear C4
      have HB4 := Lib.hid (HB3.out.trans (bl.mono HB3.out.size))
      have BK := Lib.hid (BK.out.below bl BK.out.lt)
      clear HB3 k0 k1 k2 k3 k4
      have k0 := BK.out.cellD 0 _ rfl
      have k1 := BK.out.cellD 1 _ rfl
      have k2 := BK.out.cellD 2 _ rfl
      have k3 := BK.out.cellD 3 _ rfl
      have k4 := BK.out.cellD 4 _ rfl
      clear bl
      rw [← EE.out, ← ENW.out] at hr4
      rcases hr4 with ⟨hE0, rfl⟩ | ⟨hE0, b, _, rfl, sl4⟩
      · simp only
        go_wp2_with fail
        refine (C5.out _ HB4.out).mono ?_
        rintro e w5 ⟨bl, hr5⟩
        clear C5
        rw [← EE.out, ← ENW.out] at hr5
        have HB5 := Lib.hid (HB4.out.trans (bl.mono HB4.out.size))
        have BK := Lib.hid (BK.out.below bl BK.out.lt)
        clear HB4 k0 k1 k2 k3 k4
        have k0 := BK.out.cellD 0 _ rfl
        have k1 := BK.out.cellD 1 _ rfl
        have k2 := BK.out.cellD 2 _ rfl
        have k3 := BK.out.cellD 3 _ rfl
        have k4 := BK.out.cellD 4 _ rfl
        clear bl
        rcases hr5 with ⟨_, rfl⟩ | ⟨hE1, _⟩
        · have CS := Lib.hid (fun w' => same_any none none 0 0 [] [] w' SL.nil SL.nil (by simp))
          clear hE0
          simp only
          go_wp2_with fail
          refine (CS.out _).mono ?_
          rintro e w6 ⟨rfl, bl⟩
          clear CS
          have HB6 := Lib.hid (HB5.out.trans (bl.mono HB5.out.size))
          have BK := Lib.hid (BK.out.below bl BK.out.lt)
          clear HB5 k0 k1 k2 k3 k4
          have k0 := BK.out.cellD 0 _ rfl
          have k1 := BK.out.cellD 1 _ rfl
          have k2 := BK.out.cellD 2 _ rfl
          have k3 := BK.out.cellD 3 _ rfl
          have k4 := BK.out.cellD 4 _ rfl
          clear bl
          rw [(sameB_iff [] []).2 rfl]
          go_wp2_with fail
          have HST : Hid (RMT w l ⟨kh, ks, kp, kd, kb⟩ (.int .i64 0) w6) := ⟨0, Nat.zero_le _, rfl, HB6.out, BK.out⟩
          clear HB6 BK k0 k1 k2 k3 k4
          go_loopw [14] (fun i wr => RMT w l ⟨kh, ks, kp, kd, kb⟩ i wr) (fun i _ => l.length - (intOf i).toNat)
          case atStart => exact HST.out
          case round =>
            clear HST
            obtain ⟨k, hk, rfl, hbr, bkr⟩ := hrel
            by_cases hlt : k < l.length
            · obtain ⟨x, hx⟩ : ∃ x, l[k]? = some x := ⟨_, List.getElem?_eq_getElem hlt⟩
              obtain ⟨m, hm⟩ : ∃ m, m = k - 1 := ⟨_, rfl⟩
              obtain ⟨y, hy⟩ : ∃ y, l[m]? = some y := ⟨_, List.getElem?_eq_getElem (by omega)⟩
              obtain ⟨bb, off, rfl, hcl⟩ := (HS.out.below hbr (Nat.le_refl _)).at_ hy
              have CX : Hid (∀ w', Below w.heap.size w w' → ∀ p u, (encE x)[p]? = some u → w'.cell? ⟨bb, off + k * 7 + p, none⟩ = some u) := fun w' hb p u hu => by
                obtain ⟨_, _, e1, h1⟩ := (HS.out.below hb (Nat.le_refl _)).at_ hx
                cases e1
                rw [Nat.add_assoc]; exact h1 p u hu
              have hsx := HSM.out x (List.mem_of_getElem? hx)
              have hsy := HSM.out y (List.mem_of_getElem? hy)
              obtain ⟨tx, etx⟩ : ∃ tx, tx = txE x := ⟨_, rfl⟩
              obtain ⟨F, eF⟩ : ∃ F, F = forkB x y kp := ⟨_, rfl⟩
              have D1 : Hid (∀ w', Below w.heap.size w w' → Calls Tryd.prog 19 #[.agg (encE x).toArray] w' fun en w2 => en = .returned (.string tx) ∧ Below w'.heap.size w' w2) := fun w' hb => by
                have := text31_any x w' hsx.1 (by have := hsx.2.1; omega) (by have := hsx.2.2; omega) (HT0.out.below hb (Nat.le_refl _))
                rw [← etx] at this; exact this
              have D2 : Hid (∀ w', Below w.heap.size w w' → Calls Tryd.prog 29 #[.agg (encE x).toArray] w' fun en w2 => en = .returned (.string tx) ∧ Below w'.heap.size w' w2) := fun w' _ => by
                have := rtext_any x w' hsx.1 (by have := hsx.2.1; omega) (by have := hsx.2.2; omega)
                rw [← etx] at this; exact this
              have D3 : Hid (∀ w', Below w.heap.size w w' → Calls Tryd.prog 21 #[.agg (encE x).toArray, .agg (encE y).toArray, .int .i64 kp] w' fun en w2 => en = .returned (.bool F) ∧ Below w'.heap.size w' w2) := fun w' hb => by
                have := fork_any x y kp w' hsx.1 hsy.1 (by have := hsx.2.1; omega) (by have := hsy.2.1; omega) (by have := hsx.2.2; omega) (by have := hsy.2.2; omega) (HT0.out.below hb (Nat.le_refl _))
                rw [← eF] at this; exact this
              have D4 : Hid (∀ w', Below w.heap.size w w' → Calls Tryd.prog 30 #[.agg (encE x).toArray, .agg (encE y).toArray, .int .i64 kp] w' fun en w2 => en = .returned (.bool F) ∧ Below w'.heap.size w' w2) := fun w' _ => by
                have := rfork_any x y kp w' hsx hsy
                rw [← eF] at this; exact this
              have hbf : (F != F) = false := by simp
              have hki : (k : Int) < (l.length : Int) := by omega
              have k00 : (0 : Int) ≤ (k : Int) := by omega
              have hmi : (m : Int) < (l.length : Int) := by omega
              have m00 : (0 : Int) ≤ (m : Int) := by omega
              have hwk : IntKind.i64.wrap ((k : Int) - 1) = (k : Int) - 1 := IntWalk.i64_in _ (by omega)
              have hmax : max ((k : Int) - 1) 0 = (m : Int) := by omega
              obtain ⟨yh, yq, yd, yp, yb, yr, ys⟩ := y
              have p0 := hcl 0 _ rfl
              have p1 := hcl 1 _ rfl
              have p2 := hcl 2 _ rfl
              have p3 := hcl 3 _ rfl
              have p4 := hcl 4 _ rfl
              have p5 := hcl 5 _ rfl
              have p6 := hcl 6 _ rfl
              simp only [← Nat.add_assoc, Nat.add_zero] at p0 p1 p2 p3 p4 p5 p6
              have HBR := Lib.hid hbr
              have BKR := Lib.hid bkr
              clear hcl hx hy hsx hsy etx eF hbr bkr hm
              go_wp2_with fail
              obtain ⟨U, eU⟩ : ∃ U, U = wr.alloc (.cells #[.int .i64 yh, .int .i64 yq, .int .i64 yd, .string yp, .string yb, .int .i64 yr, .int .i64 ys] 37) := ⟨_, rfl⟩
              have bx : Blk U wr.heap.size (encE ⟨yh, yq, yd, yp, yb, yr, ys⟩) 37 := by rw [eU]; exact Blk.new wr (encE ⟨yh, yq, yd, yp, yb, yr, ys⟩) 37
              have hbU : Below wr.heap.size wr U := by rw [eU]; exact (Below.refl _ _).alloc (Nat.le_refl _) _
              have BKU := Lib.hid (BKR.out.below hbU BKR.out.lt)
              have HBU := Lib.hid (HBR.out.trans (hbU.mono HBR.out.size))
              have kk2 := BKU.out.cellD 2 _ rfl
              rw [← eU]
              clear p0 p1 p2 p3 p4 p5 p6 eU hbU HBR BKR
              refine Free.wp_region_free 30 [(4, .det (.string tx)), (9, .det (.string tx)), (19, .det (.bool F)), (27, .det (.bool F))] (fun w2 => Below w.heap.size w w2 ∧ w2.cell? ⟨w.heap.size, 2, none⟩ = some (.int .i64 kp) ∧ Blk w2 wr.heap.size (encE ⟨yh, yq, yd, yp, yb, yr, ys⟩) 37) (by kernel_rfl) (by kernel_rfl) ?_ ⟨HBU.out.drew, kk2, bx.drew⟩
                (fun _ _ h g => ⟨h.1.trans (Below.mono g h.1.size), grow_cell h.2.1 g, h.2.2.below g h.2.2.lt⟩) ?_
              · intro j mk r hf
                simp only [Free.find] at hf
                repeat' split at hf
                all_goals (first | cases hf | skip)
              simp only [List.take_succ_cons, List.take_zero]
              clear kk2 bx
              iterate 3 (apply Free.chain_still (by first | exact Free.wanted_of rfl rfl rfl | rfl) rfl; (intro w' hB hA; obtain ⟨qT, q2, qB⟩ := hB; clear hA  qT qB; go_light; go_simp <;> rfl); (try simp only [Act.put, List.setIfInBounds_toArray, List.set_cons_succ, List.set_cons_zero]))
              apply Free.chain_still (by first | exact Free.wanted_of rfl rfl rfl | rfl) rfl
              · intro w' hB hA
                exact exec_entry (x := x) rfl rfl (CX.out w' hB.1)
              simp only [Act.put, List.setIfInBounds_toArray, List.set_cons_succ, List.set_cons_zero]
              apply Free.chain_det (by first | exact Free.wanted_of rfl rfl rfl | rfl) rfl
              · intro w' hB hA
                refine Free.opRun_call (f := 19) (args := #[.agg (encE x).toArray]) (by clear hB hA; go_simp <;> rfl) ?_
                refine (D1.out _ hB.1).mono ?_
                rintro e w3 ⟨rfl, hb3⟩
                exact ⟨_, rfl, hb3, rfl⟩
              simp only [Act.put, List.setIfInBounds_toArray, List.set_cons_succ, List.set_cons_zero]
              iterate 3 (apply Free.chain_still (by first | exact Free.wanted_of rfl rfl rfl | rfl) rfl; (intro w' hB hA; obtain ⟨qT, q2, qB⟩ := hB; clear hA  qT qB; go_light; go_simp <;> rfl); (try simp only [Act.put, List.setIfInBounds_toArray, List.set_cons_succ, List.set_cons_zero]))
              apply Free.chain_still (by first | exact Free.wanted_of rfl rfl rfl | rfl) rfl
              · intro w' hB hA
                exact exec_entry (x := x) rfl rfl (CX.out w' hB.1)
              simp only [Act.put, List.setIfInBounds_toArray, List.set_cons_succ, List.set_cons_zero]
              apply Free.chain_det (by first | exact Free.wanted_of rfl rfl rfl | rfl) rfl
              · intro w' hB hA
                refine Free.opRun_call (f := 29) (args := #[.agg (encE x).toArray]) (by clear hB hA; go_simp <;> rfl) ?_
                refine (D2.out _ hB.1).mono ?_
                rintro e w3 ⟨rfl, hb3⟩
                exact ⟨_, rfl, hb3, rfl⟩
              simp only [Act.put, List.setIfInBounds_toArray, List.set_cons_succ, List.set_cons_zero]
              iterate 5 (apply Free.chain_still (by first | exact Free.wanted_of rfl rfl rfl | rfl) rfl; (intro w' hB hA; obtain ⟨qT, q2, qB⟩ := hB; clear hA  qT qB; go_light; go_simp <;> rfl); (try simp only [Act.put, List.setIfInBounds_toArray, List.set_cons_succ, List.set_cons_zero]))
              apply Free.chain_still (by first | exact Free.wanted_of rfl rfl rfl | rfl) rfl
              · intro w' hB hA
                exact exec_entry (x := x) rfl rfl (CX.out w' hB.1)
              simp only [Act.put, List.setIfInBounds_toArray, List.set_cons_succ, List.set_cons_zero]
              apply Free.chain_still (by first | exact Free.wanted_of rfl rfl rfl | rfl) rfl
              · intro w' hB hA
                exact exec_entry (x := ⟨yh, yq, yd, yp, yb, yr, ys⟩) rfl rfl (fun p u hu => by rw [Nat.zero_add]; exact hB.2.2.cellD p u hu)
              simp only [Act.put, List.setIfInBounds_toArray, List.set_cons_succ, List.set_cons_zero]
              iterate 2 (apply Free.chain_still (by first | exact Free.wanted_of rfl rfl rfl | rfl) rfl; (intro w' hB hA; obtain ⟨qT, q2, qB⟩ := hB; clear hA  qT qB; go_light; go_simp <;> rfl); (try simp only [Act.put, List.setIfInBounds_toArray, List.set_cons_succ, List.set_cons_zero]))
              apply Free.chain_det (by first | exact Free.wanted_of rfl rfl rfl | rfl) rfl
              · intro w' hB hA
                refine Free.opRun_call (f := 21) (args := #[.agg (encE x).toArray, .agg (encE ⟨yh, yq, yd, yp, yb, yr, ys⟩).toArray, .int .i64 kp]) (by clear hB hA; go_simp <;> rfl) ?_
                refine (D3.out _ hB.1).mono ?_
                rintro e w3 ⟨rfl, hb3⟩
                exact ⟨_, rfl, hb3, rfl⟩
              simp only [Act.put, List.setIfInBounds_toArray, List.set_cons_succ, List.set_cons_zero]
              iterate 3 (apply Free.chain_still (by first | exact Free.wanted_of rfl rfl rfl | rfl) rfl; (intro w' hB hA; obtain ⟨qT, q2, qB⟩ := hB; clear hA  qT qB; go_light; go_simp <;> rfl); (try simp only [Act.put, List.setIfInBounds_toArray, List.set_cons_succ, List.set_cons_zero]))
              apply Free.chain_still (by first | exact Free.wanted_of rfl rfl rfl | rfl) rfl
              · intro w' hB hA
                exact exec_entry (x := x) rfl rfl (CX.out w' hB.1)
              simp only [Act.put, List.setIfInBounds_toArray, List.set_cons_succ, List.set_cons_zero]
              apply Free.chain_still (by first | exact Free.wanted_of rfl rfl rfl | rfl) rfl
              · intro w' hB hA
                exact exec_entry (x := ⟨yh, yq, yd, yp, yb, yr, ys⟩) rfl rfl (fun p u hu => by rw [Nat.zero_add]; exact hB.2.2.cellD p u hu)
              simp only [Act.put, List.setIfInBounds_toArray, List.set_cons_succ, List.set_cons_zero]
              iterate 2 (apply Free.chain_still (by first | exact Free.wanted_of rfl rfl rfl | rfl) rfl; (intro w' hB hA; obtain ⟨qT, q2, qB⟩ := hB; clear hA  qT qB; go_light; go_simp <;> rfl); (try simp only [Act.put, List.setIfInBounds_toArray, List.set_cons_succ, List.set_cons_zero]))
              apply Free.chain_det (by first | exact Free.wanted_of rfl rfl rfl | rfl) rfl
              · intro w' hB hA
                refine Free.opRun_call (f := 30) (args := #[.agg (encE x).toArray, .agg (encE ⟨yh, yq, yd, yp, yb, yr, ys⟩).toArray, .int .i64 kp]) (by clear hB hA; go_simp <;> rfl) ?_
                refine (D4.out _ hB.1).mono ?_
                rintro e w3 ⟨rfl, hb3⟩
                exact ⟨_, rfl, hb3, rfl⟩
              simp only [Act.put, List.setIfInBounds_toArray, List.set_cons_succ, List.set_cons_zero]
              iterate 2 (apply Free.chain_still (by first | exact Free.wanted_of rfl rfl rfl | rfl) rfl; (intro w' hB hA; obtain ⟨qT, q2, qB⟩ := hB; clear hA  qT qB; go_light; go_simp <;> rfl); (try simp only [Act.put, List.setIfInBounds_toArray, List.set_cons_succ, List.set_cons_zero]))
              apply Free.chain_nil
              intro wy hBz hg _
              have hz := grow_drew2 hg
              have KEY : Hid (RMT w l ⟨kh, ks, kp, kd, kb⟩ (.int .i64 ((k : Int) + 1)) wy) := ⟨k + 1, hlt, by go_num, hBz.1, BKU.out.below hz BKU.out.lt⟩
              simp only [List.drop_succ_cons, List.drop_zero]
              clear hBz hg hz BKU HBU D1 D2 D3 D4 CX hbf
              go_wp2_with fail
              go_roundw
              case rel =>
                go_light
                have key := KEY.out
                first | exact key | ((repeat apply Exists.intro); exact ⟨key, rfl⟩)
              case measure => simp [intOf]; omega
            · have hki : ¬ ((k : Int) < (l.length : Int)) := by omega
              have HBR := Lib.hid hbr
              clear hbr bkr
              go_wp2_with fail
              go_ret
              exact ⟨rfl, HBR.out⟩
        · exact absurd hE1 hE0
      · simp only
        have S4 := Lib.hid sl4
        clear sl4
        go_wp2_with fail
        refine (C5.out _ HB4.out).mono ?_
        rintro e w5 ⟨bl, hr5⟩
        clear C5
        rw [← EE.out, ← ENW.out] at hr5
        have S5 := Lib.hid (S4.out.below bl (Nat.le_refl _))
        have HB5 := Lib.hid (HB4.out.trans (bl.mono HB4.out.size))
        have BK := Lib.hid (BK.out.below bl BK.out.lt)
        clear HB4 k0 k1 k2 k3 k4
        have k0 := BK.out.cellD 0 _ rfl
        have k1 := BK.out.cellD 1 _ rfl
        have k2 := BK.out.cellD 2 _ rfl
        have k3 := BK.out.cellD 3 _ rfl
        have k4 := BK.out.cellD 4 _ rfl
        clear bl S4
        rcases hr5 with ⟨hE1, _⟩ | ⟨_, b', cap, rfl, sl5⟩
        · exact absurd hE0 hE1
        · have CS : Hid (Calls Tryd.prog 28 #[.slice (some ⟨b, 0, none⟩) (l.length + 1) (l.length + 1), .slice (some ⟨b', 0, none⟩) (l.length + 1) cap] w5 fun e w2 => e = .returned (.bool true) ∧ Below w5.heap.size w5 w2) := by
            have := same_any (some ⟨b, 0, none⟩) (some ⟨b', 0, none⟩) (l.length + 1) cap (l ++ [nw]) (l ++ [nw]) w5 S5.out sl5 (by simp; omega)
            rw [(sameB_iff _ _).2 rfl, List.length_append, List.length_singleton] at this; exact this
          clear hE0 sl5 S5
          simp only
          go_wp2_with fail
          refine CS.out.mono ?_
          rintro e w6 ⟨rfl, bl⟩
          clear CS
          have HB6 := Lib.hid (HB5.out.trans (bl.mono HB5.out.size))
          have BK := Lib.hid (BK.out.below bl BK.out.lt)
          clear HB5 k0 k1 k2 k3 k4
          have k0 := BK.out.cellD 0 _ rfl
          have k1 := BK.out.cellD 1 _ rfl
          have k2 := BK.out.cellD 2 _ rfl
          have k3 := BK.out.cellD 3 _ rfl
          have k4 := BK.out.cellD 4 _ rfl
          clear bl
          go_wp2_with fail
          have HST : Hid (RMT w l ⟨kh, ks, kp, kd, kb⟩ (.int .i64 0) w6) := ⟨0, Nat.zero_le _, rfl, HB6.out, BK.out⟩
          clear HB6 BK k0 k1 k2 k3 k4
          go_loopw [14] (fun i wr => RMT w l ⟨kh, ks, kp, kd, kb⟩ i wr) (fun i _ => l.length - (intOf i).toNat)
          case atStart => exact HST.out
          case round =>
            clear HST
            obtain ⟨k, hk, rfl, hbr, bkr⟩ := hrel
            by_cases hlt : k < l.length
            · obtain ⟨x, hx⟩ : ∃ x, l[k]? = some x := ⟨_, List.getElem?_eq_getElem hlt⟩
              obtain ⟨m, hm⟩ : ∃ m, m = k - 1 := ⟨_, rfl⟩
              obtain ⟨y, hy⟩ : ∃ y, l[m]? = some y := ⟨_, List.getElem?_eq_getElem (by omega)⟩
              obtain ⟨bb, off, rfl, hcl⟩ := (HS.out.below hbr (Nat.le_refl _)).at_ hy
              have CX : Hid (∀ w', Below w.heap.size w w' → ∀ p u, (encE x)[p]? = some u → w'.cell? ⟨bb, off + k * 7 + p, none⟩ = some u) := fun w' hb p u hu => by
                obtain ⟨_, _, e1, h1⟩ := (HS.out.below hb (Nat.le_refl _)).at_ hx
                cases e1
                rw [Nat.add_assoc]; exact h1 p u hu
              have hsx := HSM.out x (List.mem_of_getElem? hx)
              have hsy := HSM.out y (List.mem_of_getElem? hy)
              obtain ⟨tx, etx⟩ : ∃ tx, tx = txE x := ⟨_, rfl⟩
              obtain ⟨F, eF⟩ : ∃ F, F = forkB x y kp := ⟨_, rfl⟩
              have D1 : Hid (∀ w', Below w.heap.size w w' → Calls Tryd.prog 19 #[.agg (encE x).toArray] w' fun en w2 => en = .returned (.string tx) ∧ Below w'.heap.size w' w2) := fun w' hb => by
                have := text31_any x w' hsx.1 (by have := hsx.2.1; omega) (by have := hsx.2.2; omega) (HT0.out.below hb (Nat.le_refl _))
                rw [← etx] at this; exact this
              have D2 : Hid (∀ w', Below w.heap.size w w' → Calls Tryd.prog 29 #[.agg (encE x).toArray] w' fun en w2 => en = .returned (.string tx) ∧ Below w'.heap.size w' w2) := fun w' _ => by
                have := rtext_any x w' hsx.1 (by have := hsx.2.1; omega) (by have := hsx.2.2; omega)
                rw [← etx] at this; exact this
              have D3 : Hid (∀ w', Below w.heap.size w w' → Calls Tryd.prog 21 #[.agg (encE x).toArray, .agg (encE y).toArray, .int .i64 kp] w' fun en w2 => en = .returned (.bool F) ∧ Below w'.heap.size w' w2) := fun w' hb => by
                have := fork_any x y kp w' hsx.1 hsy.1 (by have := hsx.2.1; omega) (by have := hsy.2.1; omega) (by have := hsx.2.2; omega) (by have := hsy.2.2; omega) (HT0.out.below hb (Nat.le_refl _))
                rw [← eF] at this; exact this
              have D4 : Hid (∀ w', Below w.heap.size w w' → Calls Tryd.prog 30 #[.agg (encE x).toArray, .agg (encE y).toArray, .int .i64 kp] w' fun en w2 => en = .returned (.bool F) ∧ Below w'.heap.size w' w2) := fun w' _ => by
                have := rfork_any x y kp w' hsx hsy
                rw [← eF] at this; exact this
              have hbf : (F != F) = false := by simp
              have hki : (k : Int) < (l.length : Int) := by omega
              have k00 : (0 : Int) ≤ (k : Int) := by omega
              have hmi : (m : Int) < (l.length : Int) := by omega
              have m00 : (0 : Int) ≤ (m : Int) := by omega
              have hwk : IntKind.i64.wrap ((k : Int) - 1) = (k : Int) - 1 := IntWalk.i64_in _ (by omega)
              have hmax : max ((k : Int) - 1) 0 = (m : Int) := by omega
              obtain ⟨yh, yq, yd, yp, yb, yr, ys⟩ := y
              have p0 := hcl 0 _ rfl
              have p1 := hcl 1 _ rfl
              have p2 := hcl 2 _ rfl
              have p3 := hcl 3 _ rfl
              have p4 := hcl 4 _ rfl
              have p5 := hcl 5 _ rfl
              have p6 := hcl 6 _ rfl
              simp only [← Nat.add_assoc, Nat.add_zero] at p0 p1 p2 p3 p4 p5 p6
              have HBR := Lib.hid hbr
              have BKR := Lib.hid bkr
              clear hcl hx hy hsx hsy etx eF hbr bkr hm
              go_wp2_with fail
              obtain ⟨U, eU⟩ : ∃ U, U = wr.alloc (.cells #[.int .i64 yh, .int .i64 yq, .int .i64 yd, .string yp, .string yb, .int .i64 yr, .int .i64 ys] 37) := ⟨_, rfl⟩
              have bx : Blk U wr.heap.size (encE ⟨yh, yq, yd, yp, yb, yr, ys⟩) 37 := by rw [eU]; exact Blk.new wr (encE ⟨yh, yq, yd, yp, yb, yr, ys⟩) 37
              have hbU : Below wr.heap.size wr U := by rw [eU]; exact (Below.refl _ _).alloc (Nat.le_refl _) _
              have BKU := Lib.hid (BKR.out.below hbU BKR.out.lt)
              have HBU := Lib.hid (HBR.out.trans (hbU.mono HBR.out.size))
              have kk2 := BKU.out.cellD 2 _ rfl
              rw [← eU]
              clear p0 p1 p2 p3 p4 p5 p6 eU hbU HBR BKR
              refine Free.wp_region_free 30 [(4, .det (.string tx)), (9, .det (.string tx)), (19, .det (.bool F)), (27, .det (.bool F))] (fun w2 => Below w.heap.size w w2 ∧ w2.cell? ⟨w.heap.size, 2, none⟩ = some (.int .i64 kp) ∧ Blk w2 wr.heap.size (encE ⟨yh, yq, yd, yp, yb, yr, ys⟩) 37) (by kernel_rfl) (by kernel_rfl) ?_ ⟨HBU.out.drew, kk2, bx.drew⟩
                (fun _ _ h g => ⟨h.1.trans (Below.mono g h.1.size), grow_cell h.2.1 g, h.2.2.below g h.2.2.lt⟩) ?_
              · intro j mk r hf
                simp only [Free.find] at hf
                repeat' split at hf
                all_goals (first | cases hf | skip)
              simp only [List.take_succ_cons, List.take_zero]
              clear kk2 bx
              iterate 3 (apply Free.chain_still (by first | exact Free.wanted_of rfl rfl rfl | rfl) rfl; (intro w' hB hA; obtain ⟨qT, q2, qB⟩ := hB; clear hA  qT qB; go_light; go_simp <;> rfl); (try simp only [Act.put, List.setIfInBounds_toArray, List.set_cons_succ, List.set_cons_zero]))
              apply Free.chain_still (by first | exact Free.wanted_of rfl rfl rfl | rfl) rfl
              · intro w' hB hA
                exact exec_entry (x := x) rfl rfl (CX.out w' hB.1)
              simp only [Act.put, List.setIfInBounds_toArray, List.set_cons_succ, List.set_cons_zero]
              apply Free.chain_det (by first | exact Free.wanted_of rfl rfl rfl | rfl) rfl
              · intro w' hB hA
                refine Free.opRun_call (f := 19) (args := #[.agg (encE x).toArray]) (by clear hB hA; go_simp <;> rfl) ?_
                refine (D1.out _ hB.1).mono ?_
                rintro e w3 ⟨rfl, hb3⟩
                exact ⟨_, rfl, hb3, rfl⟩
              simp only [Act.put, List.setIfInBounds_toArray, List.set_cons_succ, List.set_cons_zero]
              iterate 3 (apply Free.chain_still (by first | exact Free.wanted_of rfl rfl rfl | rfl) rfl; (intro w' hB hA; obtain ⟨qT, q2, qB⟩ := hB; clear hA  qT qB; go_light; go_simp <;> rfl); (try simp only [Act.put, List.setIfInBounds_toArray, List.set_cons_succ, List.set_cons_zero]))
              apply Free.chain_still (by first | exact Free.wanted_of rfl rfl rfl | rfl) rfl
              · intro w' hB hA
                exact exec_entry (x := x) rfl rfl (CX.out w' hB.1)
              simp only [Act.put, List.setIfInBounds_toArray, List.set_cons_succ, List.set_cons_zero]
              apply Free.chain_det (by first | exact Free.wanted_of rfl rfl rfl | rfl) rfl
              · intro w' hB hA
                refine Free.opRun_call (f := 29) (args := #[.agg (encE x).toArray]) (by clear hB hA; go_simp <;> rfl) ?_
                refine (D2.out _ hB.1).mono ?_
                rintro e w3 ⟨rfl, hb3⟩
                exact ⟨_, rfl, hb3, rfl⟩
              simp only [Act.put, List.setIfInBounds_toArray, List.set_cons_succ, List.set_cons_zero]
              iterate 5 (apply Free.chain_still (by first | exact Free.wanted_of rfl rfl rfl | rfl) rfl; (intro w' hB hA; obtain ⟨qT, q2, qB⟩ := hB; clear hA  qT qB; go_light; go_simp <;> rfl); (try simp only [Act.put, List.setIfInBounds_toArray, List.set_cons_succ, List.set_cons_zero]))
              apply Free.chain_still (by first | exact Free.wanted_of rfl rfl rfl | rfl) rfl
              · intro w' hB hA
                exact exec_entry (x := x) rfl rfl (CX.out w' hB.1)
              simp only [Act.put, List.setIfInBounds_toArray, List.set_cons_succ, List.set_cons_zero]
              apply Free.chain_still (by first | exact Free.wanted_of rfl rfl rfl | rfl) rfl
              · intro w' hB hA
                exact exec_entry (x := ⟨yh, yq, yd, yp, yb, yr, ys⟩) rfl rfl (fun p u hu => by rw [Nat.zero_add]; exact hB.2.2.cellD p u hu)
              simp only [Act.put, List.setIfInBounds_toArray, List.set_cons_succ, List.set_cons_zero]
              iterate 2 (apply Free.chain_still (by first | exact Free.wanted_of rfl rfl rfl | rfl) rfl; (intro w' hB hA; obtain ⟨qT, q2, qB⟩ := hB; clear hA  qT qB; go_light; go_simp <;> rfl); (try simp only [Act.put, List.setIfInBounds_toArray, List.set_cons_succ, List.set_cons_zero]))
              apply Free.chain_det (by first | exact Free.wanted_of rfl rfl rfl | rfl) rfl
              · intro w' hB hA
                refine Free.opRun_call (f := 21) (args := #[.agg (encE x).toArray, .agg (encE ⟨yh, yq, yd, yp, yb, yr, ys⟩).toArray, .int .i64 kp]) (by clear hB hA; go_simp <;> rfl) ?_
                refine (D3.out _ hB.1).mono ?_
                rintro e w3 ⟨rfl, hb3⟩
                exact ⟨_, rfl, hb3, rfl⟩
              simp only [Act.put, List.setIfInBounds_toArray, List.set_cons_succ, List.set_cons_zero]
              iterate 3 (apply Free.chain_still (by first | exact Free.wanted_of rfl rfl rfl | rfl) rfl; (intro w' hB hA; obtain ⟨qT, q2, qB⟩ := hB; clear hA  qT qB; go_light; go_simp <;> rfl); (try simp only [Act.put, List.setIfInBounds_toArray, List.set_cons_succ, List.set_cons_zero]))
              apply Free.chain_still (by first | exact Free.wanted_of rfl rfl rfl | rfl) rfl
              · intro w' hB hA
                exact exec_entry (x := x) rfl rfl (CX.out w' hB.1)
              simp only [Act.put, List.setIfInBounds_toArray, List.set_cons_succ, List.set_cons_zero]
              apply Free.chain_still (by first | exact Free.wanted_of rfl rfl rfl | rfl) rfl
              · intro w' hB hA
                exact exec_entry (x := ⟨yh, yq, yd, yp, yb, yr, ys⟩) rfl rfl (fun p u hu => by rw [Nat.zero_add]; exact hB.2.2.cellD p u hu)
              simp only [Act.put, List.setIfInBounds_toArray, List.set_cons_succ, List.set_cons_zero]
              iterate 2 (apply Free.chain_still (by first | exact Free.wanted_of rfl rfl rfl | rfl) rfl; (intro w' hB hA; obtain ⟨qT, q2, qB⟩ := hB; clear hA  qT qB; go_light; go_simp <;> rfl); (try simp only [Act.put, List.setIfInBounds_toArray, List.set_cons_succ, List.set_cons_zero]))
              apply Free.chain_det (by first | exact Free.wanted_of rfl rfl rfl | rfl) rfl
              · intro w' hB hA
                refine Free.opRun_call (f := 30) (args := #[.agg (encE x).toArray, .agg (encE ⟨yh, yq, yd, yp, yb, yr, ys⟩).toArray, .int .i64 kp]) (by clear hB hA; go_simp <;> rfl) ?_
                refine (D4.out _ hB.1).mono ?_
                rintro e w3 ⟨rfl, hb3⟩
                exact ⟨_, rfl, hb3, rfl⟩
              simp only [Act.put, List.setIfInBounds_toArray, List.set_cons_succ, List.set_cons_zero]
              iterate 2 (apply Free.chain_still (by first | exact Free.wanted_of rfl rfl rfl | rfl) rfl; (intro w' hB hA; obtain ⟨qT, q2, qB⟩ := hB; clear hA  qT qB; go_light; go_simp <;> rfl); (try simp only [Act.put, List.setIfInBounds_toArray, List.set_cons_succ, List.set_cons_zero]))
              apply Free.chain_nil
              intro wy hBz hg _
              have hz := grow_drew2 hg
              have KEY : Hid (RMT w l ⟨kh, ks, kp, kd, kb⟩ (.int .i64 ((k : Int) + 1)) wy) := ⟨k + 1, hlt, by go_num, hBz.1, BKU.out.below hz BKU.out.lt⟩
              simp only [List.drop_succ_cons, List.drop_zero]
              clear hBz hg hz BKU HBU D1 D2 D3 D4 CX hbf
              go_wp2_with fail
              go_roundw
              case rel =>
                go_light
                have key := KEY.out
                first | exact key | ((repeat apply Exists.intro); exact ⟨key, rfl⟩)
              case measure => simp [intOf]; omega
            · have hki : ¬ ((k : Int) < (l.length : Int)) := by omega
              have HBR := Lib.hid hbr
              clear hbr bkr
              go_wp2_with fail
              go_ret
              exact ⟨rfl, HBR.out⟩
    · have hbd2 : (2100 : Int) < (kb.size : Int) := by omega
      clear h ho hT hfew
      go_enter Tryd.func4, Tryd.ntmps4
      go_wp2_with fail
      rw [← eV]
      refine (head31_any _ HT.out).mono ?_
      rintro e w1 ⟨rfl, hb1⟩
      have HB1 := Lib.hid (HBV.out.trans (hb1.mono HBV.out.size))
      have BK := Lib.hid (BK.out.below hb1 BK.out.lt)
      clear hb1
      have k0 := BK.out.cellD 0 _ rfl
      have k1 := BK.out.cellD 1 _ rfl
      have k2 := BK.out.cellD 2 _ rfl
      have k3 := BK.out.cellD 3 _ rfl
      have k4 := BK.out.cellD 4 _ rfl
      go_wp2_with fail
      refine (C1.out _ HB1.out).mono ?_
      rintro e w' ⟨rfl, rfl⟩
      clear C1
      go_wp2_with fail
      go_ret
      exact ⟨rfl, HB1.out⟩
  · have hff : fewB l 14 = false := by cases hb : fewB l 14 with | true => exact absurd hb hfew | false => rfl
    rw [hff] at C1
    clear h ho hT hfew hff
    go_enter Tryd.func4, Tryd.ntmps4
    go_wp2_with fail
    rw [← eV]
    refine (head31_any _ HT.out).mono ?_
    rintro e w1 ⟨rfl, hb1⟩
    have HB1 := Lib.hid (HBV.out.trans (hb1.mono HBV.out.size))
    have BK := Lib.hid (BK.out.below hb1 BK.out.lt)
    clear hb1
    have k0 := BK.out.cellD 0 _ rfl
    have k1 := BK.out.cellD 1 _ rfl
    have k2 := BK.out.cellD 2 _ rfl
    have k3 := BK.out.cellD 3 _ rfl
    have k4 := BK.out.cellD 4 _ rfl
    go_wp2_with fail
    refine (C1.out _ HB1.out).mono ?_
    rintro e w' ⟨rfl, rfl⟩
    clear C1
    go_wp2_with fail
    go_ret
    exact ⟨rfl, HB1.out⟩
end Go.Proofs.YtaaenobckipfkaaDoor
