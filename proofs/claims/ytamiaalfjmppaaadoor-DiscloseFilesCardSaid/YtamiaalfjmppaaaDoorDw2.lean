/- The law DiscloseProves, walked. Condition: the variables of digest and of strconv hold their numbers. -/
import Derived.Test.YtamiaalfjmppaaaDoorDw0
namespace Go.Proofs.YtamiaalfjmppaaaDoor
open Go.RowKit Go.Blk Go.Sg Go.Opn Go.Di

/-- What every function of the law 34 begins with: the facts, salts and their leaves. -/
def rootOf (l : List ByteArray) : ByteArray := if l = [] then sumB KC ⟨#[110, 111, 110, 101]⟩ else rootL l
theorem rootOf_ne {l : List ByteArray} (h : 0 < l.length) : rootOf l = rootL l := by
  unfold rootOf; rw [if_neg (fun e => by rw [e] at h; exact absurd h (by decide))]
theorem rootOf_size (l : List ByteArray) (h : Short l) (h2 : l.length < 9223372036854775808) : (rootOf l).size ≤ 1000000000 := by
  unfold rootOf
  split
  · have : (sumB KC ⟨#[110, 111, 110, 101]⟩).size = 64 := sumB_size _
    omega
  · rename_i hn; exact rootL_size l h hn h2
theorem short_200 {l : List ByteArray} (h : ∀ b ∈ l, b.size ≤ 200) : Short l := fun b hb => by have := h b hb; omega
theorem rootL_size0 (l : List ByteArray) (h : Short l) (h2 : l.length < 9223372036854775808) : (rootL l).size ≤ 1000000000 := by
  by_cases h1 : l = []
  · subst h1
    rw [rootL, if_pos (by decide)]; decide
  · exact rootL_size l h h1 h2
theorem outP_short : ∀ (p : List (Nat × Bool)) (l : List ByteArray), Short l → l.length < 9223372036854775808 → Short (outP l p)
  | [], _, _, _ => fun b hb => by cases hb
  | x :: p, l, h, h2 => by
    have t1 : Short (l.take x.1) := h.take _
    have t2 : Short (l.drop x.1) := h.drop _
    have n1 : (l.take x.1).length < 9223372036854775808 := by rw [List.length_take]; omega
    have n2 : (l.drop x.1).length < 9223372036854775808 := by rw [List.length_drop]; omega
    intro b hb
    have hb : b ∈ rootL (if x.2 then l.drop x.1 else l.take x.1) :: outP (if x.2 then l.take x.1 else l.drop x.1) p := hb
    rcases List.mem_cons.1 hb with rfl | hb
    · split
      · exact rootL_size0 _ t2 n2
      · exact rootL_size0 _ t1 n1
    · refine outP_short p _ ?_ ?_ b hb
      · split <;> assumption
      · split <;> assumption
theorem path_texts (l : List ByteArray) (i : Nat) (h : Short l) (h2 : l.length < 9223372036854775808) : Short (pathL l i) := fun b hb => outP_short _ l h h2 b (List.mem_reverse.1 hb)
def RUpto (w : World) (n : Nat) (i : Value) (wr : World) : Prop := ∃ k : Nat, k ≤ n ∧ i = .int .i64 (k : Int) ∧ Below w.heap.size w wr
theorem check_leaf {l : List Fac} {salts : List ByteArray} {k : Nat} {x : Fac} (hl : l.length ≤ 4000) (hx : l[k]? = some x) :
    checkD (rootOf (leavesA l salts)) (l.length : Int) (k : Int) x (saltA salts k) (pathL (leavesA l salts) k) = true := by
  have h1 := (List.getElem?_eq_some_iff.1 hx).1
  rw [rootOf_ne (by rw [leavesA_len]; omega)]
  have := check_path (leavesA l salts) k x (saltA salts k) (by rw [leavesA_len]; exact hl) (leavesA_at hx)
  rw [leavesA_len] at this
  exact this
set_option maxRecDepth 100000 in
set_option maxHeartbeats 4000000 in
theorem proves34_law (A B : Option Addr) (c d : Nat) (l : List Fac) (salts : List ByteArray) (w : World) (hl : l.length ≤ 9223372036854775807) (hs1 : SL w 6 encF A l) (ho : ∀ a ∈ l, a.Ok) (hl2 : salts.length ≤ 9223372036854775807) (hs2 : SL w 1 encS B salts) (hT : HasT w) :
    Calls Tryd.prog 5 #[.slice A l.length c, .slice B salts.length d] w fun r w' => r = .returned (.bool true) ∧ Below w.heap.size w w' := by
  obtain ⟨R, eR⟩ : ∃ R : Ending → World → Prop, R = fun r w' => r = .returned (.bool true) ∧ Below w.heap.size w w' := ⟨_, rfl⟩
  rw [← eR]
  have FIN : Hid (∀ w', Below w.heap.size w w' → R (.returned (.bool true)) w') := fun w' hb => by rw [eR]; exact ⟨rfl, hb⟩
  have HH := Lib.hid (head34_any w hT)
  have S1 := Lib.hid hs1
  have S2 := Lib.hid hs2
  have OK := Lib.hid ho
  have HT := Lib.hid hT
  clear eR hs1 hs2 ho hT
  go_enter Tryd.func5, Tryd.ntmps5
  go_wp2_with fail
  refine HH.out.mono ?_
  rintro e w1 ⟨rfl, hb1⟩
  have HB1 := Lib.hid hb1
  clear hb1 HH
  by_cases h1 : 40 < l.length
  · have q1 : (40 : Int) < (l.length : Int) := by omega
    clear h1
    go_wp2_with fail
    exact FIN.out _ HB1.out
  have q1 : ¬ (40 : Int) < (l.length : Int) := by omega
  have CS := Lib.hid (small_any B d 40 salts w1 (S2.out.below HB1.out (Nat.le_refl _)) hl2)
  obtain ⟨F, eF⟩ : ∃ F, F = smallB salts 40 := ⟨_, rfl⟩
  rw [← eF] at CS
  have EF := Lib.hid eF
  clear eF
  go_wp2_with fail
  refine CS.out.mono ?_
  rintro e w' ⟨rfl, rfl⟩
  clear CS
  cases F with
  | false =>
    go_wp2_with fail
    exact FIN.out _ HB1.out
  | true =>
    have HSM := Lib.hid (smallB_short EF.out.symm)
    have CL := Lib.hid (leaves_any A B c d l salts w1 (S1.out.below HB1.out (Nat.le_refl _)) (S2.out.below HB1.out (Nat.le_refl _)) (by omega) OK.out (short_200 HSM.out.2) (HT.out.below HB1.out (Nat.le_refl _)))
    go_wp2_with fail
    refine CL.out.mono ?_
    rintro e w2 ⟨⟨A', c', hc', rfl, hsl⟩, hb2⟩
    have HB2 := Lib.hid (HB1.out.trans (hb2.mono HB1.out.size))
    have HSL := Lib.hid hsl
    have LV := Lib.hid (leavesA_len l salts)
    have LVS := Lib.hid (leavesA_short l salts)
    have HCK : Hid (∀ (k : Nat) (x : Fac), l[k]? = some x → checkD (rootOf (leavesA l salts)) (l.length : Int) (k : Int) x (saltA salts k) (pathL (leavesA l salts) k) = true) := fun k x hx => check_leaf (by omega) hx
    have CR : Hid (Calls Tryd.prog 16 #[.slice A' l.length c'] w2 fun e w' => e = .returned (.string (rootOf (leavesA l salts))) ∧ Below w2.heap.size w2 w') := by
      have := root_any (leavesA l salts) A' c' w2 (by rw [LV.out]; exact hc') (by rw [LV.out]; omega) hsl LVS.out (HT.out.below HB2.out (Nat.le_refl _))
      rw [LV.out] at this
      exact this
    obtain ⟨lv, elv⟩ : ∃ lv, lv = leavesA l salts := ⟨_, rfl⟩
    rw [← elv] at HSL LV LVS HCK CR
    obtain ⟨rt, ert⟩ : ∃ rt, rt = rootOf lv := ⟨_, rfl⟩
    rw [← ert] at HCK CR
    clear hb2 hsl CL EF elv ert HB1
    go_wp2_with fail
    refine CR.out.mono ?_
    rintro e w3 ⟨rfl, hb3⟩
    have HB3 := Lib.hid (HB2.out.trans (hb3.mono HB2.out.size))
    have HS3 := Lib.hid (HSL.out.below hb3 (Nat.le_refl _))
    have HT3 := Lib.hid (HT.out.below HB3.out (Nat.le_refl _))
    have S13 := Lib.hid (S1.out.below HB3.out (Nat.le_refl _))
    have S23 := Lib.hid (S2.out.below HB3.out (Nat.le_refl _))
    have HST : Hid (RUpto w3 l.length (.int .i64 0) w3) := ⟨0, Nat.zero_le _, rfl, Below.refl _ _⟩
    clear hb3 CR HB2 HSL S1 S2 HT
    go_wp2_with fail
    go_loopw [8] (fun i wr => RUpto w3 l.length i wr) (fun i _ => l.length - (intOf i).toNat)
    case atStart => exact HST.out
    case round =>
      clear HST
      obtain ⟨k, hk, rfl, hbr⟩ := hrel
      by_cases hlt : k < l.length
      · obtain ⟨x, hx⟩ : ∃ x, l[k]? = some x := ⟨_, List.getElem?_eq_getElem hlt⟩
        have hxo := OK.out x (List.mem_of_getElem? hx)
        have hck := HCK.out k x hx
        have hsz := saltA_200 HSM.out.2 k
        have ki1 : (k : Int) < (l.length : Int) := by omega
        have k00 : (0 : Int) ≤ (k : Int) := by omega
        have CP : Hid (∀ R : Ending → World → Prop, (∀ w' A2 c2, Below wr.heap.size wr w' → SL w' 1 encS A2 (pathL lv k) → R (.returned (.tuple #[.slice A2 (pathL lv k).length c2, .int .i64 0])) w') → Calls Tryd.prog 18 #[.slice A' l.length c', .int .i64 (k : Int)] wr R) := fun R hR => by
          have := prove_in lv A' c' k wr R (by rw [LV.out]; exact hlt) (by rw [LV.out]; exact hc') (by rw [LV.out]; omega) (HS3.out.below hbr (Nat.le_refl _)) LVS.out (HT3.out.below hbr (Nat.le_refl _)) (fun w' A2 c2 a1 _ a3 => hR w' A2 c2 a1 a3)
          rw [LV.out] at this
          exact this
        have hpl : (pathL lv k).length < 1000000000 := by
          have := path_len lv k
          have h2 := lev_len lv.length k
          rw [LV.out] at h2 this
          omega
        have hps : Short (pathL lv k) := path_texts lv k LVS.out (by rw [LV.out]; omega)
        obtain ⟨st, est⟩ : ∃ st, st = saltA salts k := ⟨_, rfl⟩
        obtain ⟨pa, epa⟩ : ∃ pa, pa = pathL lv k := ⟨_, rfl⟩
        rw [← est] at hck hsz
        rw [← epa] at hck CP hpl hps
        have CS : Hid (∀ w', Below w3.heap.size w3 w' → Calls Tryd.prog 30 #[.slice B salts.length d, .int .i64 (k : Int)] w' fun e w2 => e = .returned (.string st) ∧ Below w'.heap.size w' w2) := fun w' hb => by
          rw [est]
          refine (salt_any B d k salts w' (S23.out.below hb (Nat.le_refl _))).mono ?_
          rintro e w2 ⟨rfl, rfl⟩
          exact ⟨rfl, Below.refl _ _⟩
        have CC : Hid (∀ w' A2 c2, Below w3.heap.size w3 w' → SL w' 1 encS A2 pa → Calls Tryd.prog 19 #[.string rt, .int .i64 (l.length : Int), .int .i64 (k : Int), .agg (encF x).toArray, .string st, .slice A2 pa.length c2] w' fun e w2 => e = .returned (.bool true) ∧ Below w'.heap.size w' w2) := fun w' A2 c2 hb hs => by
          have := check_dis rt (l.length : Int) (k : Int) x st pa A2 c2 w' hxo (by omega) hpl hs hps (HT3.out.below hb (Nat.le_refl _))
          rw [hck] at this
          exact this
        obtain ⟨b, off, rfl, _⟩ := S13.out.at_ hx
        have CE : Hid (∀ w', Below w3.heap.size w3 w' → ∀ p u, (encF x)[p]? = some u → w'.cell? ⟨b, off + k * 6 + p, none⟩ = some u) := fun w' hb => by
          obtain ⟨b', off', e1, hc⟩ := (S13.out.below hb (Nat.le_refl _)).at_ hx
          cases e1
          intro p u hu
          have := hc p u hu
          rw [← Nat.add_assoc] at this; exact this
        have HBR := Lib.hid hbr
        clear hx hxo hck hsz hpl hps est epa hbr
        go_wp2_with fail
        refine CP.out _ ?_
        intro y A2 c2 hby hsy
        have HBY := Lib.hid (HBR.out.trans (hby.mono HBR.out.size))
        have HSY := Lib.hid hsy
        clear hby hsy CP
        go_wp2_with fail
        refine Free.wp_region_free 18 [(13, .det (.string st)), (15, .det (.bool true))] (fun w2 => Below y.heap.size y w2) (by kernel_rfl) (by kernel_rfl) (Free.mono_det (fun j mk r hf => by simp only [Free.find] at hf; repeat' (first | cases hf | split at hf))) (Below.refl _ _).drew (fun _ _ h g => h.trans (Below.mono g h.size)) ?_
        simp only [List.take_succ_cons, List.take_zero]
        iterate 10 (apply Free.chain_still (by first | exact Free.wanted_of rfl rfl rfl | rfl) rfl; (intro w' hB hA; obtain qB := hB; clear hA  ; go_light; go_simp <;> rfl); (try simp only [Act.put, List.setIfInBounds_toArray, List.set_cons_succ, List.set_cons_zero]))
        apply Free.chain_still (by first | exact Free.wanted_of rfl rfl rfl | rfl) rfl
        · intro w' hB hA
          exact exec_fac (x := x) rfl rfl (CE.out w' (HBY.out.trans (hB.mono HBY.out.size)))
        simp only [Act.put, List.setIfInBounds_toArray, List.set_cons_succ, List.set_cons_zero]
        iterate 2 (apply Free.chain_still (by first | exact Free.wanted_of rfl rfl rfl | rfl) rfl; (intro w' hB hA; obtain qB := hB; clear hA  ; go_light; go_simp <;> rfl); (try simp only [Act.put, List.setIfInBounds_toArray, List.set_cons_succ, List.set_cons_zero]))
        apply Free.chain_det (by first | exact Free.wanted_of rfl rfl rfl | rfl) rfl
        · intro w' hB hA
          refine Free.opRun_call (f := 30) (args := #[.slice B salts.length d, .int .i64 (k : Int)]) (by clear hB hA; go_simp <;> rfl) ?_
          refine (CS.out w' (HBY.out.trans (hB.mono HBY.out.size))).mono ?_
          rintro e w3 ⟨rfl, hb3⟩
          exact ⟨_, rfl, hb3, rfl⟩
        simp only [Act.put, List.setIfInBounds_toArray, List.set_cons_succ, List.set_cons_zero]
        iterate 1 (apply Free.chain_still (by first | exact Free.wanted_of rfl rfl rfl | rfl) rfl; (intro w' hB hA; obtain qB := hB; clear hA  ; go_light; go_simp <;> rfl); (try simp only [Act.put, List.setIfInBounds_toArray, List.set_cons_succ, List.set_cons_zero]))
        apply Free.chain_det (by first | exact Free.wanted_of rfl rfl rfl | rfl) rfl
        · intro w' hB hA
          refine Free.opRun_call (f := 19) (args := #[.string rt, .int .i64 (l.length : Int), .int .i64 (k : Int), .agg (encF x).toArray, .string st, .slice A2 pa.length c2]) (by clear hB hA; go_simp <;> rfl) ?_
          refine (CC.out w' _ _ (HBY.out.trans (hB.mono HBY.out.size)) (HSY.out.below hB (Nat.le_refl _))).mono ?_
          rintro e w3 ⟨rfl, hb3⟩
          exact ⟨_, rfl, hb3, rfl⟩
        simp only [Act.put, List.setIfInBounds_toArray, List.set_cons_succ, List.set_cons_zero]
        iterate 2 (apply Free.chain_still (by first | exact Free.wanted_of rfl rfl rfl | rfl) rfl; (intro w' hB hA; obtain qB := hB; clear hA  ; go_light; go_simp <;> rfl); (try simp only [Act.put, List.setIfInBounds_toArray, List.set_cons_succ, List.set_cons_zero]))
        apply Free.chain_nil
        intro wy hBz _ _
        simp only [List.drop_succ_cons, List.drop_zero]
        have KEY : Hid (RUpto w3 l.length (.int .i64 ((k : Int) + 1)) wy) := ⟨k + 1, by omega, by go_num, HBY.out.trans (hBz.mono HBY.out.size)⟩
        clear hBz CS CC CE
        go_wp2_with fail
        refine ⟨KEY.out, ?_⟩
        simp [intOf]; omega
      · obtain rfl : k = l.length := by omega
        have L := Lib.hid (HB3.out.trans (hbr.mono HB3.out.size))
        clear hbr
        go_wp2_with fail
        exact FIN.out _ L.out
end Go.Proofs.YtamiaalfjmppaaaDoor
