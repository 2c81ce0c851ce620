/- The law DiscloseHalves, walked. Condition: the variables of digest and of strconv hold their numbers. -/
import Derived.Test.YtamiaalfjmppaaaDoorDw2
namespace Go.Proofs.YtamiaalfjmppaaaDoor
open Go.RowKit Go.Blk Go.Sg Go.Opn Go.Di Go.Apl

theorem encS_len (b : ByteArray) : (encS b).length = 1 := rfl
theorem encS_one (b : ByteArray) : ∀ u ∈ encS b, u.oneCell' = true := by
  intro u hu
  have : u = .string b := by simpa [encS] using hu
  subst this; rfl
theorem encS_map (l : List ByteArray) : l.flatMap encS = l.map Value.string := by
  induction l with
  | nil => rfl
  | cons x l ih => rw [List.flatMap_cons, ih]; rfl
/-- A row of one's own that holds texts. -/
theorem own_texts {w : World} {B n : Nat} {v : Value} {l : List ByteArray} {xs : List Value} (h : w.ownsRow B 9 1 v n xs) (he : xs = l.flatMap encS) : ∃ A c, v = .slice A l.length c ∧ l.length ≤ c ∧ SL w 1 encS A l := by
  subst he
  rw [encS_map] at h
  have hn : n = l.length := by have := h.1; simp at this; omega
  subst hn
  obtain ⟨A, c, h1, h2, h3⟩ := row_slS h
  exact ⟨A, c, h1, h2, h3⟩
def RPw (n : Nat) (v : Value) : Prop := ∃ j : Nat, v = .int .i64 ((2 ^ j : Nat) : Int) ∧ 2 ^ j < 2 * n
set_option maxRecDepth 100000 in
set_option maxHeartbeats 4000000 in
theorem halves34_law (A B : Option Addr) (c d : Nat) (a b : List ByteArray) (w : World) (hl1 : a.length ≤ 9223372036854775807) (hc1 : a.length ≤ c) (hs1 : SL w 1 encS A a) (hl2 : b.length ≤ 9223372036854775807) (hc2 : b.length ≤ d) (hs2 : SL w 1 encS B b) (hT : HasT w) :
    Calls Tryd.prog 8 #[.slice A a.length c, .slice B b.length d] w fun r w' => r = .returned (.bool true) ∧ Below w.heap.size w w' := by
  obtain ⟨R, eR⟩ : ∃ R : Ending → World → Prop, R = fun r w' => r = .returned (.bool true) ∧ Below w.heap.size w w' := ⟨_, rfl⟩
  rw [← eR]
  have FIN : Hid (∀ w', Below w.heap.size w w' → R (.returned (.bool true)) w') := fun w' hb => by rw [eR]; exact ⟨rfl, hb⟩
  have HH := Lib.hid (head34_any w hT)
  have S1 := Lib.hid hs1
  have S2 := Lib.hid hs2
  have HT := Lib.hid hT
  clear eR hs1 hs2 hT
  go_enter Tryd.func8, Tryd.ntmps8
  go_wp2_with fail
  refine HH.out.mono ?_
  rintro e w1 ⟨rfl, hb1⟩
  have HB1 := Lib.hid hb1
  clear hb1 HH
  have CSa := Lib.hid (small_any A c 32 a w1 (S1.out.below HB1.out (Nat.le_refl _)) hl1)
  obtain ⟨F, eF⟩ : ∃ F, F = smallB a 32 := ⟨_, rfl⟩
  rw [← eF] at CSa
  have EF := Lib.hid eF
  clear eF
  go_wp2_with fail
  refine CSa.out.mono ?_
  rintro e w' ⟨rfl, rfl⟩
  clear CSa
  cases F with
  | false =>
    go_wp2_with fail
    exact FIN.out _ HB1.out
  | true =>
  have CSb := Lib.hid (small_any B d 32 b w1 (S2.out.below HB1.out (Nat.le_refl _)) hl2)
  obtain ⟨G, eG⟩ : ∃ G, G = smallB b 32 := ⟨_, rfl⟩
  rw [← eG] at CSb
  have EG := Lib.hid eG
  clear eG
  go_wp2_with fail
  refine CSb.out.mono ?_
  rintro e w' ⟨rfl, rfl⟩
  clear CSb
  cases G with
  | false =>
    go_wp2_with fail
    exact FIN.out _ HB1.out
  | true =>
  have SA := Lib.hid (smallB_short EF.out.symm)
  have SB := Lib.hid (smallB_short EG.out.symm)
  clear EF EG
  by_cases hb0 : b = []
  · subst hb0
    simp only [List.length_nil]
    go_wp2_with fail
    exact FIN.out _ HB1.out
  have hb1 : 0 < b.length := List.length_pos_iff.2 hb0
  have HB0 := Lib.hid hb0
  have q0 : ((b.length : Int) == 0) = false := beq_eq_false_iff_ne.2 (by omega)
  have q1 : (b.length == 0) = false := beq_eq_false_iff_ne.2 (by omega)
  clear hb0
  by_cases hba : a.length < b.length
  · have q2 : (a.length : Int) < (b.length : Int) := by omega
    go_wp2_with fail
    exact FIN.out _ HB1.out
  have q2 : ¬ (a.length : Int) < (b.length : Int) := by omega
  have HBA := Lib.hid hba
  have ha32 := SA.out.1
  have hb32 := SB.out.1
  have HST : Hid (RPw a.length (.int .i64 1)) := ⟨0, rfl, by omega⟩
  clear hba
  go_wp2_with fail
  go_loop [6] (fun p => RPw a.length p) (fun p => 2 * a.length - (intOf p).toNat)
  case atStart => exact HST.out
  case round =>
    clear HST
    obtain ⟨j, rfl, hj⟩ := hrel
    have HP : Hid (2 ^ (j + 1) = 2 * 2 ^ j) := by show _ = _; rw [Nat.pow_succ]; omega
    have h1 : 1 ≤ 2 ^ j := Nat.two_pow_pos j
    have HRT : Hid (∀ q, q = 2 ^ j → a.length = q → rootL (a ++ b) = nodeD (rootL a) (rootL b)) := fun q hq hn => by
      subst hq
      exact root_halves hn HB0.out (by have := HBA.out; omega) (by omega)
    obtain ⟨q, eq⟩ : ∃ q, q = 2 ^ j := ⟨_, rfl⟩
    have EQ := Lib.hid eq
    rw [← eq] at hj h1 HP ⊢
    clear eq
    by_cases hlt : q < a.length
    · have g1 : (q : Int) < (a.length : Int) := by omega
      go_wp2_with fail
      go_round
      case rel => exact ⟨j + 1, by rw [HP.out]; go_num, by rw [HP.out]; omega⟩
      case measure => simp [intOf]; omega
    · have g1 : ¬ (q : Int) < (a.length : Int) := by omega
      by_cases hqa : q = a.length
      · have g2 : ((q : Int) != (a.length : Int)) = false := by rw [hqa]; simp
        have RT := Lib.hid (HRT.out q EQ.out hqa.symm)
        have HQA := Lib.hid hqa
        clear HRT hqa EQ
        obtain ⟨i0, hi, hz0, hz1, hz2⟩ := info_parts infoStr
        have HI := Lib.hid hi
        have HZ0 := Lib.hid hz0
        have HZ1 := Lib.hid hz1
        have HZ2 := Lib.hid hz2
        clear hi hz0 hz1 hz2 hj HP
        go_wp2_with (at_builtin; refine wpList_append_list (ec := encS) rfl (.tmp 41) (.tmp 42) 23 rfl w1.heap.size 9 i0 _ 16 Tryd.underlying23 HI.out HZ0.out HZ1.out HZ2.out rfl (by decide) encS_len encS_one _ 0 [] rfl (World.ownsRow_made w1 #[] 0 (Nat.le_refl _) (by decide) rfl) A c a rfl ((S1.out.below HB1.out (Nat.le_refl _)).alloc _) (by have : maxLen = 9223372036854775807 := rfl; omega) (by omega) (by simp) ?_)
        intro v2 w2 hown2 hg2 _
        have HB2 : Hid (Below w1.heap.size w1 w2) := ((Below.refl _ w1).alloc (Nat.le_refl _) _).grown hg2 (by simp) (fun j e => by cases e; exact Nat.le_refl _)
        have HOWN := Lib.hid hown2
        clear hown2 hg2
        go_wp2_with (at_builtin; refine wpList_append_list (ec := encS) rfl (.tmp 43) (.tmp 44) 23 rfl w1.heap.size 9 i0 _ 16 Tryd.underlying23 HI.out HZ0.out HZ1.out HZ2.out rfl (by decide) encS_len encS_one v2 _ _ rfl HOWN.out B d b rfl ((S2.out.below HB1.out (Nat.le_refl _)).below HB2.out (Nat.le_refl _)) (by have : maxLen = 9223372036854775807 := rfl; omega) (by omega) HB2.out.size ?_)
        intro v3 w3 hown3 hg3 _
        have HB3 : Hid (Below w1.heap.size w1 w3) := HB2.out.grown hg3 HB2.out.size (fun j e => (HOWN.out.lt j e).1)
        obtain ⟨ab, eab⟩ : ∃ ab, ab = a ++ b := ⟨_, rfl⟩
        obtain ⟨A3, c3, rfl, hc3, hsl3⟩ := own_texts (l := ab) hown3 (by simp [eab])
        have EAB := Lib.hid eab
        clear eab
        have HS3 := Lib.hid hsl3
        clear hown3 hg3 HOWN HB2 hsl3 HI HZ0 HZ1 HZ2
        have SHA := Lib.hid (short_200 SA.out.2)
        have SHB := Lib.hid (short_200 SB.out.2)
        have HB13 := Lib.hid (HB1.out.trans (HB3.out.mono HB1.out.size))
        have C1 : Hid (Calls Tryd.prog 16 #[.slice A3 ab.length c3] w3 fun e w' => e = .returned (.string (nodeD (rootL a) (rootL b))) ∧ Below w3.heap.size w3 w') := by
          have hr := RT.out
          rw [← EAB.out] at hr
          have hx : ab.length < 1000000000 := by rw [EAB.out, List.length_append]; omega
          have hn : ab ≠ [] := fun e => by have h2 := EAB.out; rw [e] at h2; exact HB0.out (List.append_eq_nil_iff.1 h2.symm).2
          have hsh : Short ab := fun x hx => by rw [EAB.out] at hx; rcases List.mem_append.1 hx with h | h; exact SHA.out x h; exact SHB.out x h
          have := root_any ab A3 c3 w3 hc3 hx HS3.out hsh (HT.out.below HB13.out (Nat.le_refl _))
          rw [if_neg hn, hr] at this
          exact this
        have ha0 : a ≠ [] := fun e => by have := HBA.out; rw [e] at this; simp at this; exact HB0.out this
        have C2 : Hid (∀ w', Below w.heap.size w w' → Calls Tryd.prog 16 #[.slice A a.length c] w' fun e w2 => e = .returned (.string (rootL a)) ∧ Below w'.heap.size w' w2) := fun w' hb => by
          have := root_any a A c w' hc1 (by omega) (S1.out.below hb (Nat.le_refl _)) SHA.out (HT.out.below hb (Nat.le_refl _))
          rw [if_neg ha0] at this
          exact this
        have C3 : Hid (∀ w', Below w.heap.size w w' → Calls Tryd.prog 16 #[.slice B b.length d] w' fun e w2 => e = .returned (.string (rootL b)) ∧ Below w'.heap.size w' w2) := fun w' hb => by
          have := root_any b B d w' hc2 (by omega) (S2.out.below hb (Nat.le_refl _)) SHB.out (HT.out.below hb (Nat.le_refl _))
          rw [if_neg HB0.out] at this
          exact this
        have z1 := rootL_size0 a SHA.out (by omega)
        have z2 := rootL_size0 b SHB.out (by omega)
        have C4 : Hid (∀ w', Below w.heap.size w w' → Calls Tryd.prog 34 #[.string (rootL a), .string (rootL b)] w' fun e w2 => e = .returned (.string (nodeD (rootL a) (rootL b))) ∧ Below w'.heap.size w' w2) := fun w' hb => node34_any _ _ w' z1 z2 (HT.out.below hb (Nat.le_refl _))
        obtain ⟨ra, era⟩ : ∃ ra, ra = rootL a := ⟨_, rfl⟩
        obtain ⟨rb, erb⟩ : ∃ rb, rb = rootL b := ⟨_, rfl⟩
        obtain ⟨nd, end_⟩ : ∃ nd, nd = nodeD ra rb := ⟨_, rfl⟩
        rw [← era] at C1 C2 C4
        rw [← erb] at C1 C3 C4
        rw [← end_] at C1 C4
        have qn : (nd.toList == nd.toList) = true := by simp
        clear era erb end_ ha0 z1 z2 RT EAB HS3 S1 S2 HT SA SB HB3
        go_wp2_with fail
        refine C1.out.mono ?_
        rintro e w4 ⟨rfl, hb4⟩
        have HB4 := Lib.hid (HB13.out.trans (hb4.mono HB13.out.size))
        clear hb4 C1
        go_wp2_with fail
        refine (C2.out _ HB4.out).mono ?_
        rintro e w5 ⟨rfl, hb5⟩
        have HB5 := Lib.hid (HB4.out.trans (hb5.mono HB4.out.size))
        clear hb5 C2
        go_wp2_with fail
        refine (C3.out _ HB5.out).mono ?_
        rintro e w6 ⟨rfl, hb6⟩
        have HB6 := Lib.hid (HB5.out.trans (hb6.mono HB5.out.size))
        clear hb6 C3
        go_wp2_with fail
        refine (C4.out _ HB6.out).mono ?_
        rintro e w7 ⟨rfl, hb7⟩
        have HB7 := Lib.hid (HB6.out.trans (hb7.mono HB6.out.size))
        clear hb7 C4
        go_wp2_with fail
        exact FIN.out _ HB7.out
      · have g2 : ((q : Int) != (a.length : Int)) = true := by simp; omega
        clear HRT hqa EQ
        go_wp2_with fail
        exact FIN.out _ HB1.out
end Go.Proofs.YtamiaalfjmppaaaDoor
