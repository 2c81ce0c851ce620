/- The law's small, salt, leaves, clash and node, and the reference's Strings. Condition: the variables of digest and strconv hold their numbers; texts of at most 10^9 bytes. -/
import Derived.Test.YtamiaalfjmppaaaDoorDj1
import Derived.Test.YtamiaalfjmppaaaDoorFc
namespace Go.Proofs.YtamiaalfjmppaaaDoor
open Go.RowKit Go.W32 Go.Blk Go.Sg Go.Opn Go.Di

theorem nodeT_size (a b : ByteArray) (h1 : a.size ≤ 1000000000) (h2 : b.size ≤ 1000000000) : (nodeT a b).size ≤ 3000000000 := by
  have s1 := dec_size (a.size : Int) (by omega) (by omega)
  have e : (nodeT a b).size = 4 + 1 + (dec (a.size : Int)).size + 1 + a.size + b.size := by unfold nodeT tagT; rw [ba_size, ba_size, ba_size, ba_size, ba_size]; rfl
  omega
theorem node34_any (a b : ByteArray) (w : World) (h1 : a.size ≤ 1000000000) (h2 : b.size ≤ 1000000000) (hT : HasT w) :
    Calls Tryd.prog 34 #[.string a, .string b] w fun e w' => e = .returned (.string (nodeD a b)) ∧ Below w.heap.size w w' := by
  have N1 := Lib.hid (fun w => nodetext_any a b w h1 h2)
  have hz := nodeT_size a b h1 h2
  have S1 : Hid (∀ w, HasK w → Calls Tryd.prog 45 #[.string (nodeT a b)] w fun e w' => e = .returned (.string (nodeD a b)) ∧ Below w.heap.size w w') := fun w h => sum_any KC (nodeT a b) w (by omega) h
  have HT := Lib.hid hT
  obtain ⟨t, et⟩ : ∃ t, t = nodeT a b := ⟨_, rfl⟩
  obtain ⟨d, ed⟩ : ∃ d, d = nodeD a b := ⟨_, rfl⟩
  rw [← et] at N1 S1
  rw [← ed] at S1 ⊢
  clear hT et ed hz
  go_enter Tryd.func34, Tryd.ntmps34
  go_wp2_with fail
  refine (N1.out _).mono ?_
  rintro e w1 ⟨rfl, hb⟩
  have L := Lib.hid hb
  clear hb
  go_wp2_with fail
  refine (S1.out _ (HT.out.below L.out (Nat.le_refl _)).k).mono ?_
  rintro e w2 ⟨rfl, hb⟩
  have L2 := Lib.hid (L.out.trans (hb.mono L.out.size))
  clear hb
  go_wp2_with fail
  go_ret
  exact ⟨rfl, L2.out⟩
def RST (w : World) (a b : List ByteArray) (i : Value) (wr : World) : Prop := ∃ k : Nat, k ≤ a.length ∧ i = .int .i64 (k : Int) ∧ a.take k = b.take k ∧ Below w.heap.size w wr
theorem take_snoc {α : Type} {l : List α} {k : Nat} {x : α} (h : l[k]? = some x) : l.take (k + 1) = l.take k ++ [x] := by
  obtain ⟨hk, rfl⟩ := List.getElem?_eq_some_iff.1 h
  exact List.take_succ_eq_append_getElem hk
theorem tl_eq {a b : ByteArray} (h : a.toList = b.toList) : a = b := by
  have e : ∀ a : ByteArray, a.toList = a.data.toList := Go.ByteArray.toList_eq
  rw [e, e] at h
  exact Dj.ba_ext h
set_option maxRecDepth 100000 in
theorem strings_any (A B : Option Addr) (c d : Nat) (a b : List ByteArray) (w : World) (h1 : SL w 1 encS A a) (h2 : SL w 1 encS B b) (hl : a.length < 1000000000) :
    Calls Tryd.prog 27 #[.slice A a.length c, .slice B b.length d] w fun e w' => e = .returned (.bool (decide (a = b))) ∧ Below w.heap.size w w' := by
  by_cases hab : a.length = b.length
  · have H1 := Lib.hid h1
    have H2 := Lib.hid h2
    have g0 : ((a.length : Int) == (b.length : Int)) = true := by rw [hab]; simp
    have HAB := Lib.hid hab
    have HST : Hid (RST w a b (.int .i64 0) w) := ⟨0, Nat.zero_le _, rfl, by simp, Below.refl _ _⟩
    clear h1 h2 hab
    go_enter Tryd.func27, Tryd.ntmps27
    go_wp2_with fail
    go_loopw [5] (fun i wr => RST w a b i wr) (fun i _ => a.length - (intOf i).toNat)
    case atStart => exact HST.out
    case round =>
      clear HST
      obtain ⟨k, hk, rfl, htk, hb⟩ := hrel
      by_cases hlt : k < a.length
      · obtain ⟨x, hx⟩ : ∃ x, a[k]? = some x := ⟨_, List.getElem?_eq_getElem hlt⟩
        have hlt2 : k < b.length := by have := HAB.out; omega
        obtain ⟨y, hy⟩ : ∃ y, b[k]? = some y := ⟨_, List.getElem?_eq_getElem hlt2⟩
        obtain ⟨b1, o1, rfl, hc1⟩ := (H1.out.below hb (Nat.le_refl _)).at_ hx
        obtain ⟨b2, o2, rfl, hc2⟩ := (H2.out.below hb (Nat.le_refl _)).at_ hy
        have c1 := hc1 0 _ rfl
        have c2 := hc2 0 _ rfl
        simp only [Nat.mul_one, Nat.add_zero] at c1 c2
        have ki1 : (k : Int) < (a.length : Int) := by omega
        have ki2 : (k : Int) < (b.length : Int) := by omega
        have k00 : (0 : Int) ≤ (k : Int) := by omega
        have HTK := Lib.hid htk
        have HB := Lib.hid hb
        have HX := Lib.hid hx
        have HY := Lib.hid hy
        clear htk hb hx hy hc1 hc2
        go_wp2_with fail
        refine Free.wp_region_free 9 [] (fun w2 => Below w.heap.size w w2 ∧ w2.cell? ⟨b1, o1 + k, none⟩ = some (.string x) ∧ w2.cell? ⟨b2, o2 + k, none⟩ = some (.string y)) (by kernel_rfl) (by kernel_rfl) (Free.mono_det (fun j mk r hf => by simp only [Free.find] at hf; repeat' (first | cases hf | split at hf))) ⟨HB.out.drew, c1, c2⟩ (fun _ _ h g => ⟨h.1.trans (Below.mono g h.1.size), cell_grow h.2.1 g, cell_grow h.2.2 g⟩) ?_
        simp only [List.take_succ_cons, List.take_zero]
        clear c1 c2
        iterate 9 (apply Free.chain_still (by first | exact Free.wanted_of rfl rfl rfl | rfl) rfl; (intro w' hB hA; obtain ⟨qB, q0, q1⟩ := hB; clear hA  qB; go_light; go_simp <;> rfl); (try simp only [Act.put, List.setIfInBounds_toArray, List.set_cons_succ, List.set_cons_zero]))
        apply Free.chain_nil
        intro wy hBz _ _
        simp only [List.drop_succ_cons, List.drop_zero]
        have L := Lib.hid hBz.1
        clear hBz HB
        by_cases hxy : x = y
        · subst hxy
          rw [show (!(x.toList == x.toList)) = false by simp]
          go_wp2_with fail
          refine ⟨⟨k + 1, by omega, by go_num, by rw [take_snoc HX.out, take_snoc HY.out, HTK.out], L.out⟩, ?_⟩
          simp [intOf]; omega
        · rw [show (!(x.toList == y.toList)) = true by
            cases hq : (x.toList == y.toList) with
            | false => rfl
            | true => exact absurd (tl_eq (by simpa using hq)) hxy]
          have HF : Hid (decide (a = b) = false) := decide_eq_false (fun e => by
            have h1 := HX.out
            rw [e, HY.out] at h1
            exact hxy (Option.some.inj h1).symm)
          clear hxy
          go_wp2_with fail
          go_ret
          exact ⟨by rw [HF.out]; rfl, L.out⟩
      · obtain rfl : k = a.length := by omega
        have HF : Hid (decide (a = b) = true) := decide_eq_true (by
          have h1 := htk
          rw [List.take_length, HAB.out, List.take_length] at h1
          exact h1)
        have HB := Lib.hid hb
        clear htk hb
        go_wp2_with fail
        go_ret
        exact ⟨by rw [HF.out]; rfl, HB.out⟩
  · have g0 : ((a.length : Int) == (b.length : Int)) = false := beq_eq_false_iff_ne.2 (by omega)
    have HF : Hid (decide (a = b) = false) := decide_eq_false (fun e => hab (by rw [e]))
    clear h1 h2 hab
    go_enter Tryd.func27, Tryd.ntmps27
    go_wp2_with fail
    go_ret
    exact ⟨by rw [HF.out]; rfl, Below.refl _ _⟩
/-- Whether there are at most n texts of at most 200 bytes. -/
def smallB (l : List ByteArray) (n : Nat) : Bool := decide (l.length ≤ n) && l.all (fun t => decide (t.size ≤ 200))
theorem smallB_short {l : List ByteArray} {n : Nat} (h : smallB l n = true) : l.length ≤ n ∧ ∀ b ∈ l, b.size ≤ 200 := by
  unfold smallB at h
  rw [Bool.and_eq_true, decide_eq_true_eq, List.all_eq_true] at h
  exact ⟨h.1, fun b hb => by simpa using h.2 b hb⟩
def RSM (l : List ByteArray) (i : Value) : Prop := ∃ k : Nat, k ≤ l.length ∧ i = .int .i64 k ∧ (l.take k).all (fun t => decide (t.size ≤ 200)) = true
set_option maxRecDepth 100000 in
theorem small_any (A : Option Addr) (c n : Nat) (l : List ByteArray) (w : World) (h : SL w 1 encS A l) (hl : l.length ≤ 9223372036854775807) :
    Calls Tryd.prog 23 #[.slice A l.length c, .int .i64 (n : Int)] w fun e w' => e = .returned (.bool (smallB l n)) ∧ w = w' := by
  by_cases hln : l.length ≤ n
  · have HS := Lib.hid h
    have HST : Hid (RSM l (.int .i64 0)) := ⟨0, Nat.zero_le _, rfl, by simp⟩
    have hi2 : ¬ (n : Int) < (l.length : Int) := by omega
    have HW : Hid (smallB l n = l.all (fun t => decide (t.size ≤ 200))) := by show smallB l n = _; unfold smallB; rw [decide_eq_true hln, Bool.true_and]
    clear h
    go_enter Tryd.func23, Tryd.ntmps23
    go_wp2_with fail
    go_loop [5] (fun i => RSM l i) (fun i => l.length - (intOf i).toNat)
    case atStart => exact HST.out
    case round =>
      clear HST
      obtain ⟨k, hk, rfl, hall⟩ := hrel
      by_cases hlt : k < l.length
      · obtain ⟨x, hx⟩ : ∃ x, l[k]? = some x := ⟨_, List.getElem?_eq_getElem hlt⟩
        obtain ⟨b, off, rfl, hc⟩ := HS.out.at_ hx
        have c3 := hc 0 _ rfl
        have hki : (k : Int) < (l.length : Int) := by omega
        have HA := Lib.hid hall
        have HX := Lib.hid hx
        simp only [Nat.mul_one, Nat.add_zero] at c3
        clear hall hx hc
        by_cases h1 : x.size ≤ 200
        · go_wp2_with fail
          go_round
          case rel => exact ⟨k + 1, by omega, by go_num, by rw [take_snoc HX.out, List.all_append, HA.out]; simp [h1]⟩
          case measure => simp [intOf]; omega
        · have hf : smallB l n = false := by
            rw [HW.out]
            cases hq : l.all (fun t => decide (t.size ≤ 200)) with
            | false => rfl
            | true => have := List.all_eq_true.1 hq x (List.mem_of_getElem? HX.out); simp at this; omega
          have HF := Lib.hid hf
          clear hf
          go_wp2_with fail
          go_ret
          exact ⟨by rw [HF.out]; rfl, rfl⟩
      · obtain rfl : k = l.length := by omega
        rw [List.take_length] at hall
        have hf : smallB l n = true := by rw [HW.out]; exact hall
        have HF := Lib.hid hf
        clear hf hall
        go_wp2_with fail
        go_ret
        exact ⟨by rw [HF.out]; rfl, rfl⟩
  · have hi : (n : Int) < (l.length : Int) := by omega
    have hf : smallB l n = false := by unfold smallB; rw [decide_eq_false hln]; rfl
    have HF := Lib.hid hf
    clear hf h hln
    go_enter Tryd.func23, Tryd.ntmps23
    go_wp2_with fail
    go_ret
    exact ⟨by rw [HF.out]; rfl, rfl⟩
/-- The salt with an index. -/
def saltA (l : List ByteArray) (i : Nat) : ByteArray := l[i]?.getD ⟨#[]⟩
theorem salt_any (A : Option Addr) (c i : Nat) (l : List ByteArray) (w : World) (h : SL w 1 encS A l) :
    Calls Tryd.prog 30 #[.slice A l.length c, .int .i64 (i : Int)] w fun e w' => e = .returned (.string (saltA l i)) ∧ w = w' := by
  by_cases hlt : i < l.length
  · obtain ⟨x, hx⟩ : ∃ x, l[i]? = some x := ⟨_, List.getElem?_eq_getElem hlt⟩
    obtain ⟨b, off, rfl, hc⟩ := h.at_ hx
    have c3 := hc 0 _ rfl
    simp only [Nat.mul_one, Nat.add_zero] at c3
    have hki : (i : Int) < (l.length : Int) := by omega
    have EX : Hid (saltA l i = x) := by show _ = _; unfold saltA; rw [hx]; rfl
    clear hc hx h
    go_enter Tryd.func30, Tryd.ntmps30
    go_wp2_with fail
    go_ret
    exact ⟨by rw [EX.out]; rfl, rfl⟩
  · have hki : ¬ (i : Int) < (l.length : Int) := by omega
    have EX : Hid (saltA l i = ⟨#[]⟩) := by show _ = _; unfold saltA; rw [List.getElem?_eq_none (by omega)]; rfl
    clear h
    go_enter Tryd.func30, Tryd.ntmps30
    go_wp2_with fail
    go_ret
    exact ⟨by rw [EX.out]; rfl, rfl⟩
/-- Whether two different texts have the same digest. -/
def clashB (a b : ByteArray) : Bool := decide (a ≠ b) && decide (sumB KC a = sumB KC b)
set_option maxRecDepth 100000 in
theorem clash_any (a b : ByteArray) (w : World) (h1 : a.size ≤ 1000000000) (h2 : b.size ≤ 1000000000) :
    Calls Tryd.prog 32 #[.string a, .string b] w fun e w' => e = .returned (.bool (clashB a b)) ∧ Below w.heap.size w w' := by
  have S1 := Lib.hid (fun w => refsum_any a w h1)
  have S2 := Lib.hid (fun w => refsum_any b w h2)
  by_cases hab : a = b
  · subst hab
    have HF : Hid (clashB a a = false) := by show _ = _; unfold clashB; simp
    have q : (a.toList == a.toList) = true := by simp
    clear h1 h2
    go_enter Tryd.func32, Tryd.ntmps32
    go_wp2_with fail
    go_ret
    exact ⟨by rw [HF.out]; rfl, Below.refl _ _⟩
  · have q : (a.toList == b.toList) = false := by
      cases hq : (a.toList == b.toList) with
      | false => rfl
      | true => exact absurd (tl_eq (by simpa using hq)) hab
    have q2 : (a.toList != b.toList) = true := by simp [bne, q]
    have HF : Hid (clashB a b = ((sumB KC a).toList == (sumB KC b).toList)) := by
      show _ = _
      unfold clashB
      rw [decide_eq_true hab, Bool.true_and]
      by_cases hs : sumB KC a = sumB KC b
      · rw [decide_eq_true hs, hs]; simp
      · rw [decide_eq_false hs]
        cases hq : ((sumB KC a).toList == (sumB KC b).toList) with
        | false => rfl
        | true => exact absurd (tl_eq (by simpa using hq)) hs
    obtain ⟨sa, ea⟩ : ∃ sa, sa = sumB KC a := ⟨_, rfl⟩
    obtain ⟨sb, eb⟩ : ∃ sb, sb = sumB KC b := ⟨_, rfl⟩
    rw [← ea] at S1 HF
    rw [← eb] at S2 HF
    clear h1 h2 hab ea eb
    go_enter Tryd.func32, Tryd.ntmps32
    go_wp2_with fail
    refine (S1.out _).mono ?_
    rintro e w1 ⟨rfl, hb⟩
    have L1 := Lib.hid hb
    clear hb
    go_wp2_with fail
    refine (S2.out _).mono ?_
    rintro e w2 ⟨rfl, hb⟩
    have L2 := Lib.hid (L1.out.trans (hb.mono L1.out.size))
    clear hb
    go_wp2_with fail
    go_ret
    exact ⟨by rw [HF.out]; rfl, L2.out⟩
end Go.Proofs.YtamiaalfjmppaaaDoor
