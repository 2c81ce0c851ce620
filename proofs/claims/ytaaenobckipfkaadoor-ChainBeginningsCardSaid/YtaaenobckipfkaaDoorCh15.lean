/- The law ChainBeginnings, walked. Condition: the variables of digest and of strconv hold their numbers. -/
import Derived.Test.YtaaenobckipfkaaDoorCh14
namespace Go.Proofs.YtaaenobckipfkaaDoor
open Go.RowKit Go.Blk Go.Opn Go.OpenShut

def RBG (w : World) (l : List E31) (i : Value) (wr : World) : Prop := ∃ k : Nat, (k < l.length ∨ k = 0) ∧ i = .int .i64 ((k : Int) + 1) ∧ Below w.heap.size w wr
set_option maxRecDepth 100000 in
set_option maxHeartbeats 4000000 in
theorem beg31_any (A : Option Addr) (c : Nat) (l : List E31) (house pub raw : Int) (w : World) (hl : l.length ≤ 9223372036854775807) (hlc : l.length ≤ c) (h : SL w 7 encE A l) (ho : ∀ a ∈ l, a.Ok)
    (_h1 : (Lit.int .i64 house).wf = true) (_h2 : (Lit.int .i64 pub).wf = true) (h3 : (Lit.int .u8 raw).wf = true) (hT : HasT w) :
    Calls Tryd.prog 6 #[.slice A l.length c, .int .i64 house, .int .i64 pub, .int .u8 raw] w fun r w' => r = .returned (.bool true) ∧ Below w.heap.size w w' := by
  obtain ⟨hr0, hr1⟩ := bounds_u8 h3
  clear _h1 _h2 h3
  have C1 : Hid (∀ w', Below w.heap.size w w' → Calls Tryd.prog 24 #[.slice A l.length c, .int .i64 14] w' fun e w2 => e = .returned (.bool (fewB l 14)) ∧ w' = w2) := fun w' hb => few_any A c 14 l w' (h.below hb (Nat.le_refl _)) hl
  have HT := Lib.hid hT
  by_cases hfew : fewB l 14 = true
  · obtain ⟨hf, hl14⟩ := few_of ho hfew
    rw [hfew] at C1
    have C2 : Hid (∀ w' k, k ≤ l.length → Below w.heap.size w w' → Calls Tryd.prog 17 #[.slice A k c, .int .i64 house, .int .i64 pub] w' (ChkPost w' (chk (l.take k) house pub))) := fun w' k hk hb => by
      have := check_any A c (l.take k) house pub w' ((h.below hb (Nat.le_refl _)).take k) (by rw [List.length_take]; omega) (by rw [List.length_take]; omega) (fun e he => hf e (List.mem_of_mem_take he)) (hT.below hb (Nat.le_refl _))
      rw [List.length_take, Nat.min_eq_left hk] at this; exact this
    have C3 : Hid (∀ w', Below w.heap.size w w' → Calls Tryd.prog 17 #[.slice A l.length c, .int .i64 house, .int .i64 pub] w' (ChkPost w' (chk l house pub))) := fun w' hb => by
      have := C2.out w' l.length (Nat.le_refl _) hb
      rw [List.take_length] at this; exact this
    obtain ⟨n, hn⟩ : ∃ n : Nat, raw % ((l.length : Int) + 1) = n := ⟨(raw % ((l.length : Int) + 1)).toNat, by have := Int.emod_nonneg raw (show ((l.length : Int) + 1) ≠ 0 by omega); omega⟩
    have hnl : n ≤ l.length := by have := Int.emod_lt_of_pos raw (show (0 : Int) < (l.length : Int) + 1 by omega); omega
    have hpos : ¬ ((l.length : Int) + 1 = 0) := by omega
    have hnA : (A = none → l = []) := fun e => by
      cases hl0 : l with
      | nil => rfl
      | cons y m => obtain ⟨b, off, e1, _⟩ := h.cells (by rw [hl0]; simp); rw [e] at e1; cases e1
    by_cases hc : (chk l house pub).1 = 0
    · have hck := chk_ok hc
      rw [hck] at C3
      have hlaw := chk_ok (chk_take n hc)
      have C4 : Hid (∀ w', Below w.heap.size w w' → Calls Tryd.prog 17 #[.slice A n c, .int .i64 house, .int .i64 pub] w' (ChkPost w' (0, -1))) := fun w' hb => by
        have := C2.out w' n hnl hb
        rw [hlaw] at this; exact this
      have HD := Lib.hid (chk_days hc)
      have HS := Lib.hid h
      have hnc : (n : Int) ≤ (c : Int) := by omega
      have n00 : (0 : Int) ≤ (n : Int) := by omega
      clear h ho hT hfew hf hc hck C2 hlaw
      go_enter Tryd.func6, Tryd.ntmps6
      go_wp2_with fail
      refine (head31_any _ HT.out).mono ?_
      rintro e w1 ⟨rfl, hb1⟩
      have HB1 := Lib.hid hb1
      clear hb1
      go_wp2_with fail
      refine (C1.out _ HB1.out).mono ?_
      rintro e w' ⟨rfl, rfl⟩
      clear C1
      go_wp2_with fail
      refine (C3.out _ HB1.out).mono ?_
      rintro e w2 ⟨rfl, hb2⟩
      have HB2 := Lib.hid (HB1.out.trans (hb2.mono HB1.out.size))
      clear hb2 HB1 C3
      simp only
      go_wp2_with fail
      refine (C4.out _ HB2.out).mono ?_
      rintro e w3 ⟨rfl, hb3⟩
      have HB3 := Lib.hid (HB2.out.trans (hb3.mono HB2.out.size))
      clear hb3 HB2 C4 hn
      simp only
      go_wp2_with fail
      have HST : Hid (RBG w l (.int .i64 1) w3) := ⟨0, .inr rfl, rfl, HB3.out⟩
      clear HB3
      go_loopw [19] (fun i wr => RBG w l i wr) (fun i _ => l.length + 1 - (intOf i).toNat)
      case atStart => exact HST.out
      case round =>
        clear HST
        obtain ⟨k, hk, rfl, hbr⟩ := hrel
        by_cases hlt : k + 1 < l.length
        · obtain ⟨x, hx⟩ : ∃ x, l[k]? = some x := ⟨_, List.getElem?_eq_getElem (by omega)⟩
          obtain ⟨y, hy⟩ : ∃ y, l[k + 1]? = some y := ⟨_, List.getElem?_eq_getElem hlt⟩
          have hd := HD.out k x y hx hy
          obtain ⟨bb, off, rfl, hcl⟩ := (HS.out.below hbr (Nat.le_refl _)).at_ hx
          obtain ⟨b2, o2, e2, hcl2⟩ := (HS.out.below hbr (Nat.le_refl _)).at_ hy
          cases e2
          have p2 := hcl 2 _ rfl
          have q2 := hcl2 2 _ rfl
          simp only [← Nat.add_assoc] at p2 q2
          have hki : (k : Int) + 1 < (l.length : Int) := by omega
          have hki2 : (k : Int) < (l.length : Int) := by omega
          have k00 : (0 : Int) ≤ (k : Int) := by omega
          have hsub : (k : Int) + 1 - 1 = (k : Int) := by omega
          have hmax : max (k : Int) 0 = (k : Int) := by omega
          have hdn : ¬ (y.day < x.day) := by omega
          have hk1 : ((k : Int) + 1).toNat = k + 1 := by omega
          have hwk : IntKind.i64.wrap (k : Int) = (k : Int) := IntWalk.i64_in _ (by omega)
          have hwk1 : IntKind.i64.wrap ((k : Int) + 1) = (k : Int) + 1 := IntWalk.i64_in _ (by omega)
          clear hcl hcl2 hd hx hy
          go_wp2_with fail
          refine Free.wp_region_free 13 [] (fun w2 => w2.cell? ⟨bb, off + k * 7 + 2, none⟩ = some (.int .i64 x.day) ∧ w2.cell? ⟨bb, off + (k + 1) * 7 + 2, none⟩ = some (.int .i64 y.day)) (by kernel_rfl) (by kernel_rfl) ?_ ⟨p2, q2⟩ (fun _ _ h g => ⟨grow_cell h.1 g, grow_cell h.2 g⟩) ?_
          · intro j mk r hf
            simp only [Free.find] at hf
            cases hf
          simp only [List.take_succ_cons, List.take_zero]
          clear p2 q2
          iterate 13 (apply Free.chain_still (by first | exact Free.wanted_of rfl rfl rfl | rfl) rfl; (intro w' hB hA; obtain ⟨q0, q1⟩ := hB; clear hA ; go_light; go_simp <;> rfl); (try simp only [Act.put, List.setIfInBounds_toArray, List.set_cons_succ, List.set_cons_zero]))
          apply Free.chain_nil
          intro wy _ hg _
          simp only [List.drop_succ_cons, List.drop_zero]
          have hz := grow_drew2 hg
          have KEY : Hid (RBG w l (.int .i64 ((k : Int) + 1 + 1)) wy) := ⟨k + 1, .inl hlt, by go_num, hbr.trans (hz.mono hbr.size)⟩
          clear hg hz hbr
          go_wp2_with fail
          go_roundw
          case rel =>
            go_light
            have key := KEY.out
            first | exact key | ((repeat apply Exists.intro); exact ⟨key, rfl⟩)
          case measure => simp [intOf]; omega
        · have hki : ¬ ((k : Int) + 1 < (l.length : Int)) := by omega
          have HBR := Lib.hid hbr
          clear hbr
          go_wp2_with fail
          go_ret
          exact ⟨rfl, HBR.out⟩
    · rcases chk_bad hc with h0 | ⟨k, hk, h1, h2, h3⟩
      · rw [h0] at C3
        clear h ho hT hfew hf hc C2 h0
        go_enter Tryd.func6, Tryd.ntmps6
        go_wp2_with fail
        refine (head31_any _ HT.out).mono ?_
        rintro e w1 ⟨rfl, hb1⟩
        have HB1 := Lib.hid hb1
        clear hb1
        go_wp2_with fail
        refine (C1.out _ HB1.out).mono ?_
        rintro e w' ⟨rfl, rfl⟩
        clear C1
        go_wp2_with fail
        refine (C3.out _ HB1.out).mono ?_
        rintro e w2 ⟨rfl, hb2⟩
        have HB2 := Lib.hid (HB1.out.trans (hb2.mono HB1.out.size))
        clear hb2 HB1 C3
        simp only
        go_wp2_with fail
        go_ret
        exact ⟨rfl, HB2.out⟩
      · have h2' := chk_ok h2
        have C4 : Hid (∀ w', Below w.heap.size w w' → Calls Tryd.prog 17 #[.slice A k c, .int .i64 house, .int .i64 pub] w' (ChkPost w' (0, -1))) := fun w' hb => by
          have := C2.out w' k (Nat.le_of_lt hk) hb
          rw [h2'] at this; exact this
        have C5 : Hid (∀ w', Below w.heap.size w w' → Calls Tryd.prog 17 #[.slice A (k + 1) c, .int .i64 house, .int .i64 pub] w' (ChkPost w' (chk l house pub))) := fun w' hb => by
          have := C2.out w' (k + 1) hk hb
          rw [h3] at this; exact this
        obtain ⟨fe, efe⟩ : ∃ fe, fe = chk l house pub := ⟨_, rfl⟩
        rw [← efe] at C3 C5 hc h1
        obtain ⟨fe1, fe2⟩ := fe
        dsimp only at h1
        subst h1
        have hcb : (fe1 != 0) = true := by simpa using hc
        obtain ⟨b, off, rfl, _⟩ := h.cells (by rintro rfl; simp at hk)
        have k00 : (0 : Int) ≤ (k : Int) := by omega
        have hkl : ¬ ((l.length : Int) ≤ (k : Int)) := by omega
        have hkn : ¬ ((k : Int) < 0) := by omega
        have hkc : (k : Int) ≤ (c : Int) := by omega
        have hkc1 : (k : Int) + 1 ≤ (c : Int) := by omega
        clear h ho hT hfew hf hc C2 h2 h3 h2' efe
        go_enter Tryd.func6, Tryd.ntmps6
        go_wp2_with fail
        refine (head31_any _ HT.out).mono ?_
        rintro e w1 ⟨rfl, hb1⟩
        have HB1 := Lib.hid hb1
        clear hb1
        go_wp2_with fail
        refine (C1.out _ HB1.out).mono ?_
        rintro e w' ⟨rfl, rfl⟩
        clear C1
        go_wp2_with fail
        refine (C3.out _ HB1.out).mono ?_
        rintro e w2 ⟨rfl, hb2⟩
        have HB2 := Lib.hid (HB1.out.trans (hb2.mono HB1.out.size))
        clear hb2 HB1 C3
        simp only
        go_wp2_with fail
        refine (C4.out _ HB2.out).mono ?_
        rintro e w3 ⟨rfl, hb3⟩
        have HB3 := Lib.hid (HB2.out.trans (hb3.mono HB2.out.size))
        clear hb3 HB2 C4
        simp only
        go_wp2_with fail
        refine (C5.out _ HB3.out).mono ?_
        rintro e w4 ⟨rfl, hb4⟩
        have HB4 := Lib.hid (HB3.out.trans (hb4.mono HB3.out.size))
        clear hb4 HB3 C5
        simp only
        go_wp2_with fail
        go_ret
        exact ⟨rfl, HB4.out⟩
  · have hff : fewB l 14 = false := by cases hb : fewB l 14 with | true => exact absurd hb hfew | false => rfl
    rw [hff] at C1
    clear h ho hT hfew hff
    go_enter Tryd.func6, Tryd.ntmps6
    go_wp2_with fail
    refine (head31_any _ HT.out).mono ?_
    rintro e w1 ⟨rfl, hb1⟩
    have HB1 := Lib.hid hb1
    clear hb1
    go_wp2_with fail
    refine (C1.out _ HB1.out).mono ?_
    rintro e w' ⟨rfl, rfl⟩
    clear C1
    go_wp2_with fail
    go_ret
    exact ⟨rfl, HB1.out⟩
end Go.Proofs.YtaaenobckipfkaaDoor
