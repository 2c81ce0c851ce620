/- The reference of layer 24: the text of a patch. Condition: the patch lies in memory, its lists are short. -/
import Derived.Test.YtekfoaenomgjgaaGreatDoorRcB
namespace Go.Proofs.YtekfoaenomgjgaaGreatDoor
open Go.RowKit Go.W32 Go.Blk Go.Cs Go.Lib Go.Opn Go.Mg

theorem dec_tx (n : Int) : dec n = tx (Lib.itoa n) := rfl
theorem words_more {l : List Int} {k : Nat} {x : Int} (h : l[k]? = some x) : words (l.take (k + 1)) = words (l.take k) ++ (32 :: Lib.itoa x) := by
  unfold words
  rw [List.take_add_one, h, Option.toList_some, List.flatMap_append]
  simp [word]
theorem words24_len {l : List Int} (h : ∀ n ∈ l, i64P n) : (words l).length ≤ 22 * l.length := by
  induction l with
  | nil => simp [words]
  | cons x r ih =>
    have h1 := ih fun n hn => h n (by simp [hn])
    have h2 := Lib.itoa_length_le x (h x (by simp)).1 (h x (by simp)).2
    unfold words at *
    rw [List.flatMap_cons, List.length_append]
    simp only [word, List.length_cons]
    omega
theorem nums_len (p : Pat) : p.nums.length = 19 + p.cl.length + 2 * p.new.start.length := by
  have : ∀ l : List (Int × Int), (l.flatMap fun s => [s.1, s.2]).length = 2 * l.length := by
    intro l
    induction l with
    | nil => rfl
    | cons s r ih => rw [List.flatMap_cons, List.length_append, ih]; simp; omega
  simp only [Pat.nums, Cls.nums, Cls.front, Cls.back, List.length_append, List.length_cons, List.length_nil, this]
  omega
/-- The text so far. -/
def TxIs (W : World) (l : List Int) (u v : Value) (w : World) : Prop := ∃ k : Nat, u = .string (tx (patchT ++ words (l.take k))) ∧ v = .int .i64 (k : Int) ∧ k ≤ l.length ∧ Below W.heap.size W w
set_option maxRecDepth 100000 in
set_option maxHeartbeats 2000000 in
theorem text24_any (p : Pat) (h : Hd) (W : World) (hp : PatAt W p h) (ho : PatOk p) : Calls Tryz.prog 47 #[.agg (encPat p h).toArray] W fun e w' => e = .returned (.string (tx p.text)) ∧ Below W.heap.size W w' := by
  obtain ⟨R, eR⟩ : ∃ R : Ending → World → Prop, R = fun e w' => e = .returned (.string (tx p.text)) ∧ Below W.heap.size W w' := ⟨_, rfl⟩
  rw [← eR]
  have FIN : Hid (∀ w' t, t = tx p.text → Below W.heap.size W w' → R (.returned (.string t)) w') := Lib.hid fun w' t h hb => by rw [eR, h]; exact ⟨rfl, hb⟩
  clear eR
  obtain ⟨cs, ecs⟩ : ∃ cs, cs = encPat p h := ⟨_, rfl⟩
  have hcl : cs.length = 19 := by rw [ecs]; rfl
  obtain ⟨W1, e1⟩ : ∃ W1, W1 = W.alloc (.cells cs.toArray 47) := ⟨_, rfl⟩
  have hr1 : Row W1 W.heap.size 47 cs := by rw [e1]; exact Row.new _ _ _
  have hb1 : Below W.heap.size W W1 := by rw [e1]; exact (Below.refl _ _).alloc (Nat.le_refl _) _
  have c1 := hr1.at (show cs[1]? = some (.slice h.A p.cl.length h.c) by rw [ecs]; rfl)
  have c6 := hr1.at (show cs[6]? = some (.slice h.B p.new.start.length h.d) by rw [ecs]; rfl)
  have E1 : Hid (W.alloc (.cells cs.toArray 47) = W1) := Lib.hid e1.symm
  have HIP : Hid ((Tryz.prog.info? 47).map (·.size) = some cs.length) := Lib.hid (by rw [hcl]; kernel_rfl)
  have HMP : Hid (W1.rangeAt W.heap.size 0 cs) := Lib.hid (hr1.range fun j v hj => by rw [Nat.zero_add]; exact hj)
  have HB1 := Lib.hid hb1
  rw [← ecs]
  by_cases h1 : p.cl.length ≤ 400
  rotate_left
  · have h1i : (400 : Int) < (p.cl.length : Int) := by omega
    have HF := Lib.hid (FIN.out W1 ⟨#[]⟩ (by unfold Pat.text Pat.small; rw [decide_eq_false h1]; rfl) HB1.out)
    clear ecs e1
    go_enter Tryz.func47, Tryz.ntmps47
    go_wp2_with (simp only [E1.out])
    exact HF.out
  have h1i : ¬ (400 : Int) < (p.cl.length : Int) := by omega
  by_cases h2 : p.new.start.length ≤ 8
  rotate_left
  · have h2i : (8 : Int) < (p.new.start.length : Int) := by omega
    have HF := Lib.hid (FIN.out W1 ⟨#[]⟩ (by unfold Pat.text Pat.small; rw [decide_eq_false h2, Bool.and_false]; rfl) HB1.out)
    clear ecs e1
    go_enter Tryz.func47, Tryz.ntmps47
    go_wp2_with (simp only [E1.out])
    exact HF.out
  have h2i : ¬ (8 : Int) < (p.new.start.length : Int) := by omega
  have HT : Hid (tx p.text = tx (patchT ++ words p.nums)) := Lib.hid (by unfold Pat.text Pat.small; rw [decide_eq_true h1, decide_eq_true h2]; rfl)
  have CN := Lib.hid (nums24_any p h W1 (hp.below hb1 (Nat.le_refl _)) ⟨by omega, by omega⟩)
  rw [← ecs] at CN
  have hnl : p.nums.length ≤ 500 := by rw [nums_len]; omega
  have HOK := Lib.hid ho.nums
  have HNL := Lib.hid hnl
  clear ecs e1 hcl hr1 hb1 hnl
  go_enter Tryz.func47, Tryz.ntmps47
  go_wp2_with (first
    | (simp only [E1.out])
    | (refine at_load (.tmp 1) ?_; refine wpList_load_mid rfl 47 (.tmp 1) rfl W.heap.size 0 rfl cs _ HMP.out Tryz.underlying47 rfl HIP.out ?_))
  refine CN.out.mono ?_
  rintro e w2 ⟨v, rfl, hn2⟩
  obtain ⟨A, c, rfl⟩ := owns_form2 hn2.own
  have hsl := sl_of_owns (ec := Cs.encI) (fun _ => rfl) hn2.own
  have HB2 := Lib.hid (HB1.out.trans (hn2.below.mono HB1.out.size))
  have HSL := Lib.hid hsl
  obtain ⟨l, el⟩ : ∃ l, l = p.nums := ⟨_, rfl⟩
  rw [← el] at HSL HOK HNL HT ⊢
  have hst : TxIs w2 l (.string (tx patchT)) (.int .i64 0) w2 := ⟨0, by simp [words], rfl, Nat.zero_le _, Below.refl _ _⟩
  have HST := Lib.hid hst
  clear hst hn2 hsl CN el
  go_wp2_with fail
  go_loopw [3, 5] (fun u v wr => TxIs w2 l u v wr) (fun _ v _ => (l.length : Int).toNat - (RowKit.intOf v).toNat)
  case atStart => exact HST.out
  case round =>
    clear HST
    obtain ⟨k, rfl, rfl, hk, hbw⟩ := hrel
    rcases Nat.lt_or_eq_of_le hk with hkl | hkl
    · have hki : (k : Int) < (l.length : Int) := by omega
      have hkb : (k : Int) ≤ 500 := by have := HNL.out; omega
      obtain ⟨b, off, rfl⟩ := sl_addr HSL.out (by rintro rfl; simp at hkl)
      obtain ⟨x, ex⟩ : ∃ x, l[k]? = some x := ⟨_, List.getElem?_eq_getElem hkl⟩
      have hx := HOK.out x (List.mem_of_getElem? ex)
      have cx := sl_cell1 (HSL.out.below hbw (Nat.le_refl _)) ex
      have CD := Lib.hid (fun w => dec24_any x w hx.1 hx.2)
      have hdz := dec_size x hx.1 hx.2
      have hsz : (tx (patchT ++ words (l.take k))).size ≤ 11005 := by
        rw [tx_size, List.length_append]
        have h1 := words24_len (l := l.take k) (fun n hn => HOK.out n (List.mem_of_mem_take hn))
        have h2 : (l.take k).length ≤ 500 := by rw [List.length_take]; have := HNL.out; omega
        have h3 : patchT.length = 5 := rfl
        omega
      have NEW : Hid (∀ w, Below w2.heap.size w2 w → TxIs w2 l (.string ((tx (patchT ++ words (l.take k)) ++ ⟨#[32]⟩) ++ dec x)) (.int .i64 ((k : Int) + 1)) w) := Lib.hid fun w hb => ⟨k + 1, by
        rw [words_more ex, dec_tx, show (⟨#[32]⟩ : ByteArray) = tx [32] from rfl, tx_append, tx_append]
        simp, rfl, hkl, hb⟩
      obtain ⟨d, ed⟩ : ∃ d, d = dec x := ⟨_, rfl⟩
      obtain ⟨t, et⟩ : ∃ t, t = tx (patchT ++ words (l.take k)) := ⟨_, rfl⟩
      rw [← ed] at CD hdz NEW
      rw [← et] at hsz NEW ⊢
      have HBW := Lib.hid hbw
      clear ed et hx ex hk hbw
      go_wp2_with fail
      refine (CD.out _).mono ?_
      rintro e w4 ⟨rfl, hb4⟩
      have HN := Lib.hid (NEW.out w4 (HBW.out.trans (hb4.mono HBW.out.size)))
      clear hb4 NEW CD
      go_wp2_with fail
      go_roundw
      case rel => exact HN.out
      case measure => simp [RowKit.intOf]; omega
    · have hki : ¬ (k : Int) < (l.length : Int) := by omega
      have HF := Lib.hid (FIN.out wr (tx (patchT ++ words (l.take k))) (by rw [HT.out, List.take_of_length_le (by omega)]) (HB2.out.trans (hbw.mono HB2.out.size)))
      obtain ⟨t, et⟩ : ∃ t, t = tx (patchT ++ words (l.take k)) := ⟨_, rfl⟩
      rw [← et] at HF ⊢
      clear hbw hk et hkl
      go_wp2_with fail
      exact HF.out
end Go.Proofs.YtekfoaenomgjgaaGreatDoor
