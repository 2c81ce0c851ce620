/- Arguments of the laws of layer 34 opened: lists of texts, claims. No condition. The law DiscloseProves, walked. Condition: the variables of digest and of strconv hold their numbers. The law DiscloseHalves, walked. Condition: the variables of digest and of strconv hold their numbers. The law's texts, whose digests lead from a leaf to the root. Condition: texts of at most 9 * 10^8 bytes; as many elements as there are levels. The way of a proof (w21Way), walked. Condition: texts of at most 9 * 10^8 bytes; as many elements as there are levels. The law DiscloseLengths, walked. Condition: the variables of digest and of strconv hold their numbers. The law DiscloseNothingElse, walked. Condition: the variables of digest and of strconv hold their numbers. -/
import Derived.Test.YtamiaalfjmppaaaDoorDh2
import Derived.Test.YtamiaalfjmppaaaDoorOpl
import Derived.IntWalk
namespace Go.Proofs.YtamiaalfjmppaaaDoor
open Go.RowKit Go.Blk Go.Sg Go.Opn Go.Di Go.ChangeShapes Go.WideShapes Go.Deep Go.OpenShut

theorem box2 (w : World) (la lb : List Value) (T : TypeId) : Blk ((w.alloc (.cells la.toArray T)).alloc (.cells lb.toArray T)) w.heap.size la T ∧
    Blk ((w.alloc (.cells la.toArray T)).alloc (.cells lb.toArray T)) (w.heap.size + 1) lb T ∧ Below w.heap.size w ((w.alloc (.cells la.toArray T)).alloc (.cells lb.toArray T)) := by
  refine ⟨Blk.alloc (Blk.new w la T) _, ?_, (((Below.refl _ w).alloc (Nat.le_refl _) _).alloc (by simp) _)⟩
  have := Blk.new (w.alloc (.cells la.toArray T)) lb T
  simpa using this
theorem unwanted2 {o : Oper} {ops : Array Oper} {a : Act} {j t : Nat} {b b' : Bool} (hg : o.guard = some (j, b')) (hj : (ops[j]?).bind (·.dst) = some t) (ht : a.tmps[t]? = some (.bool b)) (hne : (b == b') = false) : Region.wanted o (yielded ops a.tmps) = false := by
  unfold Region.wanted yielded
  rw [hg]
  simp only [hj, Option.bind_some, ht]
  exact hne
theorem cellsStr1 : Tryd.prog.cellsOf 9 = 1 := by kernel_rfl
theorem text_of {H : Type} {enc : TypeId × Value → H} {w : World} {base : Nat} {spare : Nat → Bool} {held : Bool} {fuel : Nat} {cs : List Value} {x : DataW H × List MemPlace} (h : DataW.trod enc Tryd.prog w base spare held fuel 9 cs = some x) :
    ∃ a : ByteArray, a.size ≤ 9223372036854775807 ∧ ∀ (p : Nat) u, (encS a)[p]? = some u → cs[p]? = some u := by
  obtain ⟨n, rfl, _, hs⟩ := DataW.trod_string Tryd.underlying9 h
  unfold maxLen at hs
  refine ⟨n, hs, fun p u hu => ?_⟩
  match p, hu with
  | 0, hu => exact hu
  | p + 1, hu => simp [encS] at hu
instance : Inhabited ByteArray := ⟨⟨#[]⟩⟩
set_option maxRecDepth 100000 in
theorem open_texts {H : Type} {enc : TypeId × Value → H} {w : World} {base : Nat} {spare : Nat → Bool} {held : Bool} {v : Value} {d : DataW H} {ps : List MemPlace} {r : Reach} {b0 : Nat} (hv : Value.okWide Tryd.prog w r b0 23 v) (h : DataW.Trod enc Tryd.prog w base spare held 23 v d ps) :
    ∃ (A : Option Addr) (c : Nat) (l : List ByteArray), v = .slice A l.length c ∧ l.length ≤ 9223372036854775807 ∧ l.length ≤ c ∧ SL w 1 encS A l ∧ ∀ a ∈ l, a.size ≤ 9223372036854775807 := by
  obtain ⟨f, x, hf⟩ := one_of Tryd.underlying23 hv h
  have := open_list (α := ByteArray) (ec := encS) (K := fun a => a.size ≤ 9223372036854775807) Tryd.underlying23 (by rw [cellsStr1]; decide) (fun f cs x h => text_of h) hf
  rw [cellsStr1] at this
  exact this
/-- A claim, but for its proof. -/
structure Clm where
  n : Int
  i : Int
  x : Fac
  s : ByteArray
  r : ByteArray
structure Clm.Ok (c : Clm) : Prop where
  n0 : -9223372036854775808 ≤ c.n
  n1 : c.n ≤ 9223372036854775807
  i0 : -9223372036854775808 ≤ c.i
  i1 : c.i ≤ 9223372036854775807
  x : c.x.Ok
  s : c.s.size ≤ 9223372036854775807
  r : c.r.size ≤ 9223372036854775807
def encC (c : Clm) (p : Value) : List Value := .int .i64 c.n :: .int .i64 c.i :: (encF c.x ++ [.string c.s, .string c.r, p])
theorem cellsClaim : Tryd.prog.cellsOf 50 = 11 := by kernel_rfl
theorem encC_len (c : Clm) (p : Value) : (encC c p).length = 11 := rfl
set_option maxRecDepth 100000 in
theorem open_claim {H : Type} {enc : TypeId × Value → H} {w : World} {base : Nat} {spare : Nat → Bool} {held : Bool} {v : Value} {d : DataW H} {ps : List MemPlace} {r : Reach} {b0 : Nat} (hv : Value.okWide Tryd.prog w r b0 50 v) (h : DataW.Trod enc Tryd.prog w base spare held 50 v d ps) :
    ∃ (x : Clm) (A : Option Addr) (c : Nat) (l : List ByteArray), v = .agg (encC x (.slice A l.length c)).toArray ∧ x.Ok ∧ l.length ≤ 9223372036854775807 ∧ l.length ≤ c ∧ SL w 1 encS A l ∧ ∀ a ∈ l, a.size ≤ 9223372036854775807 := by
  obtain ⟨cs, rfl, hsz⟩ := okWide_struct Tryd.underlying50 hv
  rw [cellsClaim] at hsz
  obtain ⟨fuel, hf⟩ := h
  obtain ⟨a0, h0, w0⟩ := leaf_int (f := 3) (p := 0) Tryd.underlying3 (by kernel_rfl) hf
  obtain ⟨a1, h1, w1⟩ := leaf_int (f := 3) (p := 1) Tryd.underlying3 (by kernel_rfl) hf
  obtain ⟨a2, h2, w2⟩ := leaf_int (f := 3) (p := 2) Tryd.underlying3 (by kernel_rfl) hf
  obtain ⟨a3, h3, w3⟩ := leaf_int (f := 3) (p := 3) Tryd.underlying3 (by kernel_rfl) hf
  obtain ⟨a4, h4, w4⟩ := leaf_int (f := 3) (p := 4) Tryd.underlying3 (by kernel_rfl) hf
  obtain ⟨a5, h5, w5⟩ := leaf_int (f := 3) (p := 5) Tryd.underlying3 (by kernel_rfl) hf
  obtain ⟨a6, h6, w6⟩ := leaf_int (f := 3) (p := 6) Tryd.underlying3 (by kernel_rfl) hf
  obtain ⟨a7, h7⟩ := leaf_bool (f := 3) (p := 7) Tryd.underlying4 (by kernel_rfl) hf
  obtain ⟨a8, h8, w8⟩ := leaf_string (f := 3) (p := 8) Tryd.underlying9 (by kernel_rfl) hf
  obtain ⟨a9, h9, w9⟩ := leaf_string (f := 3) (p := 9) Tryd.underlying9 (by kernel_rfl) hf
  obtain ⟨A, c, l, h10, e1, e2, e3, e4⟩ := leaf_list (α := ByteArray) (ec := encS) (K := fun a => a.size ≤ 9223372036854775807) (f := 3) (p := 10) Tryd.underlying23 (by rw [cellsStr1]; decide) (fun f cs x h => text_of h) (by kernel_rfl) hf
  rw [cellsStr1] at e3
  obtain ⟨b00, b01⟩ := bounds_i64 w0
  obtain ⟨b10, b11⟩ := bounds_i64 w1
  obtain ⟨b20, b21⟩ := bounds_i64 w2
  obtain ⟨b30, b31⟩ := bounds_i64 w3
  obtain ⟨b40, b41⟩ := bounds_i64 w4
  obtain ⟨b50, b51⟩ := bounds_i64 w5
  obtain ⟨b60, b61⟩ := bounds_i64 w6
  unfold maxLen at w8 w9
  refine ⟨⟨a0, a1, ⟨a2, a3, a4, a5, a6, a7⟩, a8, a9⟩, A, c, l, ?_, ⟨b00, b01, b10, b11, ⟨b20, b21, b30, b31, b40, b41, b50, b51, b60, b61⟩, w8, w9⟩, e1, e2, e3, e4⟩
  congr 1
  apply Array.ext'
  show cs.toList = encC ⟨a0, a1, ⟨a2, a3, a4, a5, a6, a7⟩, a8, a9⟩ (.slice A l.length c)
  apply List.ext_getElem?
  intro i
  match i with
  | 0 => exact h0
  | 1 => exact h1
  | 2 => exact h2
  | 3 => exact h3
  | 4 => exact h4
  | 5 => exact h5
  | 6 => exact h6
  | 7 => exact h7
  | 8 => exact h8
  | 9 => exact h9
  | 10 => exact h10
  | i + 11 => rw [List.getElem?_eq_none (by simp; omega), List.getElem?_eq_none (by rw [encC_len]; omega)]
theorem claim_fac {w : World} {b : Nat} {x : Clm} {v : Value} (h : Blk w b (encC x v) 50) : ∀ p u, (encF x.x)[p]? = some u → w.cell? ⟨b, 2 + p, none⟩ = some u := fun p u hu => by
  rw [Nat.add_comm]
  refine h.cellD (p + 2) u ?_
  have hp6 : p < (encF x.x).length := (List.getElem?_eq_some_iff.1 hu).1
  show (encF x.x ++ _)[p]? = _
  rw [List.getElem?_append_left hp6]; exact hu
theorem leafT_size (x : Fac) (s : ByteArray) (hx : x.Ok) (h1 : s.size ≤ 900000000) : (leafT x s).size ≤ 1000000000 := by
  have hs := bdP_size hx 6
  have s1 := dec_size (s.size : Int) (by omega) (by omega)
  have e : (leafT x s).size = 4 + 1 + (dec (s.size : Int)).size + 1 + s.size + (bdF x).size := by unfold leafT tagT; rw [ba_size, ba_size, ba_size, ba_size, ba_size]; rfl
  have : (bdF x).size = (bdP x 6).size := rfl
  omega
end Go.Proofs.YtamiaalfjmppaaaDoor

namespace Go.Proofs.YtamiaalfjmppaaaDoor
open Go.RowKit Go.Blk Go.Sg Go.Opn Go.Di

/-- What every function of the law 34 begins with: the facts, salts and their leaves. -/
def rootOf (l : List ByteArray) : ByteArray := if l = [] then sumB KC ⟨#[110, 111, 110, 101]⟩ else rootL l
theorem rootOf_ne {l : List ByteArray} (h : 0 < l.length) : rootOf l = rootL l := by
  unfold rootOf; rw [if_neg (fun e => by rw [e] at h; exact absurd h (by decide))]
theorem rootOf_size (l : List ByteArray) (h : Short l) (h2 : l.length < 9223372036854775808) : (rootOf l).size ≤ 1000000000 := by
  unfold rootOf
  split
  · have : (sumB KC ⟨#[110, 111, 110, 101]⟩).size = 64 := sumB_size _
    omega
  · rename_i hn; exact rootL_size l h hn h2
theorem short_200 {l : List ByteArray} (h : ∀ b ∈ l, b.size ≤ 200) : Short l := fun b hb => by have := h b hb; omega
theorem rootL_size0 (l : List ByteArray) (h : Short l) (h2 : l.length < 9223372036854775808) : (rootL l).size ≤ 1000000000 := by
  by_cases h1 : l = []
  · subst h1
    rw [rootL, if_pos (by decide)]; decide
  · exact rootL_size l h h1 h2
theorem outP_short : ∀ (p : List (Nat × Bool)) (l : List ByteArray), Short l → l.length < 9223372036854775808 → Short (outP l p)
  | [], _, _, _ => fun b hb => by cases hb
  | x :: p, l, h, h2 => by
    have t1 : Short (l.take x.1) := h.take _
    have t2 : Short (l.drop x.1) := h.drop _
    have n1 : (l.take x.1).length < 9223372036854775808 := by rw [List.length_take]; omega
    have n2 : (l.drop x.1).length < 9223372036854775808 := by rw [List.length_drop]; omega
    intro b hb
    have hb : b ∈ rootL (if x.2 then l.drop x.1 else l.take x.1) :: outP (if x.2 then l.take x.1 else l.drop x.1) p := hb
    rcases List.mem_cons.1 hb with rfl | hb
    · split
      · exact rootL_size0 _ t2 n2
      · exact rootL_size0 _ t1 n1
    · refine outP_short p _ ?_ ?_ b hb
      · split <;> assumption
      · split <;> assumption
theorem path_texts (l : List ByteArray) (i : Nat) (h : Short l) (h2 : l.length < 9223372036854775808) : Short (pathL l i) := fun b hb => outP_short _ l h h2 b (List.mem_reverse.1 hb)
def RUpto (w : World) (n : Nat) (i : Value) (wr : World) : Prop := ∃ k : Nat, k ≤ n ∧ i = .int .i64 (k : Int) ∧ Below w.heap.size w wr
theorem check_leaf {l : List Fac} {salts : List ByteArray} {k : Nat} {x : Fac} (hl : l.length ≤ 4000) (hx : l[k]? = some x) :
    checkD (rootOf (leavesA l salts)) (l.length : Int) (k : Int) x (saltA salts k) (pathL (leavesA l salts) k) = true := by
  have h1 := (List.getElem?_eq_some_iff.1 hx).1
  rw [rootOf_ne (by rw [leavesA_len]; omega)]
  have := check_path (leavesA l salts) k x (saltA salts k) (by rw [leavesA_len]; exact hl) (leavesA_at hx)
  rw [leavesA_len] at this
  exact this
set_option maxRecDepth 100000 in
set_option maxHeartbeats 4000000 in
theorem proves34_law (A B : Option Addr) (c d : Nat) (l : List Fac) (salts : List ByteArray) (w : World) (hl : l.length ≤ 9223372036854775807) (hs1 : SL w 6 encF A l) (ho : ∀ a ∈ l, a.Ok) (hl2 : salts.length ≤ 9223372036854775807) (hs2 : SL w 1 encS B salts) (hT : HasT w) :
    Calls Tryd.prog 5 #[.slice A l.length c, .slice B salts.length d] w fun r w' => r = .returned (.bool true) ∧ Below w.heap.size w w' := by
  obtain ⟨R, eR⟩ : ∃ R : Ending → World → Prop, R = fun r w' => r = .returned (.bool true) ∧ Below w.heap.size w w' := ⟨_, rfl⟩
  rw [← eR]
  have FIN : Hid (∀ w', Below w.heap.size w w' → R (.returned (.bool true)) w') := fun w' hb => by rw [eR]; exact ⟨rfl, hb⟩
  have HH := Lib.hid (head34_any w hT)
  have S1 := Lib.hid hs1
  have S2 := Lib.hid hs2
  have OK := Lib.hid ho
  have HT := Lib.hid hT
  clear eR hs1 hs2 ho hT
  go_enter Tryd.func5, Tryd.ntmps5
  go_wp2_with fail
  refine HH.out.mono ?_
  rintro e w1 ⟨rfl, hb1⟩
  have HB1 := Lib.hid hb1
  clear hb1 HH
  by_cases h1 : 40 < l.length
  · have q1 : (40 : Int) < (l.length : Int) := by omega
    clear h1
    go_wp2_with fail
    exact FIN.out _ HB1.out
  have q1 : ¬ (40 : Int) < (l.length : Int) := by omega
  have CS := Lib.hid (small_any B d 40 salts w1 (S2.out.below HB1.out (Nat.le_refl _)) hl2)
  obtain ⟨F, eF⟩ : ∃ F, F = smallB salts 40 := ⟨_, rfl⟩
  rw [← eF] at CS
  have EF := Lib.hid eF
  clear eF
  go_wp2_with fail
  refine CS.out.mono ?_
  rintro e w' ⟨rfl, rfl⟩
  clear CS
  cases F with
  | false =>
    go_wp2_with fail
    exact FIN.out _ HB1.out
  | true =>
    have HSM := Lib.hid (smallB_short EF.out.symm)
    have CL := Lib.hid (leaves_any A B c d l salts w1 (S1.out.below HB1.out (Nat.le_refl _)) (S2.out.below HB1.out (Nat.le_refl _)) (by omega) OK.out (short_200 HSM.out.2) (HT.out.below HB1.out (Nat.le_refl _)))
    go_wp2_with fail
    refine CL.out.mono ?_
    rintro e w2 ⟨⟨A', c', hc', rfl, hsl⟩, hb2⟩
    have HB2 := Lib.hid (HB1.out.trans (hb2.mono HB1.out.size))
    have HSL := Lib.hid hsl
    have LV := Lib.hid (leavesA_len l salts)
    have LVS := Lib.hid (leavesA_short l salts)
    have HCK : Hid (∀ (k : Nat) (x : Fac), l[k]? = some x → checkD (rootOf (leavesA l salts)) (l.length : Int) (k : Int) x (saltA salts k) (pathL (leavesA l salts) k) = true) := fun k x hx => check_leaf (by omega) hx
    have CR : Hid (Calls Tryd.prog 16 #[.slice A' l.length c'] w2 fun e w' => e = .returned (.string (rootOf (leavesA l salts))) ∧ Below w2.heap.size w2 w') := by
      have := root_any (leavesA l salts) A' c' w2 (by rw [LV.out]; exact hc') (by rw [LV.out]; omega) hsl LVS.out (HT.out.below HB2.out (Nat.le_refl _))
      rw [LV.out] at this
      exact this
    obtain ⟨lv, elv⟩ : ∃ lv, lv = leavesA l salts := ⟨_, rfl⟩
    rw [← elv] at HSL LV LVS HCK CR
    obtain ⟨rt, ert⟩ : ∃ rt, rt = rootOf lv := ⟨_, rfl⟩
    rw [← ert] at HCK CR
    clear hb2 hsl CL EF elv ert HB1
    go_wp2_with fail
    refine CR.out.mono ?_
    rintro e w3 ⟨rfl, hb3⟩
    have HB3 := Lib.hid (HB2.out.trans (hb3.mono HB2.out.size))
    have HS3 := Lib.hid (HSL.out.below hb3 (Nat.le_refl _))
    have HT3 := Lib.hid (HT.out.below HB3.out (Nat.le_refl _))
    have S13 := Lib.hid (S1.out.below HB3.out (Nat.le_refl _))
    have S23 := Lib.hid (S2.out.below HB3.out (Nat.le_refl _))
    have HST : Hid (RUpto w3 l.length (.int .i64 0) w3) := ⟨0, Nat.zero_le _, rfl, Below.refl _ _⟩
    clear hb3 CR HB2 HSL S1 S2 HT
    go_wp2_with fail
    go_loopw [8] (fun i wr => RUpto w3 l.length i wr) (fun i _ => l.length - (intOf i).toNat)
    case atStart => exact HST.out
    case round =>
      clear HST
      obtain ⟨k, hk, rfl, hbr⟩ := hrel
      by_cases hlt : k < l.length
      · obtain ⟨x, hx⟩ : ∃ x, l[k]? = some x := ⟨_, List.getElem?_eq_getElem hlt⟩
        have hxo := OK.out x (List.mem_of_getElem? hx)
        have hck := HCK.out k x hx
        have hsz := saltA_200 HSM.out.2 k
        have ki1 : (k : Int) < (l.length : Int) := by omega
        have k00 : (0 : Int) ≤ (k : Int) := by omega
        have CP : Hid (∀ R : Ending → World → Prop, (∀ w' A2 c2, Below wr.heap.size wr w' → SL w' 1 encS A2 (pathL lv k) → R (.returned (.tuple #[.slice A2 (pathL lv k).length c2, .int .i64 0])) w') → Calls Tryd.prog 18 #[.slice A' l.length c', .int .i64 (k : Int)] wr R) := fun R hR => by
          have := prove_in lv A' c' k wr R (by rw [LV.out]; exact hlt) (by rw [LV.out]; exact hc') (by rw [LV.out]; omega) (HS3.out.below hbr (Nat.le_refl _)) LVS.out (HT3.out.below hbr (Nat.le_refl _)) (fun w' A2 c2 a1 _ a3 => hR w' A2 c2 a1 a3)
          rw [LV.out] at this
          exact this
        have hpl : (pathL lv k).length < 1000000000 := by
          have := path_len lv k
          have h2 := lev_len lv.length k
          rw [LV.out] at h2 this
          omega
        have hps : Short (pathL lv k) := path_texts lv k LVS.out (by rw [LV.out]; omega)
        obtain ⟨st, est⟩ : ∃ st, st = saltA salts k := ⟨_, rfl⟩
        obtain ⟨pa, epa⟩ : ∃ pa, pa = pathL lv k := ⟨_, rfl⟩
        rw [← est] at hck hsz
        rw [← epa] at hck CP hpl hps
        have CS : Hid (∀ w', Below w3.heap.size w3 w' → Calls Tryd.prog 30 #[.slice B salts.length d, .int .i64 (k : Int)] w' fun e w2 => e = .returned (.string st) ∧ Below w'.heap.size w' w2) := fun w' hb => by
          rw [est]
          refine (salt_any B d k salts w' (S23.out.below hb (Nat.le_refl _))).mono ?_
          rintro e w2 ⟨rfl, rfl⟩
          exact ⟨rfl, Below.refl _ _⟩
        have CC : Hid (∀ w' A2 c2, Below w3.heap.size w3 w' → SL w' 1 encS A2 pa → Calls Tryd.prog 19 #[.string rt, .int .i64 (l.length : Int), .int .i64 (k : Int), .agg (encF x).toArray, .string st, .slice A2 pa.length c2] w' fun e w2 => e = .returned (.bool true) ∧ Below w'.heap.size w' w2) := fun w' A2 c2 hb hs => by
          have := check_dis rt (l.length : Int) (k : Int) x st pa A2 c2 w' hxo (by omega) hpl hs hps (HT3.out.below hb (Nat.le_refl _))
          rw [hck] at this
          exact this
        obtain ⟨b, off, rfl, _⟩ := S13.out.at_ hx
        have CE : Hid (∀ w', Below w3.heap.size w3 w' → ∀ p u, (encF x)[p]? = some u → w'.cell? ⟨b, off + k * 6 + p, none⟩ = some u) := fun w' hb => by
          obtain ⟨b', off', e1, hc⟩ := (S13.out.below hb (Nat.le_refl _)).at_ hx
          cases e1
          intro p u hu
          have := hc p u hu
          rw [← Nat.add_assoc] at this; exact this
        have HBR := Lib.hid hbr
        clear hx hxo hck hsz hpl hps est epa hbr
        go_wp2_with fail
        refine CP.out _ ?_
        intro y A2 c2 hby hsy
        have HBY := Lib.hid (HBR.out.trans (hby.mono HBR.out.size))
        have HSY := Lib.hid hsy
        clear hby hsy CP
        go_wp2_with fail
        refine Free.wp_region_free 18 [(13, .det (.string st)), (15, .det (.bool true))] (fun w2 => Below y.heap.size y w2) (by kernel_rfl) (by kernel_rfl) (Free.mono_det (fun j mk r hf => by simp only [Free.find] at hf; repeat' (first | cases hf | split at hf))) (Below.refl _ _).drew (fun _ _ h g => h.trans (Below.mono g h.size)) ?_
        simp only [List.take_succ_cons, List.take_zero]
        iterate 10 (apply Free.chain_still (by first | exact Free.wanted_of rfl rfl rfl | rfl) rfl; (intro w' hB hA; obtain qB := hB; clear hA  ; go_light; go_simp <;> rfl); (try simp only [Act.put, List.setIfInBounds_toArray, List.set_cons_succ, List.set_cons_zero]))
        apply Free.chain_still (by first | exact Free.wanted_of rfl rfl rfl | rfl) rfl
        · intro w' hB hA
          exact exec_fac (x := x) rfl rfl (CE.out w' (HBY.out.trans (hB.mono HBY.out.size)))
        simp only [Act.put, List.setIfInBounds_toArray, List.set_cons_succ, List.set_cons_zero]
        iterate 2 (apply Free.chain_still (by first | exact Free.wanted_of rfl rfl rfl | rfl) rfl; (intro w' hB hA; obtain qB := hB; clear hA  ; go_light; go_simp <;> rfl); (try simp only [Act.put, List.setIfInBounds_toArray, List.set_cons_succ, List.set_cons_zero]))
        apply Free.chain_det (by first | exact Free.wanted_of rfl rfl rfl | rfl) rfl
        · intro w' hB hA
          refine Free.opRun_call (f := 30) (args := #[.slice B salts.length d, .int .i64 (k : Int)]) (by clear hB hA; go_simp <;> rfl) ?_
          refine (CS.out w' (HBY.out.trans (hB.mono HBY.out.size))).mono ?_
          rintro e w3 ⟨rfl, hb3⟩
          exact ⟨_, rfl, hb3, rfl⟩
        simp only [Act.put, List.setIfInBounds_toArray, List.set_cons_succ, List.set_cons_zero]
        iterate 1 (apply Free.chain_still (by first | exact Free.wanted_of rfl rfl rfl | rfl) rfl; (intro w' hB hA; obtain qB := hB; clear hA  ; go_light; go_simp <;> rfl); (try simp only [Act.put, List.setIfInBounds_toArray, List.set_cons_succ, List.set_cons_zero]))
        apply Free.chain_det (by first | exact Free.wanted_of rfl rfl rfl | rfl) rfl
        · intro w' hB hA
          refine Free.opRun_call (f := 19) (args := #[.string rt, .int .i64 (l.length : Int), .int .i64 (k : Int), .agg (encF x).toArray, .string st, .slice A2 pa.length c2]) (by clear hB hA; go_simp <;> rfl) ?_
          refine (CC.out w' _ _ (HBY.out.trans (hB.mono HBY.out.size)) (HSY.out.below hB (Nat.le_refl _))).mono ?_
          rintro e w3 ⟨rfl, hb3⟩
          exact ⟨_, rfl, hb3, rfl⟩
        simp only [Act.put, List.setIfInBounds_toArray, List.set_cons_succ, List.set_cons_zero]
        iterate 2 (apply Free.chain_still (by first | exact Free.wanted_of rfl rfl rfl | rfl) rfl; (intro w' hB hA; obtain qB := hB; clear hA  ; go_light; go_simp <;> rfl); (try simp only [Act.put, List.setIfInBounds_toArray, List.set_cons_succ, List.set_cons_zero]))
        apply Free.chain_nil
        intro wy hBz _ _
        simp only [List.drop_succ_cons, List.drop_zero]
        have KEY : Hid (RUpto w3 l.length (.int .i64 ((k : Int) + 1)) wy) := ⟨k + 1, by omega, by go_num, HBY.out.trans (hBz.mono HBY.out.size)⟩
        clear hBz CS CC CE
        go_wp2_with fail
        refine ⟨KEY.out, ?_⟩
        simp [intOf]; omega
      · obtain rfl : k = l.length := by omega
        have L := Lib.hid (HB3.out.trans (hbr.mono HB3.out.size))
        clear hbr
        go_wp2_with fail
        exact FIN.out _ L.out
end Go.Proofs.YtamiaalfjmppaaaDoor

namespace Go.Proofs.YtamiaalfjmppaaaDoor
open Go.RowKit Go.Blk Go.Sg Go.Opn Go.Di Go.Apl

theorem encS_len (b : ByteArray) : (encS b).length = 1 := rfl
theorem encS_one (b : ByteArray) : ∀ u ∈ encS b, u.oneCell' = true := by
  intro u hu
  have : u = .string b := by simpa [encS] using hu
  subst this; rfl
theorem encS_map (l : List ByteArray) : l.flatMap encS = l.map Value.string := by
  induction l with
  | nil => rfl
  | cons x l ih => rw [List.flatMap_cons, ih]; rfl
/-- A row of one's own that holds texts. -/
theorem own_texts {w : World} {B n : Nat} {v : Value} {l : List ByteArray} {xs : List Value} (h : w.ownsRow B 9 1 v n xs) (he : xs = l.flatMap encS) : ∃ A c, v = .slice A l.length c ∧ l.length ≤ c ∧ SL w 1 encS A l := by
  subst he
  rw [encS_map] at h
  have hn : n = l.length := by have := h.1; simp at this; omega
  subst hn
  obtain ⟨A, c, h1, h2, h3⟩ := row_slS h
  exact ⟨A, c, h1, h2, h3⟩
def RPw (n : Nat) (v : Value) : Prop := ∃ j : Nat, v = .int .i64 ((2 ^ j : Nat) : Int) ∧ 2 ^ j < 2 * n
set_option maxRecDepth 100000 in
set_option maxHeartbeats 4000000 in
theorem halves34_law (A B : Option Addr) (c d : Nat) (a b : List ByteArray) (w : World) (hl1 : a.length ≤ 9223372036854775807) (hc1 : a.length ≤ c) (hs1 : SL w 1 encS A a) (hl2 : b.length ≤ 9223372036854775807) (hc2 : b.length ≤ d) (hs2 : SL w 1 encS B b) (hT : HasT w) :
    Calls Tryd.prog 8 #[.slice A a.length c, .slice B b.length d] w fun r w' => r = .returned (.bool true) ∧ Below w.heap.size w w' := by
  obtain ⟨R, eR⟩ : ∃ R : Ending → World → Prop, R = fun r w' => r = .returned (.bool true) ∧ Below w.heap.size w w' := ⟨_, rfl⟩
  rw [← eR]
  have FIN : Hid (∀ w', Below w.heap.size w w' → R (.returned (.bool true)) w') := fun w' hb => by rw [eR]; exact ⟨rfl, hb⟩
  have HH := Lib.hid (head34_any w hT)
  have S1 := Lib.hid hs1
  have S2 := Lib.hid hs2
  have HT := Lib.hid hT
  clear eR hs1 hs2 hT
  go_enter Tryd.func8, Tryd.ntmps8
  go_wp2_with fail
  refine HH.out.mono ?_
  rintro e w1 ⟨rfl, hb1⟩
  have HB1 := Lib.hid hb1
  clear hb1 HH
  have CSa := Lib.hid (small_any A c 32 a w1 (S1.out.below HB1.out (Nat.le_refl _)) hl1)
  obtain ⟨F, eF⟩ : ∃ F, F = smallB a 32 := ⟨_, rfl⟩
  rw [← eF] at CSa
  have EF := Lib.hid eF
  clear eF
  go_wp2_with fail
  refine CSa.out.mono ?_
  rintro e w' ⟨rfl, rfl⟩
  clear CSa
  cases F with
  | false =>
    go_wp2_with fail
    exact FIN.out _ HB1.out
  | true =>
  have CSb := Lib.hid (small_any B d 32 b w1 (S2.out.below HB1.out (Nat.le_refl _)) hl2)
  obtain ⟨G, eG⟩ : ∃ G, G = smallB b 32 := ⟨_, rfl⟩
  rw [← eG] at CSb
  have EG := Lib.hid eG
  clear eG
  go_wp2_with fail
  refine CSb.out.mono ?_
  rintro e w' ⟨rfl, rfl⟩
  clear CSb
  cases G with
  | false =>
    go_wp2_with fail
    exact FIN.out _ HB1.out
  | true =>
  have SA := Lib.hid (smallB_short EF.out.symm)
  have SB := Lib.hid (smallB_short EG.out.symm)
  clear EF EG
  by_cases hb0 : b = []
  · subst hb0
    simp only [List.length_nil]
    go_wp2_with fail
    exact FIN.out _ HB1.out
  have hb1 : 0 < b.length := List.length_pos_iff.2 hb0
  have HB0 := Lib.hid hb0
  have q0 : ((b.length : Int) == 0) = false := beq_eq_false_iff_ne.2 (by omega)
  have q1 : (b.length == 0) = false := beq_eq_false_iff_ne.2 (by omega)
  clear hb0
  by_cases hba : a.length < b.length
  · have q2 : (a.length : Int) < (b.length : Int) := by omega
    go_wp2_with fail
    exact FIN.out _ HB1.out
  have q2 : ¬ (a.length : Int) < (b.length : Int) := by omega
  have HBA := Lib.hid hba
  have ha32 := SA.out.1
  have hb32 := SB.out.1
  have HST : Hid (RPw a.length (.int .i64 1)) := ⟨0, rfl, by omega⟩
  clear hba
  go_wp2_with fail
  go_loop [6] (fun p => RPw a.length p) (fun p => 2 * a.length - (intOf p).toNat)
  case atStart => exact HST.out
  case round =>
    clear HST
    obtain ⟨j, rfl, hj⟩ := hrel
    have HP : Hid (2 ^ (j + 1) = 2 * 2 ^ j) := by show _ = _; rw [Nat.pow_succ]; omega
    have h1 : 1 ≤ 2 ^ j := Nat.two_pow_pos j
    have HRT : Hid (∀ q, q = 2 ^ j → a.length = q → rootL (a ++ b) = nodeD (rootL a) (rootL b)) := fun q hq hn => by
      subst hq
      exact root_halves hn HB0.out (by have := HBA.out; omega) (by omega)
    obtain ⟨q, eq⟩ : ∃ q, q = 2 ^ j := ⟨_, rfl⟩
    have EQ := Lib.hid eq
    rw [← eq] at hj h1 HP ⊢
    clear eq
    by_cases hlt : q < a.length
    · have g1 : (q : Int) < (a.length : Int) := by omega
      go_wp2_with fail
      go_round
      case rel => exact ⟨j + 1, by rw [HP.out]; go_num, by rw [HP.out]; omega⟩
      case measure => simp [intOf]; omega
    · have g1 : ¬ (q : Int) < (a.length : Int) := by omega
      by_cases hqa : q = a.length
      · have g2 : ((q : Int) != (a.length : Int)) = false := by rw [hqa]; simp
        have RT := Lib.hid (HRT.out q EQ.out hqa.symm)
        have HQA := Lib.hid hqa
        clear HRT hqa EQ
        obtain ⟨i0, hi, hz0, hz1, hz2⟩ := info_parts infoStr
        have HI := Lib.hid hi
        have HZ0 := Lib.hid hz0
        have HZ1 := Lib.hid hz1
        have HZ2 := Lib.hid hz2
        clear hi hz0 hz1 hz2 hj HP
        go_wp2_with (at_builtin; refine wpList_append_list (ec := encS) rfl (.tmp 41) (.tmp 42) 23 rfl w1.heap.size 9 i0 _ 16 Tryd.underlying23 HI.out HZ0.out HZ1.out HZ2.out rfl (by decide) encS_len encS_one _ 0 [] rfl (World.ownsRow_made w1 #[] 0 (Nat.le_refl _) (by decide) rfl) A c a rfl ((S1.out.below HB1.out (Nat.le_refl _)).alloc _) (by have : maxLen = 9223372036854775807 := rfl; omega) (by omega) (by simp) ?_)
        intro v2 w2 hown2 hg2 _
        have HB2 : Hid (Below w1.heap.size w1 w2) := ((Below.refl _ w1).alloc (Nat.le_refl _) _).grown hg2 (by simp) (fun j e => by cases e; exact Nat.le_refl _)
        have HOWN := Lib.hid hown2
        clear hown2 hg2
        go_wp2_with (at_builtin; refine wpList_append_list (ec := encS) rfl (.tmp 43) (.tmp 44) 23 rfl w1.heap.size 9 i0 _ 16 Tryd.underlying23 HI.out HZ0.out HZ1.out HZ2.out rfl (by decide) encS_len encS_one v2 _ _ rfl HOWN.out B d b rfl ((S2.out.below HB1.out (Nat.le_refl _)).below HB2.out (Nat.le_refl _)) (by have : maxLen = 9223372036854775807 := rfl; omega) (by omega) HB2.out.size ?_)
        intro v3 w3 hown3 hg3 _
        have HB3 : Hid (Below w1.heap.size w1 w3) := HB2.out.grown hg3 HB2.out.size (fun j e => (HOWN.out.lt j e).1)
        obtain ⟨ab, eab⟩ : ∃ ab, ab = a ++ b := ⟨_, rfl⟩
        obtain ⟨A3, c3, rfl, hc3, hsl3⟩ := own_texts (l := ab) hown3 (by simp [eab])
        have EAB := Lib.hid eab
        clear eab
        have HS3 := Lib.hid hsl3
        clear hown3 hg3 HOWN HB2 hsl3 HI HZ0 HZ1 HZ2
        have SHA := Lib.hid (short_200 SA.out.2)
        have SHB := Lib.hid (short_200 SB.out.2)
        have HB13 := Lib.hid (HB1.out.trans (HB3.out.mono HB1.out.size))
        have C1 : Hid (Calls Tryd.prog 16 #[.slice A3 ab.length c3] w3 fun e w' => e = .returned (.string (nodeD (rootL a) (rootL b))) ∧ Below w3.heap.size w3 w') := by
          have hr := RT.out
          rw [← EAB.out] at hr
          have hx : ab.length < 1000000000 := by rw [EAB.out, List.length_append]; omega
          have hn : ab ≠ [] := fun e => by have h2 := EAB.out; rw [e] at h2; exact HB0.out (List.append_eq_nil_iff.1 h2.symm).2
          have hsh : Short ab := fun x hx => by rw [EAB.out] at hx; rcases List.mem_append.1 hx with h | h; exact SHA.out x h; exact SHB.out x h
          have := root_any ab A3 c3 w3 hc3 hx HS3.out hsh (HT.out.below HB13.out (Nat.le_refl _))
          rw [if_neg hn, hr] at this
          exact this
        have ha0 : a ≠ [] := fun e => by have := HBA.out; rw [e] at this; simp at this; exact HB0.out this
        have C2 : Hid (∀ w', Below w.heap.size w w' → Calls Tryd.prog 16 #[.slice A a.length c] w' fun e w2 => e = .returned (.string (rootL a)) ∧ Below w'.heap.size w' w2) := fun w' hb => by
          have := root_any a A c w' hc1 (by omega) (S1.out.below hb (Nat.le_refl _)) SHA.out (HT.out.below hb (Nat.le_refl _))
          rw [if_neg ha0] at this
          exact this
        have C3 : Hid (∀ w', Below w.heap.size w w' → Calls Tryd.prog 16 #[.slice B b.length d] w' fun e w2 => e = .returned (.string (rootL b)) ∧ Below w'.heap.size w' w2) := fun w' hb => by
          have := root_any b B d w' hc2 (by omega) (S2.out.below hb (Nat.le_refl _)) SHB.out (HT.out.below hb (Nat.le_refl _))
          rw [if_neg HB0.out] at this
          exact this
        have z1 := rootL_size0 a SHA.out (by omega)
        have z2 := rootL_size0 b SHB.out (by omega)
        have C4 : Hid (∀ w', Below w.heap.size w w' → Calls Tryd.prog 34 #[.string (rootL a), .string (rootL b)] w' fun e w2 => e = .returned (.string (nodeD (rootL a) (rootL b))) ∧ Below w'.heap.size w' w2) := fun w' hb => node34_any _ _ w' z1 z2 (HT.out.below hb (Nat.le_refl _))
        obtain ⟨ra, era⟩ : ∃ ra, ra = rootL a := ⟨_, rfl⟩
        obtain ⟨rb, erb⟩ : ∃ rb, rb = rootL b := ⟨_, rfl⟩
        obtain ⟨nd, end_⟩ : ∃ nd, nd = nodeD ra rb := ⟨_, rfl⟩
        rw [← era] at C1 C2 C4
        rw [← erb] at C1 C3 C4
        rw [← end_] at C1 C4
        have qn : (nd.toList == nd.toList) = true := by simp
        clear era erb end_ ha0 z1 z2 RT EAB HS3 S1 S2 HT SA SB HB3
        go_wp2_with fail
        refine C1.out.mono ?_
        rintro e w4 ⟨rfl, hb4⟩
        have HB4 := Lib.hid (HB13.out.trans (hb4.mono HB13.out.size))
        clear hb4 C1
        go_wp2_with fail
        refine (C2.out _ HB4.out).mono ?_
        rintro e w5 ⟨rfl, hb5⟩
        have HB5 := Lib.hid (HB4.out.trans (hb5.mono HB4.out.size))
        clear hb5 C2
        go_wp2_with fail
        refine (C3.out _ HB5.out).mono ?_
        rintro e w6 ⟨rfl, hb6⟩
        have HB6 := Lib.hid (HB5.out.trans (hb6.mono HB5.out.size))
        clear hb6 C3
        go_wp2_with fail
        refine (C4.out _ HB6.out).mono ?_
        rintro e w7 ⟨rfl, hb7⟩
        have HB7 := Lib.hid (HB6.out.trans (hb7.mono HB6.out.size))
        clear hb7 C4
        go_wp2_with fail
        exact FIN.out _ HB7.out
      · have g2 : ((q : Int) != (a.length : Int)) = true := by simp; omega
        clear HRT hqa EQ
        go_wp2_with fail
        exact FIN.out _ HB1.out
end Go.Proofs.YtamiaalfjmppaaaDoor

namespace Go.Proofs.YtamiaalfjmppaaaDoor
open Go.RowKit Go.Blk Go.Sg Go.Opn Go.Di Go.Apl Go.Rf

theorem own_base {w : World} {B B' n : Nat} {e : TypeId} {sz : Nat} {v : Value} {xs : List Value} (h : w.ownsRow B e sz v n xs) (hB : B' ≤ B) : w.ownsRow B' e sz v n xs := by
  refine ⟨h.1, ?_⟩
  rcases h.2 with h1 | ⟨g, cap, cur, h1, h2, h3⟩
  · exact .inl h1
  · exact .inr ⟨g, cap, cur, h1, Nat.le_trans hB h2, h3⟩
def Med (l : List ByteArray) : Prop := ∀ b ∈ l, b.size ≤ 900000000
theorem nodeT_small (a b : ByteArray) (h1 : a.size ≤ 900000000) (h2 : b.size ≤ 900000000) (h3 : a.size = 64 ∨ b.size = 64) : (nodeT a b).size ≤ 1000000000 := by
  have s1 := dec_size (a.size : Int) (by omega) (by omega)
  have e : (nodeT a b).size = 4 + 1 + (dec (a.size : Int)).size + 1 + a.size + b.size := by unfold nodeT tagT; rw [ba_size, ba_size, ba_size, ba_size, ba_size]; rfl
  omega
attribute [local irreducible] sumB
theorem txtD_small (t : ByteArray) (ht : t.size ≤ 1000000000) : ∀ (bs : List Bool) (qs : List ByteArray), Med qs → ((txtD t bs qs).getLastD ⟨#[]⟩).size ≤ 1000000000
  | [], [], _ => ht
  | [], _ :: _, _ => ht
  | _ :: _, [], _ => ht
  | b :: bs, q :: qs, h => by
    have h1 := h q (by simp)
    rw [txtD_cons, last_snoc]
    have h2 : (sumB KC ((txtD t bs qs).getLastD ⟨#[]⟩)).size = 64 := sumB_size _
    split
    · exact nodeT_small _ _ (by omega) h1 (.inl h2)
    · exact nodeT_small _ _ h1 (by omega) (.inr h2)
theorem rev_last {p : List ByteArray} {q : ByteArray} {k : Nat} (hk : p.length = k + 1) (h : p[k]? = some q) : p.reverse = q :: p.dropLast.reverse := by
  rcases List.eq_nil_or_concat p with rfl | ⟨l, x, rfl⟩
  · simp at hk
  · rw [List.concat_eq_append] at hk h ⊢
    have : l.length = k := by simpa using hk
    subst this
    rw [List.getElem?_concat_length] at h
    cases h
    simp
theorem sl_init {w : World} {A : Option Addr} {l : List ByteArray} (h : SL w 1 encS A l) : SL w 1 encS A l.dropLast := by
  rw [List.dropLast_eq_take]; exact h.take _
theorem lev_pos {i n : Nat} (h : 2 ≤ n) (h2 : n < 9223372036854775808) : 0 < (lev i n).length := by rw [lev_more h h2]; simp
theorem txt_at (t : ByteArray) (bs : List Bool) (qs : List ByteArray) (m : Nat) (h : bs.length = qs.length) (hm : qs.length = m) : (txtD t bs qs)[m]? = some ((txtD t bs qs).getLastD ⟨#[]⟩) := by
  have h1 := txtD_len t bs qs h
  rw [List.getLastD_eq_getLast?, List.getLast?_eq_getElem?, h1, h, hm]
  show _ = some (((txtD t bs qs)[m]?).getD _)
  rw [List.getElem?_eq_getElem (by omega)]; rfl
def TxPost (x : Fac) (s : ByteArray) (i n : Nat) (p : List ByteArray) (w : World) (e : Ending) (w' : World) : Prop :=
  (∃ v, e = .returned v ∧ w'.ownsRow w.heap.size 9 1 v (p.length + 1) ((txtD (leafT x s) (sidesL i n) p.reverse).map Value.string)) ∧ Below w.heap.size w w'
set_option maxRecDepth 100000 in
set_option maxHeartbeats 4000000 in
theorem texts34_any (x : Fac) (s : ByteArray) (hx : x.Ok) (hs : s.size ≤ 900000000) : ∀ (n i : Nat) (p : List ByteArray) (A : Option Addr) (c : Nat) (w : World), 1 ≤ n → n < 4611686018427387904 → i < n → p.length = (lev i n).length → p.length ≤ c → p.length < 1000000 → SL w 1 encS A p → Med p →
    Calls Tryd.prog 31 #[.agg (encF x).toArray, .string s, .int .i64 (i : Int), .int .i64 (n : Int), .slice A p.length c] w (TxPost x s i n p w) := by
  intro n
  induction n using Nat.strongRecOn with
  | _ n ih =>
    intro i p A c w h1 h2 hi hpl hpc hpb hsl hmed
    obtain ⟨R, eR⟩ : ∃ R, R = TxPost x s i n p w := ⟨_, rfl⟩
    rw [← eR]
    have hzl := leafT_size x s hx hs
    by_cases hn : n = 1
    · subst hn
      have hp : p = [] := by rw [lev_small (by decide)] at hpl; exact List.length_eq_zero_iff.1 (by simpa using hpl)
      subst hp
      have FIN : Hid (∀ g w', w'.heap[g]? = some (.cells #[.string (leafT x s)] 9 (0, 0)) → w.heap.size ≤ g → Below w.heap.size w w' → R (.returned (.slice (some ⟨g, 0, none⟩) 1 1)) w') := by
        intro g w' hg hb hbw
        rw [eR]
        refine ⟨⟨_, rfl, ?_⟩, hbw⟩
        rw [sides_small (by decide)]
        exact ⟨rfl, .inr ⟨g, 1, _, rfl, hb, hg, Nat.le_refl _, by decide, rfl, rfl⟩⟩
      have CL := Lib.hid (fun w => leaftext_any x s w hx (by omega))
      obtain ⟨lt, elt⟩ : ∃ lt, lt = leafT x s := ⟨_, rfl⟩
      rw [← elt] at FIN CL
      clear ih hpl hsl hmed eR hzl elt h2 hx
      obtain ⟨xr, xa, xl, xh, xf, xs⟩ := x
      rw [show encF ⟨xr, xa, xl, xh, xf, xs⟩ = [.int .i64 xr, .int .i64 xa, .int .i64 xl, .int .i64 xh, .int .i64 xf, .bool xs] from rfl] at CL ⊢
      go_enter Tryd.func31, Tryd.ntmps31
      go_wp2_with fail
      refine (CL.out _).mono ?_
      rintro e w1 ⟨rfl, hb⟩
      have L1 : Hid (Below w.heap.size w w1) := (((Below.refl _ w).alloc (Nat.le_refl _) _).trans (hb.mono (by simp)))
      clear hb
      have HF : Hid (R (.returned (.slice (some ⟨w1.heap.size, 0, none⟩) 1 1)) (w1.alloc (.cells #[.string lt] 9))) := FIN.out _ _ (new_at rfl) L1.out.size (L1.out.alloc L1.out.size _)
      go_wp2_with fail
      exact HF.out
    · have h3 : 2 ≤ n := by omega
      obtain ⟨k1, k2, _, _⟩ := half_facts n h3 (by omega)
      have k0 := half_pos n
      have hp0 := lev_pos (i := i) h3 (by omega)
      obtain ⟨m, em⟩ : ∃ m, p.length = m + 1 := ⟨p.length - 1, by omega⟩
      obtain ⟨q, hq⟩ : ∃ q, p[m]? = some q := ⟨_, List.getElem?_eq_getElem (by omega)⟩
      have hqz := hmed q (List.mem_of_getElem? hq)
      have hrev := rev_last em hq
      have hdl : p.dropLast.length = m := by rw [List.length_dropLast]; omega
      have hmd : Med p.dropLast := fun b hb => hmed b ((List.dropLast_sublist p).subset hb)
      have HSP := Lib.hid (fun w => split_any n w h3 h2)
      obtain ⟨b, off, rfl, hc⟩ := hsl.at_ hq
      have c3 := hc 0 _ rfl
      simp only [Nat.mul_one, Nat.add_zero] at c3
      by_cases hik : i < half n
      · have hll : (lev i n).length = (lev i (half n)).length + 1 := by rw [lev_more h3 (by omega), if_pos hik]; rfl
        have CALL : Hid (∀ w', SL w' 1 encS (some ⟨b, off, none⟩) p → Calls Tryd.prog 31 #[.agg (encF x).toArray, .string s, .int .i64 (i : Int), .int .i64 ((half n : Nat) : Int), .slice (some ⟨b, off, none⟩) m c] w' fun e w2 => (∃ v, e = .returned v ∧ w2.ownsRow w'.heap.size 9 1 v p.length ((txtD (leafT x s) (sidesL i (half n)) p.dropLast.reverse).map Value.string)) ∧ Below w'.heap.size w' w2) := fun w' hs => by
          have h0 := ih (half n) (by omega) i p.dropLast (some ⟨b, off, none⟩) c w' (by omega) (by omega) (by omega) (by rw [hdl]; omega) (by omega) (by omega) (sl_init hs) hmd
          unfold TxPost at h0
          rw [hdl, ← em] at h0
          skip
          exact h0
        have hlast := txt_at (leafT x s) (sidesL i (half n)) p.dropLast.reverse m (by rw [sides_len, List.length_reverse, hdl]; omega) (by rw [List.length_reverse, hdl])
        have hlz := txtD_small (leafT x s) hzl (sidesL i (half n)) p.dropLast.reverse (fun t ht => hmd t (List.mem_reverse.1 ht))
        have hTX : txtD (leafT x s) (sidesL i n) p.reverse = txtD (leafT x s) (sidesL i (half n)) p.dropLast.reverse ++ [nodeT (sumB KC ((txtD (leafT x s) (sidesL i (half n)) p.dropLast.reverse).getLastD ⟨#[]⟩)) q] := by
          rw [hrev, sides_more h3 (by omega), txtD_cons]
          rw [decide_eq_true hik, if_pos hik, if_pos rfl]
        obtain ⟨tx, etx⟩ : ∃ tx, tx = txtD (leafT x s) (sidesL i (half n)) p.dropLast.reverse := ⟨_, rfl⟩
        rw [← etx] at CALL hlast hlz hTX
        obtain ⟨lst, elst⟩ : ∃ lst, lst = tx.getLastD ⟨#[]⟩ := ⟨_, rfl⟩
        rw [← elst] at hlast hlz hTX
        have hsz : (sumB KC lst).size = 64 := sumB_size _
        have CSM := Lib.hid (fun w => refsum_any lst w hlz)
        have CNT := Lib.hid (fun w => nodetext_any (sumB KC lst) q w (by omega) (by omega))
        obtain ⟨sm, esm⟩ : ∃ sm, sm = sumB KC lst := ⟨_, rfl⟩
        rw [← esm] at CSM CNT hTX
        obtain ⟨nt, ent⟩ : ∃ nt, nt = nodeT sm q := ⟨_, rfl⟩
        rw [← ent] at CNT hTX
        have FIN : Hid (∀ v' w', w'.ownsRow w.heap.size 9 1 v' (p.length + 1) (tx.map Value.string ++ [.string nt]) → Below w.heap.size w w' → R (.returned v') w') := fun v' w' h hb => by
          rw [eR]
          refine ⟨⟨v', rfl, ?_⟩, hb⟩
          rw [hTX, List.map_append]; exact h
        obtain ⟨kk, ekk⟩ : ∃ kk, kk = half n := ⟨_, rfl⟩
        rw [← ekk] at HSP CALL hik k0 k1 k2
        have LST := Lib.hid hlast
        have SLP := Lib.hid hsl
        have j0 : (0 : Int) ≤ (p.length : Int) - 1 := by omega
        have j0' : (1 : Int) ≤ (p.length : Int) := by omega
        have j1 : (p.length : Int) - 1 < (p.length : Int) := by omega
        have j2 : ((p.length : Int) - 1).toNat = m := by omega
        have j3 : (p.length : Int) - 1 ≤ (c : Int) := by omega
        have hmp : m < p.length := by omega
        have hn1 : ((n : Int) == 1) = false := beq_eq_false_iff_ne.2 (by omega)
        have hlt1 : (i : Int) < (kk : Int) := by omega
        clear ih hpl hmed eR hzl hlast hlz hTX etx elst hsz esm ent ekk hq hrev hdl hmd hsl em hn hp0 hx
        obtain ⟨xr, xa, xl, xh, xf, xs⟩ := x
        obtain ⟨V, eV⟩ : ∃ V, V = w.alloc (.cells (encF ⟨xr, xa, xl, xh, xf, xs⟩).toArray 25) := ⟨_, rfl⟩
        have HB1 : Hid (Below w.heap.size w V) := by rw [eV]; exact (Below.refl _ w).alloc (Nat.le_refl _) _
        have hbk : Blk V w.heap.size (encF ⟨xr, xa, xl, xh, xf, xs⟩) 25 := by rw [eV]; exact Blk.new w _ _
        have EV : Hid (w.alloc (.cells #[.int .i64 xr, .int .i64 xa, .int .i64 xl, .int .i64 xh, .int .i64 xf, .bool xs] 25) = V) := eV.symm
        have e0 := hbk.cellD 0 _ rfl
        have e1 := hbk.cellD 1 _ rfl
        have e2 := hbk.cellD 2 _ rfl
        have e3 := hbk.cellD 3 _ rfl
        have e4 := hbk.cellD 4 _ rfl
        have e5 := hbk.cellD 5 _ rfl
        have c3' : V.cell? ⟨b, off + m, none⟩ = some (.string q) := (HB1.out.cell (p := ⟨b, off + m, none⟩) (World.block_lt_of_cell? w _ c3)).trans c3
        have SLV := Lib.hid (SLP.out.below HB1.out (Nat.le_refl _))
        clear eV hbk c3 SLP
        show Calls Tryd.prog 31 #[.agg #[.int .i64 xr, .int .i64 xa, .int .i64 xl, .int .i64 xh, .int .i64 xf, .bool xs], .string s, .int .i64 (i : Int), .int .i64 (n : Int), .slice (some ⟨b, off, none⟩) p.length c] w R
        go_enter Tryd.func31, Tryd.ntmps31
        go_wp2_with fail
        rw [EV.out]
        refine (HSP.out _).mono ?_
        rintro e w' ⟨rfl, rfl⟩
        go_wp2_with fail
        refine (CALL.out _ SLV.out).mono ?_
        rintro e w2 ⟨⟨v1, rfl, hown⟩, hb2⟩
        have HB2 := Lib.hid (HB1.out.trans (hb2.mono HB1.out.size))
        obtain ⟨A1, c1, rfl, hc1, hsl⟩ := row_slS hown
        obtain ⟨b1, o1, rfl, hcl⟩ := hsl.at_ LST.out
        have c5 := hcl 0 _ rfl
        simp only [Nat.mul_one, Nat.add_zero] at c5
        have HOWN := Lib.hid (own_base hown HB1.out.size)
        clear hb2 hsl hcl hown e0 e1 e2 e3 e4 e5 c3'
        go_wp2_with fail
        refine (CSM.out _).mono ?_
        rintro e w3 ⟨rfl, hb3⟩
        have HB3 := Lib.hid (HB2.out.trans (hb3.mono HB2.out.size))
        have HOWN3 := Lib.hid (row_below HOWN.out hb3)
        clear hb3 c5
        go_wp2_with fail
        refine (CNT.out _).mono ?_
        rintro e w4 ⟨rfl, hb4⟩
        have HB4 := Lib.hid (HB3.out.trans (hb4.mono HB3.out.size))
        have HOWN4 := Lib.hid (row_below HOWN3.out hb4)
        clear hb4
        obtain ⟨i0, hi0, hz0, hz1, hz2⟩ := info_parts infoStr
        have HI := Lib.hid hi0
        have HZ0 := Lib.hid hz0
        have HZ1 := Lib.hid hz1
        have HZ2 := Lib.hid hz2
        clear hi0 hz0 hz1 hz2
        go_wp2_with (at_builtin; refine wpList_append_list (ec := encS) rfl (.tmp 44) (.tmp 54) 23 rfl w.heap.size 9 i0 _ 16 Tryd.underlying23 HI.out HZ0.out HZ1.out HZ2.out rfl (by decide) encS_len encS_one _ _ _ rfl (row_below HOWN4.out ((Below.refl _ _).alloc (Nat.le_refl _) _)) (some ⟨w4.heap.size, 0, none⟩) 1 [nt] rfl (sl_new (l := [nt]) (new_at rfl)) (by have : maxLen = 9223372036854775807 := rfl; simp only [List.length_cons, List.length_nil]; omega) (by simp only [List.length_cons, List.length_nil]; omega) (by have := HB4.out.size; simp; omega) ?_)
        intro v5 w5 hown5 hg5 _
        have hb5 : Below w.heap.size w w5 := (HB4.out.alloc HB4.out.size _).grown hg5 (by have := HB4.out.size; simp; omega) (fun j e => (HOWN4.out.lt j e).1)
        have HF := Lib.hid (FIN.out v5 w5 hown5 hb5)
        clear hown5 hg5 hb5
        go_wp2_with fail
        exact HF.out
      · have hll : (lev i n).length = (lev (i - half n) (n - half n)).length + 1 := by rw [lev_more h3 (by omega), if_neg hik]; rfl
        have CALL : Hid (∀ w', SL w' 1 encS (some ⟨b, off, none⟩) p → Calls Tryd.prog 31 #[.agg (encF x).toArray, .string s, .int .i64 ((i : Int) - ((half n : Nat) : Int)), .int .i64 ((n : Int) - ((half n : Nat) : Int)), .slice (some ⟨b, off, none⟩) m c] w' fun e w2 => (∃ v, e = .returned v ∧ w2.ownsRow w'.heap.size 9 1 v p.length ((txtD (leafT x s) (sidesL (i - half n) (n - half n)) p.dropLast.reverse).map Value.string)) ∧ Below w'.heap.size w' w2) := fun w' hs => by
          have h0 := ih (n - half n) (by omega) (i - half n) p.dropLast (some ⟨b, off, none⟩) c w' (by omega) (by omega) (by omega) (by rw [hdl]; omega) (by omega) (by omega) (sl_init hs) hmd
          unfold TxPost at h0
          rw [hdl, ← em] at h0
          rw [show ((i - half n : Nat) : Int) = (i : Int) - ((half n : Nat) : Int) by omega, show ((n - half n : Nat) : Int) = (n : Int) - ((half n : Nat) : Int) by omega] at h0
          exact h0
        have hlast := txt_at (leafT x s) (sidesL (i - half n) (n - half n)) p.dropLast.reverse m (by rw [sides_len, List.length_reverse, hdl]; omega) (by rw [List.length_reverse, hdl])
        have hlz := txtD_small (leafT x s) hzl (sidesL (i - half n) (n - half n)) p.dropLast.reverse (fun t ht => hmd t (List.mem_reverse.1 ht))
        have hTX : txtD (leafT x s) (sidesL i n) p.reverse = txtD (leafT x s) (sidesL (i - half n) (n - half n)) p.dropLast.reverse ++ [nodeT q (sumB KC ((txtD (leafT x s) (sidesL (i - half n) (n - half n)) p.dropLast.reverse).getLastD ⟨#[]⟩))] := by
          rw [hrev, sides_more h3 (by omega), txtD_cons]
          rw [decide_eq_false hik, if_neg hik, if_neg (by decide)]
        obtain ⟨tx, etx⟩ : ∃ tx, tx = txtD (leafT x s) (sidesL (i - half n) (n - half n)) p.dropLast.reverse := ⟨_, rfl⟩
        rw [← etx] at CALL hlast hlz hTX
        obtain ⟨lst, elst⟩ : ∃ lst, lst = tx.getLastD ⟨#[]⟩ := ⟨_, rfl⟩
        rw [← elst] at hlast hlz hTX
        have hsz : (sumB KC lst).size = 64 := sumB_size _
        have CSM := Lib.hid (fun w => refsum_any lst w hlz)
        have CNT := Lib.hid (fun w => nodetext_any q (sumB KC lst) w (by omega) (by omega))
        obtain ⟨sm, esm⟩ : ∃ sm, sm = sumB KC lst := ⟨_, rfl⟩
        rw [← esm] at CSM CNT hTX
        obtain ⟨nt, ent⟩ : ∃ nt, nt = nodeT q sm := ⟨_, rfl⟩
        rw [← ent] at CNT hTX
        have FIN : Hid (∀ v' w', w'.ownsRow w.heap.size 9 1 v' (p.length + 1) (tx.map Value.string ++ [.string nt]) → Below w.heap.size w w' → R (.returned v') w') := fun v' w' h hb => by
          rw [eR]
          refine ⟨⟨v', rfl, ?_⟩, hb⟩
          rw [hTX, List.map_append]; exact h
        obtain ⟨kk, ekk⟩ : ∃ kk, kk = half n := ⟨_, rfl⟩
        rw [← ekk] at HSP CALL hik k0 k1 k2
        have LST := Lib.hid hlast
        have SLP := Lib.hid hsl
        have j0 : (0 : Int) ≤ (p.length : Int) - 1 := by omega
        have j0' : (1 : Int) ≤ (p.length : Int) := by omega
        have j1 : (p.length : Int) - 1 < (p.length : Int) := by omega
        have j2 : ((p.length : Int) - 1).toNat = m := by omega
        have j3 : (p.length : Int) - 1 ≤ (c : Int) := by omega
        have hmp : m < p.length := by omega
        have hn1 : ((n : Int) == 1) = false := beq_eq_false_iff_ne.2 (by omega)
        have hlt1 : ¬ (i : Int) < (kk : Int) := by omega
        clear ih hpl hmed eR hzl hlast hlz hTX etx elst hsz esm ent ekk hq hrev hdl hmd hsl em hn hp0 hx
        obtain ⟨xr, xa, xl, xh, xf, xs⟩ := x
        obtain ⟨V, eV⟩ : ∃ V, V = w.alloc (.cells (encF ⟨xr, xa, xl, xh, xf, xs⟩).toArray 25) := ⟨_, rfl⟩
        have HB1 : Hid (Below w.heap.size w V) := by rw [eV]; exact (Below.refl _ w).alloc (Nat.le_refl _) _
        have hbk : Blk V w.heap.size (encF ⟨xr, xa, xl, xh, xf, xs⟩) 25 := by rw [eV]; exact Blk.new w _ _
        have EV : Hid (w.alloc (.cells #[.int .i64 xr, .int .i64 xa, .int .i64 xl, .int .i64 xh, .int .i64 xf, .bool xs] 25) = V) := eV.symm
        have e0 := hbk.cellD 0 _ rfl
        have e1 := hbk.cellD 1 _ rfl
        have e2 := hbk.cellD 2 _ rfl
        have e3 := hbk.cellD 3 _ rfl
        have e4 := hbk.cellD 4 _ rfl
        have e5 := hbk.cellD 5 _ rfl
        have c3' : V.cell? ⟨b, off + m, none⟩ = some (.string q) := (HB1.out.cell (p := ⟨b, off + m, none⟩) (World.block_lt_of_cell? w _ c3)).trans c3
        have SLV := Lib.hid (SLP.out.below HB1.out (Nat.le_refl _))
        clear eV hbk c3 SLP
        show Calls Tryd.prog 31 #[.agg #[.int .i64 xr, .int .i64 xa, .int .i64 xl, .int .i64 xh, .int .i64 xf, .bool xs], .string s, .int .i64 (i : Int), .int .i64 (n : Int), .slice (some ⟨b, off, none⟩) p.length c] w R
        go_enter Tryd.func31, Tryd.ntmps31
        go_wp2_with fail
        rw [EV.out]
        refine (HSP.out _).mono ?_
        rintro e w' ⟨rfl, rfl⟩
        go_wp2_with fail
        refine (CALL.out _ SLV.out).mono ?_
        rintro e w2 ⟨⟨v1, rfl, hown⟩, hb2⟩
        have HB2 := Lib.hid (HB1.out.trans (hb2.mono HB1.out.size))
        obtain ⟨A1, c1, rfl, hc1, hsl⟩ := row_slS hown
        obtain ⟨b1, o1, rfl, hcl⟩ := hsl.at_ LST.out
        have c5 := hcl 0 _ rfl
        simp only [Nat.mul_one, Nat.add_zero] at c5
        have HOWN := Lib.hid (own_base hown HB1.out.size)
        clear hb2 hsl hcl hown e0 e1 e2 e3 e4 e5 c3'
        go_wp2_with fail
        refine (CSM.out _).mono ?_
        rintro e w3 ⟨rfl, hb3⟩
        have HB3 := Lib.hid (HB2.out.trans (hb3.mono HB2.out.size))
        have HOWN3 := Lib.hid (row_below HOWN.out hb3)
        clear hb3 c5
        go_wp2_with fail
        refine (CNT.out _).mono ?_
        rintro e w4 ⟨rfl, hb4⟩
        have HB4 := Lib.hid (HB3.out.trans (hb4.mono HB3.out.size))
        have HOWN4 := Lib.hid (row_below HOWN3.out hb4)
        clear hb4
        obtain ⟨i0, hi0, hz0, hz1, hz2⟩ := info_parts infoStr
        have HI := Lib.hid hi0
        have HZ0 := Lib.hid hz0
        have HZ1 := Lib.hid hz1
        have HZ2 := Lib.hid hz2
        clear hi0 hz0 hz1 hz2
        go_wp2_with (at_builtin; refine wpList_append_list (ec := encS) rfl (.tmp 66) (.tmp 76) 23 rfl w.heap.size 9 i0 _ 16 Tryd.underlying23 HI.out HZ0.out HZ1.out HZ2.out rfl (by decide) encS_len encS_one _ _ _ rfl (row_below HOWN4.out ((Below.refl _ _).alloc (Nat.le_refl _) _)) (some ⟨w4.heap.size, 0, none⟩) 1 [nt] rfl (sl_new (l := [nt]) (new_at rfl)) (by have : maxLen = 9223372036854775807 := rfl; simp only [List.length_cons, List.length_nil]; omega) (by simp only [List.length_cons, List.length_nil]; omega) (by have := HB4.out.size; simp; omega) ?_)
        intro v5 w5 hown5 hg5 _
        have hb5 : Below w.heap.size w w5 := (HB4.out.alloc HB4.out.size _).grown hg5 (by have := HB4.out.size; simp; omega) (fun j e => (HOWN4.out.lt j e).1)
        have HF := Lib.hid (FIN.out v5 w5 hown5 hb5)
        clear hown5 hg5 hb5
        go_wp2_with fail
        exact HF.out
end Go.Proofs.YtamiaalfjmppaaaDoor

namespace Go.Proofs.YtamiaalfjmppaaaDoor
open Go.RowKit Go.Blk Go.Sg Go.Opn Go.Di Go.Apl Go.Rf

set_option maxRecDepth 100000 in
set_option maxHeartbeats 4000000 in
theorem way_any (x : Fac) (s : ByteArray) (hx : x.Ok) (hs : s.size ≤ 900000000) : ∀ (n i : Nat) (p : List ByteArray) (A : Option Addr) (c : Nat) (w : World), 1 ≤ n → n < 4611686018427387904 → i < n → p.length = (lev i n).length → p.length ≤ c → p.length < 1000000 → SL w 1 encS A p → Med p →
    Calls Tryd.prog 20 #[.agg (encF x).toArray, .string s, .int .i64 (i : Int), .int .i64 (n : Int), .slice A p.length c] w (TxPost x s i n p w) := by
  intro n
  induction n using Nat.strongRecOn with
  | _ n ih =>
    intro i p A c w h1 h2 hi hpl hpc hpb hsl hmed
    obtain ⟨R, eR⟩ : ∃ R, R = TxPost x s i n p w := ⟨_, rfl⟩
    rw [← eR]
    have hzl := leafT_size x s hx hs
    by_cases hn : n = 1
    · subst hn
      have hp : p = [] := by rw [lev_small (by decide)] at hpl; exact List.length_eq_zero_iff.1 (by simpa using hpl)
      subst hp
      have FIN : Hid (∀ g w', w'.heap[g]? = some (.cells #[.string (leafT x s)] 9 (0, 0)) → w.heap.size ≤ g → Below w.heap.size w w' → R (.returned (.slice (some ⟨g, 0, none⟩) 1 1)) w') := by
        intro g w' hg hb hbw
        rw [eR]
        refine ⟨⟨_, rfl, ?_⟩, hbw⟩
        rw [sides_small (by decide)]
        exact ⟨rfl, .inr ⟨g, 1, _, rfl, hb, hg, Nat.le_refl _, by decide, rfl, rfl⟩⟩
      have CL := Lib.hid (fun w => leaftext_any x s w hx (by omega))
      obtain ⟨lt, elt⟩ : ∃ lt, lt = leafT x s := ⟨_, rfl⟩
      rw [← elt] at FIN CL
      clear ih hpl hsl hmed eR hzl elt h2 hx
      obtain ⟨xr, xa, xl, xh, xf, xs⟩ := x
      rw [show encF ⟨xr, xa, xl, xh, xf, xs⟩ = [.int .i64 xr, .int .i64 xa, .int .i64 xl, .int .i64 xh, .int .i64 xf, .bool xs] from rfl] at CL ⊢
      go_enter Tryd.func20, Tryd.ntmps20
      go_wp2_with fail
      refine (CL.out _).mono ?_
      rintro e w1 ⟨rfl, hb⟩
      have L1 : Hid (Below w.heap.size w w1) := (((Below.refl _ w).alloc (Nat.le_refl _) _).trans (hb.mono (by simp)))
      clear hb
      have HF : Hid (R (.returned (.slice (some ⟨w1.heap.size, 0, none⟩) 1 1)) (w1.alloc (.cells #[.string lt] 9))) := FIN.out _ _ (new_at rfl) L1.out.size (L1.out.alloc L1.out.size _)
      go_wp2_with fail
      exact HF.out
    · have h3 : 2 ≤ n := by omega
      obtain ⟨k1, k2, _, _⟩ := half_facts n h3 (by omega)
      have k0 := half_pos n
      have hp0 := lev_pos (i := i) h3 (by omega)
      obtain ⟨m, em⟩ : ∃ m, p.length = m + 1 := ⟨p.length - 1, by omega⟩
      obtain ⟨q, hq⟩ : ∃ q, p[m]? = some q := ⟨_, List.getElem?_eq_getElem (by omega)⟩
      have hqz := hmed q (List.mem_of_getElem? hq)
      have hrev := rev_last em hq
      have hdl : p.dropLast.length = m := by rw [List.length_dropLast]; omega
      have hmd : Med p.dropLast := fun b hb => hmed b ((List.dropLast_sublist p).subset hb)
      have HSP := Lib.hid (fun w => split_any n w h3 h2)
      obtain ⟨b, off, rfl, hc⟩ := hsl.at_ hq
      have c3 := hc 0 _ rfl
      simp only [Nat.mul_one, Nat.add_zero] at c3
      by_cases hik : i < half n
      · have hll : (lev i n).length = (lev i (half n)).length + 1 := by rw [lev_more h3 (by omega), if_pos hik]; rfl
        have CALL : Hid (∀ w', SL w' 1 encS (some ⟨b, off, none⟩) p → Calls Tryd.prog 20 #[.agg (encF x).toArray, .string s, .int .i64 (i : Int), .int .i64 ((half n : Nat) : Int), .slice (some ⟨b, off, none⟩) m c] w' fun e w2 => (∃ v, e = .returned v ∧ w2.ownsRow w'.heap.size 9 1 v p.length ((txtD (leafT x s) (sidesL i (half n)) p.dropLast.reverse).map Value.string)) ∧ Below w'.heap.size w' w2) := fun w' hs => by
          have h0 := ih (half n) (by omega) i p.dropLast (some ⟨b, off, none⟩) c w' (by omega) (by omega) (by omega) (by rw [hdl]; omega) (by omega) (by omega) (sl_init hs) hmd
          unfold TxPost at h0
          rw [hdl, ← em] at h0
          skip
          exact h0
        have hlast := txt_at (leafT x s) (sidesL i (half n)) p.dropLast.reverse m (by rw [sides_len, List.length_reverse, hdl]; omega) (by rw [List.length_reverse, hdl])
        have hlz := txtD_small (leafT x s) hzl (sidesL i (half n)) p.dropLast.reverse (fun t ht => hmd t (List.mem_reverse.1 ht))
        have hTX : txtD (leafT x s) (sidesL i n) p.reverse = txtD (leafT x s) (sidesL i (half n)) p.dropLast.reverse ++ [nodeT (sumB KC ((txtD (leafT x s) (sidesL i (half n)) p.dropLast.reverse).getLastD ⟨#[]⟩)) q] := by
          rw [hrev, sides_more h3 (by omega), txtD_cons]
          rw [decide_eq_true hik, if_pos hik, if_pos rfl]
        obtain ⟨tx, etx⟩ : ∃ tx, tx = txtD (leafT x s) (sidesL i (half n)) p.dropLast.reverse := ⟨_, rfl⟩
        rw [← etx] at CALL hlast hlz hTX
        obtain ⟨lst, elst⟩ : ∃ lst, lst = tx.getLastD ⟨#[]⟩ := ⟨_, rfl⟩
        rw [← elst] at hlast hlz hTX
        have hsz : (sumB KC lst).size = 64 := sumB_size _
        have CSM := Lib.hid (fun w => refsum_any lst w hlz)
        have CNT := Lib.hid (fun w => nodetext_any (sumB KC lst) q w (by omega) (by omega))
        obtain ⟨sm, esm⟩ : ∃ sm, sm = sumB KC lst := ⟨_, rfl⟩
        rw [← esm] at CSM CNT hTX
        obtain ⟨nt, ent⟩ : ∃ nt, nt = nodeT sm q := ⟨_, rfl⟩
        rw [← ent] at CNT hTX
        have FIN : Hid (∀ v' w', w'.ownsRow w.heap.size 9 1 v' (p.length + 1) (tx.map Value.string ++ [.string nt]) → Below w.heap.size w w' → R (.returned v') w') := fun v' w' h hb => by
          rw [eR]
          refine ⟨⟨v', rfl, ?_⟩, hb⟩
          rw [hTX, List.map_append]; exact h
        obtain ⟨kk, ekk⟩ : ∃ kk, kk = half n := ⟨_, rfl⟩
        rw [← ekk] at HSP CALL hik k0 k1 k2
        have LST := Lib.hid hlast
        have SLP := Lib.hid hsl
        have j0 : (0 : Int) ≤ (p.length : Int) - 1 := by omega
        have j0' : (1 : Int) ≤ (p.length : Int) := by omega
        have j1 : (p.length : Int) - 1 < (p.length : Int) := by omega
        have j2 : ((p.length : Int) - 1).toNat = m := by omega
        have j3 : (p.length : Int) - 1 ≤ (c : Int) := by omega
        have hmp : m < p.length := by omega
        have hn1 : ((n : Int) == 1) = false := beq_eq_false_iff_ne.2 (by omega)
        have hp1 : ((p.length : Int) == 0) = false := beq_eq_false_iff_ne.2 (by omega)
        have hlt1 : (i : Int) < (kk : Int) := by omega
        clear ih hpl hmed eR hzl hlast hlz hTX etx elst hsz esm ent ekk hq hrev hdl hmd hsl em hn hp0 hx
        obtain ⟨xr, xa, xl, xh, xf, xs⟩ := x
        obtain ⟨V, eV⟩ : ∃ V, V = w.alloc (.cells (encF ⟨xr, xa, xl, xh, xf, xs⟩).toArray 25) := ⟨_, rfl⟩
        have HB1 : Hid (Below w.heap.size w V) := by rw [eV]; exact (Below.refl _ w).alloc (Nat.le_refl _) _
        have hbk : Blk V w.heap.size (encF ⟨xr, xa, xl, xh, xf, xs⟩) 25 := by rw [eV]; exact Blk.new w _ _
        have EV : Hid (w.alloc (.cells #[.int .i64 xr, .int .i64 xa, .int .i64 xl, .int .i64 xh, .int .i64 xf, .bool xs] 25) = V) := eV.symm
        have e0 := hbk.cellD 0 _ rfl
        have e1 := hbk.cellD 1 _ rfl
        have e2 := hbk.cellD 2 _ rfl
        have e3 := hbk.cellD 3 _ rfl
        have e4 := hbk.cellD 4 _ rfl
        have e5 := hbk.cellD 5 _ rfl
        have c3' : V.cell? ⟨b, off + m, none⟩ = some (.string q) := (HB1.out.cell (p := ⟨b, off + m, none⟩) (World.block_lt_of_cell? w _ c3)).trans c3
        have SLV := Lib.hid (SLP.out.below HB1.out (Nat.le_refl _))
        clear eV hbk c3 SLP
        show Calls Tryd.prog 20 #[.agg #[.int .i64 xr, .int .i64 xa, .int .i64 xl, .int .i64 xh, .int .i64 xf, .bool xs], .string s, .int .i64 (i : Int), .int .i64 (n : Int), .slice (some ⟨b, off, none⟩) p.length c] w R
        go_enter Tryd.func20, Tryd.ntmps20
        go_wp2_with fail
        rw [EV.out]
        refine (HSP.out _).mono ?_
        rintro e w' ⟨rfl, rfl⟩
        go_wp2_with fail
        refine (CALL.out _ SLV.out).mono ?_
        rintro e w2 ⟨⟨v1, rfl, hown⟩, hb2⟩
        have HB2 := Lib.hid (HB1.out.trans (hb2.mono HB1.out.size))
        obtain ⟨A1, c1, rfl, hc1, hsl⟩ := row_slS hown
        obtain ⟨b1, o1, rfl, hcl⟩ := hsl.at_ LST.out
        have c5 := hcl 0 _ rfl
        simp only [Nat.mul_one, Nat.add_zero] at c5
        have HOWN := Lib.hid (own_base hown HB1.out.size)
        clear hb2 hsl hcl hown e0 e1 e2 e3 e4 e5 c3'
        go_wp2_with fail
        refine (CSM.out _).mono ?_
        rintro e w3 ⟨rfl, hb3⟩
        have HB3 := Lib.hid (HB2.out.trans (hb3.mono HB2.out.size))
        have HOWN3 := Lib.hid (row_below HOWN.out hb3)
        clear hb3 c5
        go_wp2_with fail
        refine (CNT.out _).mono ?_
        rintro e w4 ⟨rfl, hb4⟩
        have HB4 := Lib.hid (HB3.out.trans (hb4.mono HB3.out.size))
        have HOWN4 := Lib.hid (row_below HOWN3.out hb4)
        clear hb4
        obtain ⟨i0, hi0, hz0, hz1, hz2⟩ := info_parts infoStr
        have HI := Lib.hid hi0
        have HZ0 := Lib.hid hz0
        have HZ1 := Lib.hid hz1
        have HZ2 := Lib.hid hz2
        clear hi0 hz0 hz1 hz2
        go_wp2_with (at_builtin; refine wpList_append_list (ec := encS) rfl (.tmp 49) (.tmp 59) 23 rfl w.heap.size 9 i0 _ 16 Tryd.underlying23 HI.out HZ0.out HZ1.out HZ2.out rfl (by decide) encS_len encS_one _ _ _ rfl (row_below HOWN4.out ((Below.refl _ _).alloc (Nat.le_refl _) _)) (some ⟨w4.heap.size, 0, none⟩) 1 [nt] rfl (sl_new (l := [nt]) (new_at rfl)) (by have : maxLen = 9223372036854775807 := rfl; simp only [List.length_cons, List.length_nil]; omega) (by simp only [List.length_cons, List.length_nil]; omega) (by have := HB4.out.size; simp; omega) ?_)
        intro v5 w5 hown5 hg5 _
        have hb5 : Below w.heap.size w w5 := (HB4.out.alloc HB4.out.size _).grown hg5 (by have := HB4.out.size; simp; omega) (fun j e => (HOWN4.out.lt j e).1)
        have HF := Lib.hid (FIN.out v5 w5 hown5 hb5)
        clear hown5 hg5 hb5
        go_wp2_with fail
        exact HF.out
      · have hll : (lev i n).length = (lev (i - half n) (n - half n)).length + 1 := by rw [lev_more h3 (by omega), if_neg hik]; rfl
        have CALL : Hid (∀ w', SL w' 1 encS (some ⟨b, off, none⟩) p → Calls Tryd.prog 20 #[.agg (encF x).toArray, .string s, .int .i64 ((i : Int) - ((half n : Nat) : Int)), .int .i64 ((n : Int) - ((half n : Nat) : Int)), .slice (some ⟨b, off, none⟩) m c] w' fun e w2 => (∃ v, e = .returned v ∧ w2.ownsRow w'.heap.size 9 1 v p.length ((txtD (leafT x s) (sidesL (i - half n) (n - half n)) p.dropLast.reverse).map Value.string)) ∧ Below w'.heap.size w' w2) := fun w' hs => by
          have h0 := ih (n - half n) (by omega) (i - half n) p.dropLast (some ⟨b, off, none⟩) c w' (by omega) (by omega) (by omega) (by rw [hdl]; omega) (by omega) (by omega) (sl_init hs) hmd
          unfold TxPost at h0
          rw [hdl, ← em] at h0
          rw [show ((i - half n : Nat) : Int) = (i : Int) - ((half n : Nat) : Int) by omega, show ((n - half n : Nat) : Int) = (n : Int) - ((half n : Nat) : Int) by omega] at h0
          exact h0
        have hlast := txt_at (leafT x s) (sidesL (i - half n) (n - half n)) p.dropLast.reverse m (by rw [sides_len, List.length_reverse, hdl]; omega) (by rw [List.length_reverse, hdl])
        have hlz := txtD_small (leafT x s) hzl (sidesL (i - half n) (n - half n)) p.dropLast.reverse (fun t ht => hmd t (List.mem_reverse.1 ht))
        have hTX : txtD (leafT x s) (sidesL i n) p.reverse = txtD (leafT x s) (sidesL (i - half n) (n - half n)) p.dropLast.reverse ++ [nodeT q (sumB KC ((txtD (leafT x s) (sidesL (i - half n) (n - half n)) p.dropLast.reverse).getLastD ⟨#[]⟩))] := by
          rw [hrev, sides_more h3 (by omega), txtD_cons]
          rw [decide_eq_false hik, if_neg hik, if_neg (by decide)]
        obtain ⟨tx, etx⟩ : ∃ tx, tx = txtD (leafT x s) (sidesL (i - half n) (n - half n)) p.dropLast.reverse := ⟨_, rfl⟩
        rw [← etx] at CALL hlast hlz hTX
        obtain ⟨lst, elst⟩ : ∃ lst, lst = tx.getLastD ⟨#[]⟩ := ⟨_, rfl⟩
        rw [← elst] at hlast hlz hTX
        have hsz : (sumB KC lst).size = 64 := sumB_size _
        have CSM := Lib.hid (fun w => refsum_any lst w hlz)
        have CNT := Lib.hid (fun w => nodetext_any q (sumB KC lst) w (by omega) (by omega))
        obtain ⟨sm, esm⟩ : ∃ sm, sm = sumB KC lst := ⟨_, rfl⟩
        rw [← esm] at CSM CNT hTX
        obtain ⟨nt, ent⟩ : ∃ nt, nt = nodeT q sm := ⟨_, rfl⟩
        rw [← ent] at CNT hTX
        have FIN : Hid (∀ v' w', w'.ownsRow w.heap.size 9 1 v' (p.length + 1) (tx.map Value.string ++ [.string nt]) → Below w.heap.size w w' → R (.returned v') w') := fun v' w' h hb => by
          rw [eR]
          refine ⟨⟨v', rfl, ?_⟩, hb⟩
          rw [hTX, List.map_append]; exact h
        obtain ⟨kk, ekk⟩ : ∃ kk, kk = half n := ⟨_, rfl⟩
        rw [← ekk] at HSP CALL hik k0 k1 k2
        have LST := Lib.hid hlast
        have SLP := Lib.hid hsl
        have j0 : (0 : Int) ≤ (p.length : Int) - 1 := by omega
        have j0' : (1 : Int) ≤ (p.length : Int) := by omega
        have j1 : (p.length : Int) - 1 < (p.length : Int) := by omega
        have j2 : ((p.length : Int) - 1).toNat = m := by omega
        have j3 : (p.length : Int) - 1 ≤ (c : Int) := by omega
        have hmp : m < p.length := by omega
        have hn1 : ((n : Int) == 1) = false := beq_eq_false_iff_ne.2 (by omega)
        have hp1 : ((p.length : Int) == 0) = false := beq_eq_false_iff_ne.2 (by omega)
        have hlt1 : ¬ (i : Int) < (kk : Int) := by omega
        clear ih hpl hmed eR hzl hlast hlz hTX etx elst hsz esm ent ekk hq hrev hdl hmd hsl em hn hp0 hx
        obtain ⟨xr, xa, xl, xh, xf, xs⟩ := x
        obtain ⟨V, eV⟩ : ∃ V, V = w.alloc (.cells (encF ⟨xr, xa, xl, xh, xf, xs⟩).toArray 25) := ⟨_, rfl⟩
        have HB1 : Hid (Below w.heap.size w V) := by rw [eV]; exact (Below.refl _ w).alloc (Nat.le_refl _) _
        have hbk : Blk V w.heap.size (encF ⟨xr, xa, xl, xh, xf, xs⟩) 25 := by rw [eV]; exact Blk.new w _ _
        have EV : Hid (w.alloc (.cells #[.int .i64 xr, .int .i64 xa, .int .i64 xl, .int .i64 xh, .int .i64 xf, .bool xs] 25) = V) := eV.symm
        have e0 := hbk.cellD 0 _ rfl
        have e1 := hbk.cellD 1 _ rfl
        have e2 := hbk.cellD 2 _ rfl
        have e3 := hbk.cellD 3 _ rfl
        have e4 := hbk.cellD 4 _ rfl
        have e5 := hbk.cellD 5 _ rfl
        have c3' : V.cell? ⟨b, off + m, none⟩ = some (.string q) := (HB1.out.cell (p := ⟨b, off + m, none⟩) (World.block_lt_of_cell? w _ c3)).trans c3
        have SLV := Lib.hid (SLP.out.below HB1.out (Nat.le_refl _))
        clear eV hbk c3 SLP
        show Calls Tryd.prog 20 #[.agg #[.int .i64 xr, .int .i64 xa, .int .i64 xl, .int .i64 xh, .int .i64 xf, .bool xs], .string s, .int .i64 (i : Int), .int .i64 (n : Int), .slice (some ⟨b, off, none⟩) p.length c] w R
        go_enter Tryd.func20, Tryd.ntmps20
        go_wp2_with fail
        rw [EV.out]
        refine (HSP.out _).mono ?_
        rintro e w' ⟨rfl, rfl⟩
        go_wp2_with fail
        refine (CALL.out _ SLV.out).mono ?_
        rintro e w2 ⟨⟨v1, rfl, hown⟩, hb2⟩
        have HB2 := Lib.hid (HB1.out.trans (hb2.mono HB1.out.size))
        obtain ⟨A1, c1, rfl, hc1, hsl⟩ := row_slS hown
        obtain ⟨b1, o1, rfl, hcl⟩ := hsl.at_ LST.out
        have c5 := hcl 0 _ rfl
        simp only [Nat.mul_one, Nat.add_zero] at c5
        have HOWN := Lib.hid (own_base hown HB1.out.size)
        clear hb2 hsl hcl hown e0 e1 e2 e3 e4 e5 c3'
        go_wp2_with fail
        refine (CSM.out _).mono ?_
        rintro e w3 ⟨rfl, hb3⟩
        have HB3 := Lib.hid (HB2.out.trans (hb3.mono HB2.out.size))
        have HOWN3 := Lib.hid (row_below HOWN.out hb3)
        clear hb3 c5
        go_wp2_with fail
        refine (CNT.out _).mono ?_
        rintro e w4 ⟨rfl, hb4⟩
        have HB4 := Lib.hid (HB3.out.trans (hb4.mono HB3.out.size))
        have HOWN4 := Lib.hid (row_below HOWN3.out hb4)
        clear hb4
        obtain ⟨i0, hi0, hz0, hz1, hz2⟩ := info_parts infoStr
        have HI := Lib.hid hi0
        have HZ0 := Lib.hid hz0
        have HZ1 := Lib.hid hz1
        have HZ2 := Lib.hid hz2
        clear hi0 hz0 hz1 hz2
        go_wp2_with (at_builtin; refine wpList_append_list (ec := encS) rfl (.tmp 71) (.tmp 81) 23 rfl w.heap.size 9 i0 _ 16 Tryd.underlying23 HI.out HZ0.out HZ1.out HZ2.out rfl (by decide) encS_len encS_one _ _ _ rfl (row_below HOWN4.out ((Below.refl _ _).alloc (Nat.le_refl _) _)) (some ⟨w4.heap.size, 0, none⟩) 1 [nt] rfl (sl_new (l := [nt]) (new_at rfl)) (by have : maxLen = 9223372036854775807 := rfl; simp only [List.length_cons, List.length_nil]; omega) (by simp only [List.length_cons, List.length_nil]; omega) (by have := HB4.out.size; simp; omega) ?_)
        intro v5 w5 hown5 hg5 _
        have hb5 : Below w.heap.size w w5 := (HB4.out.alloc HB4.out.size _).grown hg5 (by have := HB4.out.size; simp; omega) (fun j e => (HOWN4.out.lt j e).1)
        have HF := Lib.hid (FIN.out v5 w5 hown5 hb5)
        clear hown5 hg5 hb5
        go_wp2_with fail
        exact HF.out
end Go.Proofs.YtamiaalfjmppaaaDoor

namespace Go.Proofs.YtamiaalfjmppaaaDoor
open Go.RowKit Go.Blk Go.Sg Go.Opn Go.Di Go.Apl Go.Rf

/-- What Prove hands back, for a law that asks for its length. -/
def PrLen (l : List ByteArray) (w : World) (e : Ending) (w' : World) : Prop :=
  ∃ A m c E, e = .returned (.tuple #[.slice A m c, .int .i64 E]) ∧ (E = 0 → m ≤ dgt (l.length - 1)) ∧ Below w.heap.size w w'
theorem prove_len (l : List ByteArray) (A : Option Addr) (c : Nat) (i : Int) (w : World) (hc : l.length ≤ c) (hn : l.length < 1000000000) (hs : SL w 1 encS A l) (hsh : Short l) (hT : HasT w) :
    Calls Tryd.prog 18 #[.slice A l.length c, .int .i64 i] w (PrLen l w) := by
  refine (prove_dis l A c i w hc hn hs hsh hT).mono ?_
  rintro e w' ⟨hb, ⟨h0, h1, A', c', _, _, rfl⟩ | ⟨_, rfl⟩⟩
  · exact ⟨_, _, _, _, rfl, fun _ => path_short l i.toNat (by omega), hb⟩
  · exact ⟨_, _, _, _, rfl, fun h => absurd h (by decide), hb⟩
theorem check_long {r : ByteArray} {n i : Int} {x : Fac} {s : ByteArray} {p q : List ByteArray} (h : checkD r n i x s p = true) (hq : q.length ≠ p.length) : checkD r n i x s q = false := by
  unfold checkD at h ⊢
  rw [Bool.and_eq_true, Bool.and_eq_true, decide_eq_true_eq, decide_eq_true_eq] at h
  have : decide (q.length = (lev i.toNat n.toNat).length) = false := decide_eq_false (fun e => hq (e.trans h.2.1.symm))
  rw [this]; simp
def fstN (y : Nat) : Nat := y / 18446744073709551616
def sndN (y : Nat) : Nat := y % 18446744073709551616
theorem pairN (g c : Nat) (h : c ≤ 9223372036854775807) : ∃ y, fstN y = g ∧ sndN y = c := ⟨g * 18446744073709551616 + c, by unfold fstN; omega, by unfold sndN; omega⟩
theorem append_new (w : World) (ty : TypeId) (base b0 : Nat) (hb0 : w.heap[b0]? = some (.cells #[] 9 (0, 0))) (hbase : base ≤ b0) (A : Option Addr) (c : Nat) (l : List ByteArray) (hs : SL w 1 encS A l) (hl : l.length < 1000000) :
    ∃ g cap w', (Builtin.append_ #[23, 23] ty #[.slice (some ⟨b0, 0, none⟩) 0 0, .slice A l.length c]).run Tryd.prog w = .ok (.slice (some ⟨g, 0, none⟩) l.length cap) w' ∧ w'.ownsRow base 9 1 (.slice (some ⟨g, 0, none⟩) l.length cap) l.length (l.map Value.string) ∧ Free.Grow w w' ∧ cap ≤ 9223372036854775807 := by
  obtain ⟨i0, hi, hz0, hz1, hz2⟩ := info_parts infoStr
  have hlt : b0 < w.heap.size := (Array.getElem?_eq_some_iff.1 hb0).1
  by_cases h0 : l = []
  · subst h0
    obtain ⟨w', hr, hg, hh⟩ := append_list (P := Tryd.prog) (ec := encS) w 23 ty 9 i0 Tryd.underlying23 hi hz1 encS_len encS_one b0 0 0 #[] hb0 A c [] hs (Nat.le_refl _) rfl
    have hh : w'.heap[b0]? = some (.cells #[] 9 (0, 0)) := hh
    refine ⟨b0, 0, w', hr, ⟨rfl, .inr ⟨b0, 0, #[], rfl, hbase, hh, Nat.le_refl _, Nat.zero_le _, rfl, rfl⟩⟩, ⟨hg.os, hg.tape, hg.output, hg.size, fun k hk => ?_⟩, Nat.zero_le _⟩
    by_cases e : k = b0
    · subst e; rw [hh, hb0]
    · exact hg.block k hk (by simpa using e)
  · obtain ⟨b, off, rfl, _⟩ := hs.cells h0
    have hpos : 0 < l.length := List.length_pos_iff.2 h0
    have hown : w.ownsRow base 9 1 (.slice (some ⟨b0, 0, none⟩) 0 0) 0 [] := ⟨rfl, .inr ⟨b0, 0, #[], rfl, hbase, hb0, Nat.le_refl _, Nat.zero_le _, rfl, rfl⟩⟩
    obtain ⟨cap, w', hr, hrow, hg⟩ := Apk.append_grows (P := Tryd.prog) w base 23 ty 9 i0 _ 1 16 Tryd.underlying23 hi hz0 hz1 hz2 rfl (by decide) _ 0 [] hown ⟨b, off, none⟩ l.length c (l.flatMap encS) (flat_len encS_len l) (sl_flat encS_len hs) (fun u hu => by
      obtain ⟨x, _, hx⟩ := List.mem_flatMap.1 hu
      exact encS_one x u hx) (by have : maxLen = 9223372036854775807 := rfl; omega) (by omega) (by omega) hpos (fun g cap e => by cases e; omega)
    rw [Nat.zero_add] at hr hrow
    rw [encS_map] at hrow
    refine ⟨w.heap.size, cap, w', hr, hrow, ⟨hg.os, hg.tape, hg.output, hg.size, fun k hk => hg.block k hk (by simp)⟩, ?_⟩
    rcases hrow.2 with ⟨e, _⟩ | ⟨g, cp, cur, e, _, _, _, h5, _⟩
    · cases e
    · cases e; exact h5
def RDg (n : Nat) (d z : Value) : Prop := ∃ (k : Nat) (m : Int), d = .int .i64 (k : Int) ∧ z = .int .i64 m ∧ -1 ≤ m ∧ m ≤ (n : Int) - 1 ∧ k ≤ n ∧ dgt (n - 1) = k + dgt m.toNat
theorem dgt_le : ∀ m : Nat, dgt m ≤ m := by
  intro m
  induction m using Nat.strongRecOn with
  | _ m ih =>
    by_cases h : m = 0
    · subst h; rw [dgt_zero]; decide
    · rw [dgt_more h]
      have := ih (m / 2) (by omega)
      omega
set_option maxRecDepth 100000 in
set_option maxHeartbeats 4000000 in
theorem lengths34_law (A B : Option Addr) (c d : Nat) (a p : List ByteArray) (x : Clm) (w : World) (hl1 : a.length ≤ 9223372036854775807) (hc1 : a.length ≤ c) (hs1 : SL w 1 encS A a) (hx : x.Ok) (hl2 : p.length ≤ 9223372036854775807) (hc2 : p.length ≤ d) (hs2 : SL w 1 encS B p) (hT : HasT w) :
    Calls Tryd.prog 9 #[.slice A a.length c, .agg (encC x (.slice B p.length d)).toArray] w fun r w' => r = .returned (.bool true) ∧ Below w.heap.size w w' := by
  obtain ⟨R, eR⟩ : ∃ R : Ending → World → Prop, R = fun r w' => r = .returned (.bool true) ∧ Below w.heap.size w w' := ⟨_, rfl⟩
  rw [← eR]
  have FIN : Hid (∀ w', Below w.heap.size w w' → R (.returned (.bool true)) w') := fun w' hb => by rw [eR]; exact ⟨rfl, hb⟩
  obtain ⟨n, i, ⟨xr, xa, xl, xh, xf, xs⟩, s, r⟩ := x
  obtain ⟨V, eV⟩ : ∃ V, V = w.alloc (.cells (encC ⟨n, i, ⟨xr, xa, xl, xh, xf, xs⟩, s, r⟩ (.slice B p.length d)).toArray 50) := ⟨_, rfl⟩
  have HBV : Hid (Below w.heap.size w V) := by rw [eV]; exact (Below.refl _ w).alloc (Nat.le_refl _) _
  have BC : Hid (∀ w', Below V.heap.size V w' → Blk w' w.heap.size (encC ⟨n, i, ⟨xr, xa, xl, xh, xf, xs⟩, s, r⟩ (.slice B p.length d)) 50) := fun w' hb => by
    have h0 : Blk V w.heap.size (encC ⟨n, i, ⟨xr, xa, xl, xh, xf, xs⟩, s, r⟩ (.slice B p.length d)) 50 := by rw [eV]; exact Blk.new w _ _
    exact h0.below hb h0.lt
  have HXO : Hid ((⟨xr, xa, xl, xh, xf, xs⟩ : Fac).Ok) := hx.x
  have S1 := Lib.hid (hs1.below HBV.out (Nat.le_refl _))
  have S2 := Lib.hid (hs2.below HBV.out (Nat.le_refl _))
  have HT := Lib.hid (hT.below HBV.out (Nat.le_refl _))
  have HH := Lib.hid (head34_any V HT.out)
  have EV : Hid (w.alloc (.cells #[.int .i64 n, .int .i64 i, .int .i64 xr, .int .i64 xa, .int .i64 xl, .int .i64 xh, .int .i64 xf, .bool xs, .string s, .string r, .slice B p.length d] 50) = V) := eV.symm
  clear eR hs1 hs2 hT eV hx
  show Calls Tryd.prog 9 #[.slice A a.length c, .agg #[.int .i64 n, .int .i64 i, .int .i64 xr, .int .i64 xa, .int .i64 xl, .int .i64 xh, .int .i64 xf, .bool xs, .string s, .string r, .slice B p.length d]] w R
  go_enter Tryd.func9, Tryd.ntmps9
  go_wp2_with fail
  rw [EV.out]
  refine HH.out.mono ?_
  rintro e w1 ⟨rfl, hb1⟩
  have HB1 := Lib.hid hb1
  have HW1 := Lib.hid (HBV.out.trans (hb1.mono HBV.out.size))
  clear hb1 HH EV
  have CSa := Lib.hid (small_any A c 40 a w1 (S1.out.below HB1.out (Nat.le_refl _)) hl1)
  obtain ⟨F, eF⟩ : ∃ F, F = smallB a 40 := ⟨_, rfl⟩
  rw [← eF] at CSa
  have EF := Lib.hid eF
  clear eF
  go_wp2_with fail
  refine CSa.out.mono ?_
  rintro e w' ⟨rfl, rfl⟩
  clear CSa
  cases F with
  | false =>
    go_wp2_with fail
    exact FIN.out _ HW1.out
  | true =>
  have CSb := Lib.hid (small_any B d 40 p w1 (S2.out.below HB1.out (Nat.le_refl _)) hl2)
  obtain ⟨G, eG⟩ : ∃ G, G = smallB p 40 := ⟨_, rfl⟩
  rw [← eG] at CSb
  have EG := Lib.hid eG
  clear eG
  have qb := BC.out _ HB1.out
  have ce0 := qb.cellD 0 _ rfl
  have ce1 := qb.cellD 1 _ rfl
  have ce2 := qb.cellD 2 _ rfl
  have ce3 := qb.cellD 3 _ rfl
  have ce4 := qb.cellD 4 _ rfl
  have ce5 := qb.cellD 5 _ rfl
  have ce6 := qb.cellD 6 _ rfl
  have ce7 := qb.cellD 7 _ rfl
  have ce8 := qb.cellD 8 _ rfl
  have ce9 := qb.cellD 9 _ rfl
  have ce10 := qb.cellD 10 _ rfl
  clear qb
  go_wp2_with fail
  refine CSb.out.mono ?_
  rintro e w' ⟨rfl, rfl⟩
  clear CSb
  cases G with
  | false =>
    go_wp2_with fail
    exact FIN.out _ HW1.out
  | true =>
  have SA := Lib.hid (smallB_short EF.out.symm)
  have SB := Lib.hid (smallB_short EG.out.symm)
  clear EF EG
  by_cases hs200 : 200 < s.size
  · have q1 : (200 : Int) < (s.size : Int) := by omega
    go_wp2_with fail
    exact FIN.out _ HW1.out
  have q1 : ¬ (200 : Int) < (s.size : Int) := by omega
  by_cases hr200 : 200 < r.size
  · have q2 : (200 : Int) < (r.size : Int) := by omega
    go_wp2_with fail
    exact FIN.out _ HW1.out
  have q2 : ¬ (200 : Int) < (r.size : Int) := by omega
  have ha40 := SA.out.1
  have hp40 := SB.out.1
  have CP := Lib.hid (prove_len a A c i w1 hc1 (by omega) (S1.out.below HB1.out (Nat.le_refl _)) (short_200 SA.out.2) (HT.out.below HB1.out (Nat.le_refl _)))
  go_wp2_with fail
  refine CP.out.mono ?_
  rintro e w2 ⟨A2, m2, c2, E, rfl, hm2, hb2⟩
  have HB2 := Lib.hid (HB1.out.trans (hb2.mono HB1.out.size))
  have HM2 := Lib.hid hm2
  have HST : Hid (RDg a.length (.int .i64 0) (.int .i64 ((a.length : Int) - 1))) := ⟨0, (a.length : Int) - 1, rfl, rfl, by omega, by omega, Nat.zero_le _, by rw [show ((a.length : Int) - 1).toNat = a.length - 1 by omega]; omega⟩
  clear CP hb2 hm2
  clear ce0 ce1 ce2 ce3 ce4 ce5 ce6 ce7 ce8 ce9 ce10
  go_wp2_with fail
  go_loop [8, 9] (fun u v => RDg a.length u v) (fun _ v => (intOf v).toNat)
  case atStart => exact HST.out
  case round =>
    clear HST
    obtain ⟨k, m, rfl, rfl, hm0, hmn, hkn, hdg⟩ := hrel
    by_cases hm : 0 < m
    · obtain ⟨M, rfl⟩ : ∃ M : Nat, m = (M : Int) := ⟨m.toNat, by omega⟩
      have HN : Hid (RDg a.length (.int .i64 ((k : Int) + 1)) (.int .i64 ((M : Int) / 2))) := by
        rw [Int.toNat_natCast] at hdg
        have e1 := dgt_more (m := M) (by omega)
        have h1 : dgt (a.length - 1) ≤ a.length - 1 := dgt_le _
        refine ⟨k + 1, ((M / 2 : Nat) : Int), by go_num, by simp, by omega, by omega, by omega, ?_⟩
        rw [Int.toNat_natCast]; omega
      clear hdg
      go_wp2_with fail
      go_round
      case rel => exact HN.out
      case measure => simp [intOf]; omega
    · have HK : Hid (dgt (a.length - 1) = k) := by
        show _ = _
        rw [hdg, show m.toNat = 0 by omega, dgt_zero]; rfl
      have hE : E = 0 → ¬ ((k : Int) < (m2 : Int)) := fun e => by have := HM2.out e; have := HK.out; omega
      have HE := Lib.hid hE
      have hm' : ¬ 0 < m := hm
      clear hdg hE
      have CC : Hid (∀ w', Below V.heap.size V w' → Calls Tryd.prog 19 #[.string r, .int .i64 n, .int .i64 i, .agg (encF ⟨xr, xa, xl, xh, xf, xs⟩).toArray, .string s, .slice B p.length d] w' fun e w2 => e = .returned (.bool (checkD r n i ⟨xr, xa, xl, xh, xf, xs⟩ s p)) ∧ Below w'.heap.size w' w2) := fun w' hb =>
        check_dis r n i _ s p B d w' HXO.out (by omega) (by omega) (S2.out.below hb (Nat.le_refl _)) (short_200 SB.out.2) (HT.out.below hb (Nat.le_refl _))
      have CK : Hid (∀ w' A' c', checkD r n i ⟨xr, xa, xl, xh, xf, xs⟩ s p = true → ∀ q : List ByteArray, q.length ≠ p.length → q.length < 1000 → Short q → Below V.heap.size V w' → SL w' 1 encS A' q → Calls Tryd.prog 19 #[.string r, .int .i64 n, .int .i64 i, .agg (encF ⟨xr, xa, xl, xh, xf, xs⟩).toArray, .string s, .slice A' q.length c'] w' fun e w2 => e = .returned (.bool false) ∧ Below w'.heap.size w' w2) := fun w' A' c' h q hq hq2 hq3 hb hs => by
        have := check_dis r n i _ s q A' c' w' HXO.out (by omega) (by omega) hs hq3 (HT.out.below hb (Nat.le_refl _))
        rw [check_long h hq] at this
        exact this
      obtain ⟨C, eC⟩ : ∃ C, C = checkD r n i ⟨xr, xa, xl, xh, xf, xs⟩ s p := ⟨_, rfl⟩
      rw [← eC] at CC CK
      clear eC
      have qb := BC.out _ HB2.out
      have ce0 := qb.cellD 0 _ rfl
      have ce1 := qb.cellD 1 _ rfl
      have ce2 := qb.cellD 2 _ rfl
      have ce3 := qb.cellD 3 _ rfl
      have ce4 := qb.cellD 4 _ rfl
      have ce5 := qb.cellD 5 _ rfl
      have ce6 := qb.cellD 6 _ rfl
      have ce7 := qb.cellD 7 _ rfl
      have ce8 := qb.cellD 8 _ rfl
      have ce9 := qb.cellD 9 _ rfl
      have ce10 := qb.cellD 10 _ rfl
      clear qb
      by_cases hE0 : E = 0
      · subst hE0
        have hkm := HE.out rfl
        go_wp2_with fail
        refine (CC.out _ HB2.out).mono ?_
        rintro e w3 ⟨rfl, hb3⟩
        have HB3 := Lib.hid (HB2.out.trans (hb3.mono HB2.out.size))
        have HW3 := Lib.hid (HBV.out.trans (HB3.out.mono HBV.out.size))
        clear hb3 CC
        clear ce0 ce1 ce2 ce3 ce4 ce5 ce6 ce7 ce8 ce9 ce10
        cases C with
        | false =>
          go_wp2_with fail
          exact FIN.out _ HW3.out
        | true =>
        have CK2 : Hid (∀ w' A' c', ∀ q : List ByteArray, q.length ≠ p.length → q.length < 1000 → Short q → Below V.heap.size V w' → SL w' 1 encS A' q → Calls Tryd.prog 19 #[.string r, .int .i64 n, .int .i64 i, .agg (encF ⟨xr, xa, xl, xh, xf, xs⟩).toArray, .string s, .slice A' q.length c'] w' fun e w2 => e = .returned (.bool false) ∧ Below w'.heap.size w' w2) := fun w' A' c' => CK.out w' A' c' rfl
        clear CK
        obtain ⟨k9, k10⟩ : w3.cell? ⟨w.heap.size, 9, none⟩ = some (.string r) ∧ w3.cell? ⟨w.heap.size, 10, none⟩ = some (.slice B p.length d) := ⟨(BC.out _ HB3.out).cellD 9 _ rfl, (BC.out _ HB3.out).cellD 10 _ rfl⟩
        have S23 := Lib.hid (S2.out.below HB3.out (Nat.le_refl _))
        go_wp2_with fail
        refine Free.wp_region_free 7 [(0, .ind (fun b => .slice (some ⟨b, 0, none⟩) 0 0) (fun b w2 => w2.heap[b]? = some (.cells #[] 9 (0, 0)) ∧ w3.heap.size ≤ b)), (3, .ind (fun y => .slice (some ⟨fstN y, 0, none⟩) p.length (sndN y)) (fun y w2 => w2.ownsRow w3.heap.size 9 1 (.slice (some ⟨fstN y, 0, none⟩) p.length (sndN y)) p.length (p.map Value.string))), (6, .ind (fun b => .slice (some ⟨b, 0, none⟩) 1 1) (fun b w2 => w2.heap[b]? = some (.cells #[.string r] 9 (0, 0))))]
          (fun w2 => Below w3.heap.size w3 w2 ∧ w2.cell? ⟨w.heap.size, 9, none⟩ = some (.string r) ∧ w2.cell? ⟨w.heap.size, 10, none⟩ = some (.slice B p.length d)) (by kernel_rfl) (by kernel_rfl) ?_ ⟨(Below.refl _ _).drew, k9, k10⟩ (fun _ _ h g => ⟨h.1.trans (Below.mono g h.1.size), cell_grow h.2.1 g, cell_grow h.2.2 g⟩) ?_
        · intro j mk rr hf y w1 w2 hr gr
          simp only [Free.find] at hf
          split at hf
          · cases hf; exact ⟨(gr.block _ (Array.getElem?_eq_some_iff.1 hr.1).1).trans hr.1, hr.2⟩
          · split at hf
            · cases hf; exact row_below hr gr
            · split at hf
              · cases hf; exact (gr.block _ (Array.getElem?_eq_some_iff.1 hr).1).trans hr
              · cases hf
        simp only [List.take_succ_cons, List.take_zero]
        clear k9 k10
        apply Free.chain_ind (by first | exact Free.wanted_of rfl rfl rfl | rfl) rfl
        · intro w' hB hA
          refine Free.opRun_of (v := .slice (some ⟨w'.heap.size, 0, none⟩) 0 0) (w' := w'.alloc (.cells #[] 9)) (by clear hB hA; go_light; go_simp <;> rfl) ⟨Free.Grow.alloc _ _, _, rfl, new_at rfl, hB.1.size⟩
        intro b0
        simp only [Act.put, List.setIfInBounds_toArray, List.set_cons_succ, List.set_cons_zero]
        iterate 2 (apply Free.chain_still (by first | exact Free.wanted_of rfl rfl rfl | rfl) rfl; (intro w' hB hA; obtain ⟨qB, q9, q10⟩ := hB; clear hA  qB; go_light; go_simp <;> rfl); (try simp only [Act.put, List.setIfInBounds_toArray, List.set_cons_succ, List.set_cons_zero]))
        apply Free.chain_ind (by first | exact Free.wanted_of rfl rfl rfl | rfl) rfl
        · intro w' hB hA
          have h0 : w'.heap[b0]? = some (.cells #[] 9 (0, 0)) ∧ w3.heap.size ≤ b0 := hA _ List.mem_cons_self (by kernel_rfl)
          obtain ⟨g, cp, w2, hrun, hrow, hg, hcp⟩ := append_new w' 23 w3.heap.size b0 h0.1 h0.2 B d p (S23.out.below hB.1 (Nat.le_refl _)) (by omega)
          obtain ⟨y, rfl, rfl⟩ := pairN g cp hcp
          exact Free.opRun_of (exec_append (s := .tmp 73) (x := .tmp 75) rfl rfl rfl hrun) ⟨hg, y, rfl, hrow⟩
        intro y3
        simp only [Act.put, List.setIfInBounds_toArray, List.set_cons_succ, List.set_cons_zero]
        iterate 2 (apply Free.chain_still (by first | exact Free.wanted_of rfl rfl rfl | rfl) rfl; (intro w' hB hA; obtain ⟨qB, q9, q10⟩ := hB; clear hA  qB; go_light; go_simp <;> rfl); (try simp only [Act.put, List.setIfInBounds_toArray, List.set_cons_succ, List.set_cons_zero]))
        apply Free.chain_ind (by first | exact Free.wanted_of rfl rfl rfl | rfl) rfl
        · intro w' hB hA
          refine Free.opRun_of (v := .slice (some ⟨w'.heap.size, 0, none⟩) 1 1) (w' := w'.alloc (.cells #[.string r] 9)) (by clear hB hA; go_light; go_simp <;> rfl) ⟨Free.Grow.alloc _ _, _, rfl, new_at rfl⟩
        intro b6
        simp only [Act.put, List.setIfInBounds_toArray, List.set_cons_succ, List.set_cons_zero]
        apply Free.chain_nil
        intro wy hBz _ hh
        have hz6 : wy.heap[b6]? = some (.cells #[.string r] 9 (0, 0)) := hh _ List.mem_cons_self
        have hz3 : wy.ownsRow w3.heap.size 9 1 (.slice (some ⟨fstN y3, 0, none⟩) p.length (sndN y3)) p.length (p.map Value.string) := hh _ (List.mem_cons_of_mem _ List.mem_cons_self)
        simp only [List.drop_succ_cons, List.drop_zero]
        have HZ6 := Lib.hid hz6
        have HZ3 := Lib.hid hz3
        have HBY := Lib.hid hBz.1
        clear hz6 hz3 hBz hh
        obtain ⟨i0, hi, hz0, hz1, hz2⟩ := info_parts infoStr
        refine wpList_append_list (ec := encS) rfl (.tmp 76) (.tmp 79) 23 rfl w3.heap.size 9 i0 _ 16 Tryd.underlying23 hi hz0 hz1 hz2 rfl (by decide) encS_len encS_one _ _ _ rfl HZ3.out (some ⟨b6, 0, none⟩) 1 [r] rfl (sl_new (l := [r]) HZ6.out) (by have : maxLen = 9223372036854775807 := rfl; simp only [List.length_cons, List.length_nil]; omega) (by simp only [List.length_cons, List.length_nil]; omega) HBY.out.size ?_
        intro v5 w5 hown5 hg5 _
        have hb5 : Below w3.heap.size w3 w5 := HBY.out.grown hg5 HBY.out.size (fun j e => (HZ3.out.lt j e).1)
        have HB5 := Lib.hid (HB3.out.trans (hb5.mono HB3.out.size))
        obtain ⟨pr, epr⟩ : ∃ pr, pr = p ++ [r] := ⟨_, rfl⟩
        obtain ⟨A5, c5, rfl, hc5, hsl5⟩ := own_texts (l := pr) hown5 (by rw [epr, List.flatMap_append, encS_map p])
        have hprl : pr.length = p.length + 1 := by rw [epr, List.length_append]; rfl
        have hprs : Short pr := fun t ht => by
          rw [epr] at ht
          rcases List.mem_append.1 ht with h | h
          · exact short_200 SB.out.2 t h
          · have : t = r := by simpa using h
            subst this; omega
        have CM := Lib.hid (CK2.out w5 A5 c5 pr (by omega) (by omega) hprs HB5.out hsl5)
        clear hown5 hg5 hb5 epr hc5 hsl5 hprl hprs hi hz0 hz1 hz2 HZ6 HZ3 HBY
        have qb := BC.out _ HB5.out
        have ce0 := qb.cellD 0 _ rfl
        have ce1 := qb.cellD 1 _ rfl
        have ce2 := qb.cellD 2 _ rfl
        have ce3 := qb.cellD 3 _ rfl
        have ce4 := qb.cellD 4 _ rfl
        have ce5 := qb.cellD 5 _ rfl
        have ce6 := qb.cellD 6 _ rfl
        have ce7 := qb.cellD 7 _ rfl
        have ce8 := qb.cellD 8 _ rfl
        have ce9 := qb.cellD 9 _ rfl
        have ce10 := qb.cellD 10 _ rfl
        clear qb
        go_wp2_with fail
        refine CM.out.mono ?_
        rintro e w6 ⟨rfl, hb6⟩
        have HB6 := Lib.hid (HB5.out.trans (hb6.mono HB5.out.size))
        have HW6 := Lib.hid (HBV.out.trans (HB6.out.mono HBV.out.size))
        clear hb6 CM
        clear ce0 ce1 ce2 ce3 ce4 ce5 ce6 ce7 ce8 ce9 ce10
        by_cases hp0 : p = []
        · have z1 : ((p.length : Int) == 0) = true := by rw [hp0]; rfl
          have k10 : w6.cell? ⟨w.heap.size, 10, none⟩ = some (.slice B p.length d) := (BC.out _ HB6.out).cellD 10 _ rfl
          clear hp0
          go_wp2_with fail
          refine Free.wp_region_free 28 [] (fun w2 => Below w6.heap.size w6 w2 ∧ w2.cell? ⟨w.heap.size, 10, none⟩ = some (.slice B p.length d)) (by kernel_rfl) (by kernel_rfl) (Free.mono_det (fun j mk r hf => by simp only [Free.find] at hf; repeat' (first | cases hf | split at hf))) ⟨(Below.refl _ _).drew, k10⟩ (fun _ _ h g => ⟨h.1.trans (Below.mono g h.1.size), cell_grow h.2 g⟩) ?_
          simp only [List.take_succ_cons, List.take_zero]
          clear k10
          iterate 7 (apply Free.chain_still (by first | exact Free.wanted_of rfl rfl rfl | rfl) rfl; (intro w' hB hA; obtain ⟨qB, q10⟩ := hB; clear hA  qB; go_light; go_simp <;> rfl); (try simp only [Act.put, List.setIfInBounds_toArray, List.set_cons_succ, List.set_cons_zero]))
          iterate 19 (apply Free.chain_skip (by exact unwanted2 rfl rfl rfl rfl); simp only [Act.put, List.setIfInBounds_toArray, List.set_cons_succ, List.set_cons_zero])
          iterate 2 (apply Free.chain_still (by first | exact Free.wanted_of rfl rfl rfl | rfl) rfl; (intro w' hB hA; obtain ⟨qB, q10⟩ := hB; clear hA  qB; go_light; go_simp <;> rfl); (try simp only [Act.put, List.setIfInBounds_toArray, List.set_cons_succ, List.set_cons_zero]))
          apply Free.chain_nil
          intro wz hBz _ _
          simp only [List.drop_succ_cons, List.drop_zero]
          have L := Lib.hid (HW6.out.trans (hBz.1.mono HW6.out.size))
          clear hBz
          go_wp2_with fail
          exact FIN.out _ L.out
        · obtain ⟨K, eK⟩ : ∃ K, p.length = K + 1 := ⟨p.length - 1, by have := List.length_pos_iff.2 hp0; omega⟩
          have z1 : ((p.length : Int) == 0) = false := beq_eq_false_iff_ne.2 (by omega)
          have z2 : IntKind.i64.wrap ((p.length : Int) - 1) = (K : Int) := by rw [IntWalk.i64_in _ (by omega)]; omega
          have z3 : (0 : Int) ≤ (K : Int) := by omega
          have z4 : (K : Int) ≤ (p.length : Int) := by omega
          have z5 : (K : Int) ≤ (d : Int) := by omega
          have CD : Hid (∀ w', Below V.heap.size V w' → Calls Tryd.prog 19 #[.string r, .int .i64 n, .int .i64 i, .agg (encF ⟨xr, xa, xl, xh, xf, xs⟩).toArray, .string s, .slice B K d] w' fun e w2 => e = .returned (.bool false) ∧ Below w'.heap.size w' w2) := fun w' hb => by
            have := CK2.out w' B d p.dropLast (by rw [List.length_dropLast]; omega) (by rw [List.length_dropLast]; omega) (fun t ht => short_200 SB.out.2 t ((List.dropLast_sublist p).subset ht)) hb (by rw [List.dropLast_eq_take]; exact (S2.out.below hb (Nat.le_refl _)).take _)
            rw [List.length_dropLast, show p.length - 1 = K by omega] at this
            exact this
          have EK := Lib.hid eK
          obtain ⟨k0, k1, k8, k9, k10⟩ : w6.cell? ⟨w.heap.size, 0, none⟩ = some (.int .i64 n) ∧ w6.cell? ⟨w.heap.size, 1, none⟩ = some (.int .i64 i) ∧ w6.cell? ⟨w.heap.size, 8, none⟩ = some (.string s) ∧ w6.cell? ⟨w.heap.size, 9, none⟩ = some (.string r) ∧ w6.cell? ⟨w.heap.size, 10, none⟩ = some (.slice B p.length d) :=
            ⟨(BC.out _ HB6.out).cellD 0 _ rfl, (BC.out _ HB6.out).cellD 1 _ rfl, (BC.out _ HB6.out).cellD 8 _ rfl, (BC.out _ HB6.out).cellD 9 _ rfl, (BC.out _ HB6.out).cellD 10 _ rfl⟩
          clear hp0 eK
          go_wp2_with fail
          refine Free.wp_region_free 28 [(24, .det (.bool false))] (fun w2 => Below w6.heap.size w6 w2 ∧ w2.cell? ⟨w.heap.size, 0, none⟩ = some (.int .i64 n) ∧ w2.cell? ⟨w.heap.size, 1, none⟩ = some (.int .i64 i) ∧ w2.cell? ⟨w.heap.size, 8, none⟩ = some (.string s) ∧ w2.cell? ⟨w.heap.size, 9, none⟩ = some (.string r) ∧ w2.cell? ⟨w.heap.size, 10, none⟩ = some (.slice B p.length d)) (by kernel_rfl) (by kernel_rfl) (Free.mono_det (fun j mk r hf => by simp only [Free.find] at hf; repeat' (first | cases hf | split at hf))) ⟨(Below.refl _ _).drew, k0, k1, k8, k9, k10⟩ (fun _ _ h g => ⟨h.1.trans (Below.mono g h.1.size), cell_grow h.2.1 g, cell_grow h.2.2.1 g, cell_grow h.2.2.2.1 g, cell_grow h.2.2.2.2.1 g, cell_grow h.2.2.2.2.2 g⟩) ?_
          simp only [List.take_succ_cons, List.take_zero]
          clear k0 k1 k8 k9 k10
          iterate 14 (apply Free.chain_still (by first | exact Free.wanted_of rfl rfl rfl | rfl) rfl; (intro w' hB hA; obtain ⟨qB, r0, r1, r8, r9, r10⟩ := hB; clear hA  qB; go_light; go_simp <;> rfl); (try simp only [Act.put, List.setIfInBounds_toArray, List.set_cons_succ, List.set_cons_zero]))
          apply Free.chain_still (by first | exact Free.wanted_of rfl rfl rfl | rfl) rfl
          · intro w' hB hA
            exact exec_fac (x := ⟨xr, xa, xl, xh, xf, xs⟩) (b := w.heap.size) (off := 2) rfl rfl (fun p u hu => by have hk := BC.out w' (HB6.out.trans (hB.1.mono HB6.out.size)); rw [Nat.add_comm]; refine hk.cellD (p + 2) u ?_; have hp6 : p < 6 := (List.getElem?_eq_some_iff.1 hu).1; show (encF ⟨xr, xa, xl, xh, xf, xs⟩ ++ _)[p]? = _; rw [List.getElem?_append_left (by exact hp6)]; exact hu)
          simp only [Act.put, List.setIfInBounds_toArray, List.set_cons_succ, List.set_cons_zero]
          iterate 9 (apply Free.chain_still (by first | exact Free.wanted_of rfl rfl rfl | rfl) rfl; (intro w' hB hA; obtain ⟨qB, r0, r1, r8, r9, r10⟩ := hB; clear hA  qB; go_light; go_simp <;> rfl); (try simp only [Act.put, List.setIfInBounds_toArray, List.set_cons_succ, List.set_cons_zero]))
          apply Free.chain_det (by first | exact Free.wanted_of rfl rfl rfl | rfl) rfl
          · intro w' hB hA
            refine Free.opRun_call (f := 19) (args := #[.string r, .int .i64 n, .int .i64 i, .agg (encF ⟨xr, xa, xl, xh, xf, xs⟩).toArray, .string s, .slice B K d]) (by clear hB hA; go_simp <;> rfl) ?_
            refine (CD.out w' (HB6.out.trans (hB.1.mono HB6.out.size))).mono ?_
            rintro e w3 ⟨rfl, hb3⟩
            exact ⟨_, rfl, hb3, rfl⟩
          simp only [Act.put, List.setIfInBounds_toArray, List.set_cons_succ, List.set_cons_zero]
          iterate 3 (apply Free.chain_still (by first | exact Free.wanted_of rfl rfl rfl | rfl) rfl; (intro w' hB hA; obtain ⟨qB, r0, r1, r8, r9, r10⟩ := hB; clear hA  qB; go_light; go_simp <;> rfl); (try simp only [Act.put, List.setIfInBounds_toArray, List.set_cons_succ, List.set_cons_zero]))
          apply Free.chain_nil
          intro wz hBz _ _
          simp only [List.drop_succ_cons, List.drop_zero]
          have L := Lib.hid (HW6.out.trans (hBz.1.mono HW6.out.size))
          clear hBz CD z1 z2 z3 z4 z5
          go_wp2_with fail
          exact FIN.out _ L.out
      · have q3 : (E == 0) = false := beq_eq_false_iff_ne.2 hE0
        clear hE0
        go_wp2_with fail
        refine (CC.out _ HB2.out).mono ?_
        rintro e w3 ⟨rfl, hb3⟩
        have HB3 := Lib.hid (HB2.out.trans (hb3.mono HB2.out.size))
        have HW3 := Lib.hid (HBV.out.trans (HB3.out.mono HBV.out.size))
        clear hb3 CC
        clear ce0 ce1 ce2 ce3 ce4 ce5 ce6 ce7 ce8 ce9 ce10
        cases C with
        | false =>
          go_wp2_with fail
          exact FIN.out _ HW3.out
        | true =>
        have CK2 : Hid (∀ w' A' c', ∀ q : List ByteArray, q.length ≠ p.length → q.length < 1000 → Short q → Below V.heap.size V w' → SL w' 1 encS A' q → Calls Tryd.prog 19 #[.string r, .int .i64 n, .int .i64 i, .agg (encF ⟨xr, xa, xl, xh, xf, xs⟩).toArray, .string s, .slice A' q.length c'] w' fun e w2 => e = .returned (.bool false) ∧ Below w'.heap.size w' w2) := fun w' A' c' => CK.out w' A' c' rfl
        clear CK
        obtain ⟨k9, k10⟩ : w3.cell? ⟨w.heap.size, 9, none⟩ = some (.string r) ∧ w3.cell? ⟨w.heap.size, 10, none⟩ = some (.slice B p.length d) := ⟨(BC.out _ HB3.out).cellD 9 _ rfl, (BC.out _ HB3.out).cellD 10 _ rfl⟩
        have S23 := Lib.hid (S2.out.below HB3.out (Nat.le_refl _))
        go_wp2_with fail
        refine Free.wp_region_free 7 [(0, .ind (fun b => .slice (some ⟨b, 0, none⟩) 0 0) (fun b w2 => w2.heap[b]? = some (.cells #[] 9 (0, 0)) ∧ w3.heap.size ≤ b)), (3, .ind (fun y => .slice (some ⟨fstN y, 0, none⟩) p.length (sndN y)) (fun y w2 => w2.ownsRow w3.heap.size 9 1 (.slice (some ⟨fstN y, 0, none⟩) p.length (sndN y)) p.length (p.map Value.string))), (6, .ind (fun b => .slice (some ⟨b, 0, none⟩) 1 1) (fun b w2 => w2.heap[b]? = some (.cells #[.string r] 9 (0, 0))))]
          (fun w2 => Below w3.heap.size w3 w2 ∧ w2.cell? ⟨w.heap.size, 9, none⟩ = some (.string r) ∧ w2.cell? ⟨w.heap.size, 10, none⟩ = some (.slice B p.length d)) (by kernel_rfl) (by kernel_rfl) ?_ ⟨(Below.refl _ _).drew, k9, k10⟩ (fun _ _ h g => ⟨h.1.trans (Below.mono g h.1.size), cell_grow h.2.1 g, cell_grow h.2.2 g⟩) ?_
        · intro j mk rr hf y w1 w2 hr gr
          simp only [Free.find] at hf
          split at hf
          · cases hf; exact ⟨(gr.block _ (Array.getElem?_eq_some_iff.1 hr.1).1).trans hr.1, hr.2⟩
          · split at hf
            · cases hf; exact row_below hr gr
            · split at hf
              · cases hf; exact (gr.block _ (Array.getElem?_eq_some_iff.1 hr).1).trans hr
              · cases hf
        simp only [List.take_succ_cons, List.take_zero]
        clear k9 k10
        apply Free.chain_ind (by first | exact Free.wanted_of rfl rfl rfl | rfl) rfl
        · intro w' hB hA
          refine Free.opRun_of (v := .slice (some ⟨w'.heap.size, 0, none⟩) 0 0) (w' := w'.alloc (.cells #[] 9)) (by clear hB hA; go_light; go_simp <;> rfl) ⟨Free.Grow.alloc _ _, _, rfl, new_at rfl, hB.1.size⟩
        intro b0
        simp only [Act.put, List.setIfInBounds_toArray, List.set_cons_succ, List.set_cons_zero]
        iterate 2 (apply Free.chain_still (by first | exact Free.wanted_of rfl rfl rfl | rfl) rfl; (intro w' hB hA; obtain ⟨qB, q9, q10⟩ := hB; clear hA  qB; go_light; go_simp <;> rfl); (try simp only [Act.put, List.setIfInBounds_toArray, List.set_cons_succ, List.set_cons_zero]))
        apply Free.chain_ind (by first | exact Free.wanted_of rfl rfl rfl | rfl) rfl
        · intro w' hB hA
          have h0 : w'.heap[b0]? = some (.cells #[] 9 (0, 0)) ∧ w3.heap.size ≤ b0 := hA _ List.mem_cons_self (by kernel_rfl)
          obtain ⟨g, cp, w2, hrun, hrow, hg, hcp⟩ := append_new w' 23 w3.heap.size b0 h0.1 h0.2 B d p (S23.out.below hB.1 (Nat.le_refl _)) (by omega)
          obtain ⟨y, rfl, rfl⟩ := pairN g cp hcp
          exact Free.opRun_of (exec_append (s := .tmp 73) (x := .tmp 75) rfl rfl rfl hrun) ⟨hg, y, rfl, hrow⟩
        intro y3
        simp only [Act.put, List.setIfInBounds_toArray, List.set_cons_succ, List.set_cons_zero]
        iterate 2 (apply Free.chain_still (by first | exact Free.wanted_of rfl rfl rfl | rfl) rfl; (intro w' hB hA; obtain ⟨qB, q9, q10⟩ := hB; clear hA  qB; go_light; go_simp <;> rfl); (try simp only [Act.put, List.setIfInBounds_toArray, List.set_cons_succ, List.set_cons_zero]))
        apply Free.chain_ind (by first | exact Free.wanted_of rfl rfl rfl | rfl) rfl
        · intro w' hB hA
          refine Free.opRun_of (v := .slice (some ⟨w'.heap.size, 0, none⟩) 1 1) (w' := w'.alloc (.cells #[.string r] 9)) (by clear hB hA; go_light; go_simp <;> rfl) ⟨Free.Grow.alloc _ _, _, rfl, new_at rfl⟩
        intro b6
        simp only [Act.put, List.setIfInBounds_toArray, List.set_cons_succ, List.set_cons_zero]
        apply Free.chain_nil
        intro wy hBz _ hh
        have hz6 : wy.heap[b6]? = some (.cells #[.string r] 9 (0, 0)) := hh _ List.mem_cons_self
        have hz3 : wy.ownsRow w3.heap.size 9 1 (.slice (some ⟨fstN y3, 0, none⟩) p.length (sndN y3)) p.length (p.map Value.string) := hh _ (List.mem_cons_of_mem _ List.mem_cons_self)
        simp only [List.drop_succ_cons, List.drop_zero]
        have HZ6 := Lib.hid hz6
        have HZ3 := Lib.hid hz3
        have HBY := Lib.hid hBz.1
        clear hz6 hz3 hBz hh
        obtain ⟨i0, hi, hz0, hz1, hz2⟩ := info_parts infoStr
        refine wpList_append_list (ec := encS) rfl (.tmp 76) (.tmp 79) 23 rfl w3.heap.size 9 i0 _ 16 Tryd.underlying23 hi hz0 hz1 hz2 rfl (by decide) encS_len encS_one _ _ _ rfl HZ3.out (some ⟨b6, 0, none⟩) 1 [r] rfl (sl_new (l := [r]) HZ6.out) (by have : maxLen = 9223372036854775807 := rfl; simp only [List.length_cons, List.length_nil]; omega) (by simp only [List.length_cons, List.length_nil]; omega) HBY.out.size ?_
        intro v5 w5 hown5 hg5 _
        have hb5 : Below w3.heap.size w3 w5 := HBY.out.grown hg5 HBY.out.size (fun j e => (HZ3.out.lt j e).1)
        have HB5 := Lib.hid (HB3.out.trans (hb5.mono HB3.out.size))
        obtain ⟨pr, epr⟩ : ∃ pr, pr = p ++ [r] := ⟨_, rfl⟩
        obtain ⟨A5, c5, rfl, hc5, hsl5⟩ := own_texts (l := pr) hown5 (by rw [epr, List.flatMap_append, encS_map p])
        have hprl : pr.length = p.length + 1 := by rw [epr, List.length_append]; rfl
        have hprs : Short pr := fun t ht => by
          rw [epr] at ht
          rcases List.mem_append.1 ht with h | h
          · exact short_200 SB.out.2 t h
          · have : t = r := by simpa using h
            subst this; omega
        have CM := Lib.hid (CK2.out w5 A5 c5 pr (by omega) (by omega) hprs HB5.out hsl5)
        clear hown5 hg5 hb5 epr hc5 hsl5 hprl hprs hi hz0 hz1 hz2 HZ6 HZ3 HBY
        have qb := BC.out _ HB5.out
        have ce0 := qb.cellD 0 _ rfl
        have ce1 := qb.cellD 1 _ rfl
        have ce2 := qb.cellD 2 _ rfl
        have ce3 := qb.cellD 3 _ rfl
        have ce4 := qb.cellD 4 _ rfl
        have ce5 := qb.cellD 5 _ rfl
        have ce6 := qb.cellD 6 _ rfl
        have ce7 := qb.cellD 7 _ rfl
        have ce8 := qb.cellD 8 _ rfl
        have ce9 := qb.cellD 9 _ rfl
        have ce10 := qb.cellD 10 _ rfl
        clear qb
        go_wp2_with fail
        refine CM.out.mono ?_
        rintro e w6 ⟨rfl, hb6⟩
        have HB6 := Lib.hid (HB5.out.trans (hb6.mono HB5.out.size))
        have HW6 := Lib.hid (HBV.out.trans (HB6.out.mono HBV.out.size))
        clear hb6 CM
        clear ce0 ce1 ce2 ce3 ce4 ce5 ce6 ce7 ce8 ce9 ce10
        by_cases hp0 : p = []
        · have z1 : ((p.length : Int) == 0) = true := by rw [hp0]; rfl
          have k10 : w6.cell? ⟨w.heap.size, 10, none⟩ = some (.slice B p.length d) := (BC.out _ HB6.out).cellD 10 _ rfl
          clear hp0
          go_wp2_with fail
          refine Free.wp_region_free 28 [] (fun w2 => Below w6.heap.size w6 w2 ∧ w2.cell? ⟨w.heap.size, 10, none⟩ = some (.slice B p.length d)) (by kernel_rfl) (by kernel_rfl) (Free.mono_det (fun j mk r hf => by simp only [Free.find] at hf; repeat' (first | cases hf | split at hf))) ⟨(Below.refl _ _).drew, k10⟩ (fun _ _ h g => ⟨h.1.trans (Below.mono g h.1.size), cell_grow h.2 g⟩) ?_
          simp only [List.take_succ_cons, List.take_zero]
          clear k10
          iterate 7 (apply Free.chain_still (by first | exact Free.wanted_of rfl rfl rfl | rfl) rfl; (intro w' hB hA; obtain ⟨qB, q10⟩ := hB; clear hA  qB; go_light; go_simp <;> rfl); (try simp only [Act.put, List.setIfInBounds_toArray, List.set_cons_succ, List.set_cons_zero]))
          iterate 19 (apply Free.chain_skip (by exact unwanted2 rfl rfl rfl rfl); simp only [Act.put, List.setIfInBounds_toArray, List.set_cons_succ, List.set_cons_zero])
          iterate 2 (apply Free.chain_still (by first | exact Free.wanted_of rfl rfl rfl | rfl) rfl; (intro w' hB hA; obtain ⟨qB, q10⟩ := hB; clear hA  qB; go_light; go_simp <;> rfl); (try simp only [Act.put, List.setIfInBounds_toArray, List.set_cons_succ, List.set_cons_zero]))
          apply Free.chain_nil
          intro wz hBz _ _
          simp only [List.drop_succ_cons, List.drop_zero]
          have L := Lib.hid (HW6.out.trans (hBz.1.mono HW6.out.size))
          clear hBz
          go_wp2_with fail
          exact FIN.out _ L.out
        · obtain ⟨K, eK⟩ : ∃ K, p.length = K + 1 := ⟨p.length - 1, by have := List.length_pos_iff.2 hp0; omega⟩
          have z1 : ((p.length : Int) == 0) = false := beq_eq_false_iff_ne.2 (by omega)
          have z2 : IntKind.i64.wrap ((p.length : Int) - 1) = (K : Int) := by rw [IntWalk.i64_in _ (by omega)]; omega
          have z3 : (0 : Int) ≤ (K : Int) := by omega
          have z4 : (K : Int) ≤ (p.length : Int) := by omega
          have z5 : (K : Int) ≤ (d : Int) := by omega
          have CD : Hid (∀ w', Below V.heap.size V w' → Calls Tryd.prog 19 #[.string r, .int .i64 n, .int .i64 i, .agg (encF ⟨xr, xa, xl, xh, xf, xs⟩).toArray, .string s, .slice B K d] w' fun e w2 => e = .returned (.bool false) ∧ Below w'.heap.size w' w2) := fun w' hb => by
            have := CK2.out w' B d p.dropLast (by rw [List.length_dropLast]; omega) (by rw [List.length_dropLast]; omega) (fun t ht => short_200 SB.out.2 t ((List.dropLast_sublist p).subset ht)) hb (by rw [List.dropLast_eq_take]; exact (S2.out.below hb (Nat.le_refl _)).take _)
            rw [List.length_dropLast, show p.length - 1 = K by omega] at this
            exact this
          have EK := Lib.hid eK
          obtain ⟨k0, k1, k8, k9, k10⟩ : w6.cell? ⟨w.heap.size, 0, none⟩ = some (.int .i64 n) ∧ w6.cell? ⟨w.heap.size, 1, none⟩ = some (.int .i64 i) ∧ w6.cell? ⟨w.heap.size, 8, none⟩ = some (.string s) ∧ w6.cell? ⟨w.heap.size, 9, none⟩ = some (.string r) ∧ w6.cell? ⟨w.heap.size, 10, none⟩ = some (.slice B p.length d) :=
            ⟨(BC.out _ HB6.out).cellD 0 _ rfl, (BC.out _ HB6.out).cellD 1 _ rfl, (BC.out _ HB6.out).cellD 8 _ rfl, (BC.out _ HB6.out).cellD 9 _ rfl, (BC.out _ HB6.out).cellD 10 _ rfl⟩
          clear hp0 eK
          go_wp2_with fail
          refine Free.wp_region_free 28 [(24, .det (.bool false))] (fun w2 => Below w6.heap.size w6 w2 ∧ w2.cell? ⟨w.heap.size, 0, none⟩ = some (.int .i64 n) ∧ w2.cell? ⟨w.heap.size, 1, none⟩ = some (.int .i64 i) ∧ w2.cell? ⟨w.heap.size, 8, none⟩ = some (.string s) ∧ w2.cell? ⟨w.heap.size, 9, none⟩ = some (.string r) ∧ w2.cell? ⟨w.heap.size, 10, none⟩ = some (.slice B p.length d)) (by kernel_rfl) (by kernel_rfl) (Free.mono_det (fun j mk r hf => by simp only [Free.find] at hf; repeat' (first | cases hf | split at hf))) ⟨(Below.refl _ _).drew, k0, k1, k8, k9, k10⟩ (fun _ _ h g => ⟨h.1.trans (Below.mono g h.1.size), cell_grow h.2.1 g, cell_grow h.2.2.1 g, cell_grow h.2.2.2.1 g, cell_grow h.2.2.2.2.1 g, cell_grow h.2.2.2.2.2 g⟩) ?_
          simp only [List.take_succ_cons, List.take_zero]
          clear k0 k1 k8 k9 k10
          iterate 14 (apply Free.chain_still (by first | exact Free.wanted_of rfl rfl rfl | rfl) rfl; (intro w' hB hA; obtain ⟨qB, r0, r1, r8, r9, r10⟩ := hB; clear hA  qB; go_light; go_simp <;> rfl); (try simp only [Act.put, List.setIfInBounds_toArray, List.set_cons_succ, List.set_cons_zero]))
          apply Free.chain_still (by first | exact Free.wanted_of rfl rfl rfl | rfl) rfl
          · intro w' hB hA
            exact exec_fac (x := ⟨xr, xa, xl, xh, xf, xs⟩) (b := w.heap.size) (off := 2) rfl rfl (fun p u hu => by have hk := BC.out w' (HB6.out.trans (hB.1.mono HB6.out.size)); rw [Nat.add_comm]; refine hk.cellD (p + 2) u ?_; have hp6 : p < 6 := (List.getElem?_eq_some_iff.1 hu).1; show (encF ⟨xr, xa, xl, xh, xf, xs⟩ ++ _)[p]? = _; rw [List.getElem?_append_left (by exact hp6)]; exact hu)
          simp only [Act.put, List.setIfInBounds_toArray, List.set_cons_succ, List.set_cons_zero]
          iterate 9 (apply Free.chain_still (by first | exact Free.wanted_of rfl rfl rfl | rfl) rfl; (intro w' hB hA; obtain ⟨qB, r0, r1, r8, r9, r10⟩ := hB; clear hA  qB; go_light; go_simp <;> rfl); (try simp only [Act.put, List.setIfInBounds_toArray, List.set_cons_succ, List.set_cons_zero]))
          apply Free.chain_det (by first | exact Free.wanted_of rfl rfl rfl | rfl) rfl
          · intro w' hB hA
            refine Free.opRun_call (f := 19) (args := #[.string r, .int .i64 n, .int .i64 i, .agg (encF ⟨xr, xa, xl, xh, xf, xs⟩).toArray, .string s, .slice B K d]) (by clear hB hA; go_simp <;> rfl) ?_
            refine (CD.out w' (HB6.out.trans (hB.1.mono HB6.out.size))).mono ?_
            rintro e w3 ⟨rfl, hb3⟩
            exact ⟨_, rfl, hb3, rfl⟩
          simp only [Act.put, List.setIfInBounds_toArray, List.set_cons_succ, List.set_cons_zero]
          iterate 3 (apply Free.chain_still (by first | exact Free.wanted_of rfl rfl rfl | rfl) rfl; (intro w' hB hA; obtain ⟨qB, r0, r1, r8, r9, r10⟩ := hB; clear hA  qB; go_light; go_simp <;> rfl); (try simp only [Act.put, List.setIfInBounds_toArray, List.set_cons_succ, List.set_cons_zero]))
          apply Free.chain_nil
          intro wz hBz _ _
          simp only [List.drop_succ_cons, List.drop_zero]
          have L := Lib.hid (HW6.out.trans (hBz.1.mono HW6.out.size))
          clear hBz CD z1 z2 z3 z4 z5
          go_wp2_with fail
          exact FIN.out _ L.out
end Go.Proofs.YtamiaalfjmppaaaDoor

namespace Go.Proofs.YtamiaalfjmppaaaDoor
open Go.RowKit Go.Blk Go.Sg Go.Opn Go.Di Go.Apl Go.Rf

theorem clash_found {l : List Fac} {salts : List ByteArray} {I : Nat} {x y : Fac} {s : ByteArray} {p : List ByteArray} (hx : x.Ok) (hy : y.Ok) (hl : l.length ≤ 40) (hI : l[I]? = some y) (hne : ¬ (x = y ∧ s = saltA salts I))
    (h : checkD (rootOf (leavesA l salts)) (l.length : Int) (I : Int) x s p = true) :
    ∃ (j : Nat) (a b : ByteArray), (txtD (leafT x s) (sidesL I l.length) p.reverse)[j]? = some a ∧ (txtD (leafT y (saltA salts I)) (sidesL I l.length) (pathL (leavesA l salts) I).reverse)[j]? = some b ∧ clashB a b = true := by
  have h2 := check_leaf (salts := salts) (by omega) hI
  unfold checkD at h h2
  rw [Int.toNat_natCast, Int.toNat_natCast, Bool.and_eq_true, Bool.and_eq_true, decide_eq_true_eq, decide_eq_true_eq, decide_eq_true_eq] at h h2
  have e1 : leafD x s = sumB KC (leafT x s) := rfl
  have e2 : leafD y (saltA salts I) = sumB KC (leafT y (saltA salts I)) := rfl
  rw [e1] at h
  rw [e2] at h2
  rcases no_clash (sidesL I l.length) p.reverse (pathL (leavesA l salts) I).reverse (by rw [sides_len, List.length_reverse]; exact h.2.1.symm) (by rw [sides_len, List.length_reverse]; exact h2.2.1.symm) (h.2.2.trans h2.2.2.symm) with h3 | ⟨j, a, b, ha, hb, hab, hs⟩
  · exact absurd (leafT_inj hx hy h3) hne
  · refine ⟨j, a, b, ha, hb, ?_⟩
    unfold clashB
    rw [decide_eq_true hab, decide_eq_true hs]; rfl
theorem rootL_med (l : List ByteArray) (h : Med l) (h2 : l.length < 9223372036854775808) : (rootL l).size ≤ 900000000 := by
  by_cases hl : 2 ≤ l.length
  · rw [rootL_more hl h2]
    have : (nodeD (rootL (l.take (half l.length))) (rootL (l.drop (half l.length)))).size = 64 := tagD_size _ _ _
    omega
  · match l, hl with
    | [], _ => rw [rootL, if_pos (by decide)]; decide
    | [b], _ => rw [rootL_one]; exact h b (by simp)
    | _ :: _ :: _, hl => simp at hl
theorem outP_med : ∀ (p : List (Nat × Bool)) (l : List ByteArray), Med l → l.length < 9223372036854775808 → Med (outP l p)
  | [], _, _, _ => fun b hb => by cases hb
  | x :: p, l, h, h2 => by
    have t1 : Med (l.take x.1) := fun b hb => h b (List.mem_of_mem_take hb)
    have t2 : Med (l.drop x.1) := fun b hb => h b (List.mem_of_mem_drop hb)
    have n1 : (l.take x.1).length < 9223372036854775808 := by rw [List.length_take]; omega
    have n2 : (l.drop x.1).length < 9223372036854775808 := by rw [List.length_drop]; omega
    intro b hb
    have hb : b ∈ rootL (if x.2 then l.drop x.1 else l.take x.1) :: outP (if x.2 then l.take x.1 else l.drop x.1) p := hb
    rcases List.mem_cons.1 hb with rfl | hb
    · split
      · exact rootL_med _ t2 n2
      · exact rootL_med _ t1 n1
    · refine outP_med p _ ?_ ?_ b hb
      · split <;> assumption
      · split <;> assumption
theorem path_med (l : List ByteArray) (i : Nat) (h : Med l) (h2 : l.length < 9223372036854775808) : Med (pathL l i) := fun b hb => outP_med _ l h h2 b (List.mem_reverse.1 hb)
theorem leavesA_med (l : List Fac) (salts : List ByteArray) : Med (leavesA l salts) := fun b hb => by
  obtain ⟨i, hi⟩ := List.mem_iff_getElem?.1 hb
  unfold leavesA at hi
  rw [List.getElem?_mapIdx] at hi
  cases hl : l[i]? with
  | none => rw [hl] at hi; cases hi
  | some x =>
    rw [hl] at hi
    have : b = leafD x (saltA salts i) := (Option.some.inj hi).symm
    rw [this]
    have : (leafD x (saltA salts i)).size = 64 := tagD_size _ _ _
    omega
attribute [local irreducible] sumB
theorem txtD_short (t : ByteArray) (ht : t.size ≤ 1000000000) : ∀ (bs : List Bool) (qs : List ByteArray), Med qs → Short (txtD t bs qs)
  | [], [], _ => fun b hb => by have : b = t := by simpa [txtD] using hb
                                subst this; exact ht
  | [], _ :: _, _ => fun b hb => by have : b = t := by simpa [txtD] using hb
                                    subst this; exact ht
  | _ :: _, [], _ => fun b hb => by have : b = t := by simpa [txtD] using hb
                                    subst this; exact ht
  | b :: bs, q :: qs, h => by
    have h1 := txtD_short t ht bs qs (fun x hx => h x (by simp [hx]))
    have h2 := txtD_small t ht (b :: bs) (q :: qs) h
    rw [txtD_cons, last_snoc] at h2
    rw [txtD_cons]
    intro x hx
    rcases List.mem_append.1 hx with hx | hx
    · exact h1 x hx
    · rw [List.mem_singleton] at hx
      rw [hx]; exact h2
theorem own_at_texts {w : World} {B n : Nat} {v : Value} {l : List ByteArray} (h : w.ownsRow B 9 1 v (n + 1) (l.map Value.string)) (hl : l.length = n + 1) :
    ∃ g cap cur, v = .slice (some ⟨g, 0, none⟩) (n + 1) cap ∧ B ≤ g ∧ w.heap[g]? = some (.cells cur 9 (0, 0)) ∧ n + 1 ≤ cap ∧ cap ≤ 9223372036854775807 ∧ cur.toList.take ((n + 1) * 1) = l.flatMap encS ∧ n = n ∧ SL w 1 encS (some ⟨g, 0, none⟩) l := by
  rw [← hl, ← encS_map] at h
  obtain ⟨g, cap, cur, h1, h2, h3, h4, h5, h6, h7⟩ := own_at encS_len h (fun e => by rw [e] at hl; simp at hl)
  rw [hl] at h1 h4 h6
  exact ⟨g, cap, cur, h1, h2, h3, h4, h5, h6, rfl, h7⟩
def RCl (w : World) (a b : List ByteArray) (n : Nat) (i : Value) (wr : World) : Prop := ∃ k : Nat, k ≤ n ∧ i = .int .i64 (k : Int) ∧ (∀ j x y, j < k → a[j]? = some x → b[j]? = some y → clashB x y = false) ∧ Below w.heap.size w wr
set_option maxRecDepth 100000 in
set_option maxHeartbeats 4000000 in
theorem nothing34_law (A B D : Option Addr) (c d f : Nat) (l : List Fac) (salts p : List ByteArray) (x : Clm) (w : World) (hl0 : l.length ≤ 9223372036854775807) (hs0 : SL w 6 encF A l) (ho : ∀ a ∈ l, a.Ok)
    (hl1 : salts.length ≤ 9223372036854775807) (hs1 : SL w 1 encS B salts) (hx : x.Ok) (hl2 : p.length ≤ 9223372036854775807) (hc2 : p.length ≤ f) (hs2 : SL w 1 encS D p) (hT : HasT w) :
    Calls Tryd.prog 6 #[.slice A l.length c, .slice B salts.length d, .agg (encC x (.slice D p.length f)).toArray] w fun r w' => r = .returned (.bool true) ∧ Below w.heap.size w w' := by
  obtain ⟨R, eR⟩ : ∃ R : Ending → World → Prop, R = fun r w' => r = .returned (.bool true) ∧ Below w.heap.size w w' := ⟨_, rfl⟩
  rw [← eR]
  have FIN0 : Hid (∀ w', Below w.heap.size w w' → R (.returned (.bool true)) w') := fun w' hb => by rw [eR]; exact ⟨rfl, hb⟩
  obtain ⟨n, i, ⟨xr, xa, xl, xh, xf, xs⟩, s, r⟩ := x
  obtain ⟨V, eV⟩ : ∃ V, V = w.alloc (.cells (encC ⟨n, i, ⟨xr, xa, xl, xh, xf, xs⟩, s, r⟩ (.slice D p.length f)).toArray 50) := ⟨_, rfl⟩
  have HBV : Hid (Below w.heap.size w V) := by rw [eV]; exact (Below.refl _ w).alloc (Nat.le_refl _) _
  have FIN : Hid (∀ w', Below V.heap.size V w' → R (.returned (.bool true)) w') := fun w' hb => FIN0.out w' (HBV.out.trans (hb.mono HBV.out.size))
  have BC : Hid (∀ w', Below V.heap.size V w' → Blk w' w.heap.size (encC ⟨n, i, ⟨xr, xa, xl, xh, xf, xs⟩, s, r⟩ (.slice D p.length f)) 50) := fun w' hb => by
    have h0 : Blk V w.heap.size (encC ⟨n, i, ⟨xr, xa, xl, xh, xf, xs⟩, s, r⟩ (.slice D p.length f)) 50 := by rw [eV]; exact Blk.new w _ _
    exact h0.below hb h0.lt
  have HXO : Hid ((⟨xr, xa, xl, xh, xf, xs⟩ : Fac).Ok) := hx.x
  have S0 := Lib.hid (hs0.below HBV.out (Nat.le_refl _))
  have S1 := Lib.hid (hs1.below HBV.out (Nat.le_refl _))
  have S2 := Lib.hid (hs2.below HBV.out (Nat.le_refl _))
  have OK := Lib.hid ho
  have HT := Lib.hid (hT.below HBV.out (Nat.le_refl _))
  have HH := Lib.hid (head34_any V HT.out)
  have EV : Hid (w.alloc (.cells #[.int .i64 n, .int .i64 i, .int .i64 xr, .int .i64 xa, .int .i64 xl, .int .i64 xh, .int .i64 xf, .bool xs, .string s, .string r, .slice D p.length f] 50) = V) := eV.symm
  clear eR hs0 hs1 hs2 hT eV hx ho FIN0
  show Calls Tryd.prog 6 #[.slice A l.length c, .slice B salts.length d, .agg #[.int .i64 n, .int .i64 i, .int .i64 xr, .int .i64 xa, .int .i64 xl, .int .i64 xh, .int .i64 xf, .bool xs, .string s, .string r, .slice D p.length f]] w R
  go_enter Tryd.func6, Tryd.ntmps6
  go_wp2_with fail
  rw [EV.out]
  refine HH.out.mono ?_
  rintro e w1 ⟨rfl, hb1⟩
  have HB1 := Lib.hid hb1
  clear hb1 HH EV
  by_cases hl40 : 40 < l.length
  · have q1 : (40 : Int) < (l.length : Int) := by omega
    clear hl40
    go_wp2_with fail
    exact FIN.out _ HB1.out
  have ql : ¬ (40 : Int) < (l.length : Int) := by omega
  have CSa := Lib.hid (small_any B d 40 salts w1 (S1.out.below HB1.out (Nat.le_refl _)) hl1)
  obtain ⟨F, eF⟩ : ∃ F, F = smallB salts 40 := ⟨_, rfl⟩
  rw [← eF] at CSa
  have EF := Lib.hid eF
  clear eF
  go_wp2_with fail
  refine CSa.out.mono ?_
  rintro e w' ⟨rfl, rfl⟩
  clear CSa
  cases F with
  | false =>
    go_wp2_with fail
    exact FIN.out _ HB1.out
  | true =>
  have CSb := Lib.hid (small_any D f 40 p w1 (S2.out.below HB1.out (Nat.le_refl _)) hl2)
  obtain ⟨G, eG⟩ : ∃ G, G = smallB p 40 := ⟨_, rfl⟩
  rw [← eG] at CSb
  have EG := Lib.hid eG
  clear eG
  have qb := BC.out _ HB1.out
  have ce0 := qb.cellD 0 _ rfl
  have ce1 := qb.cellD 1 _ rfl
  have ce2 := qb.cellD 2 _ rfl
  have ce3 := qb.cellD 3 _ rfl
  have ce4 := qb.cellD 4 _ rfl
  have ce5 := qb.cellD 5 _ rfl
  have ce6 := qb.cellD 6 _ rfl
  have ce7 := qb.cellD 7 _ rfl
  have ce8 := qb.cellD 8 _ rfl
  have ce9 := qb.cellD 9 _ rfl
  have ce10 := qb.cellD 10 _ rfl
  clear qb
  go_wp2_with fail
  refine CSb.out.mono ?_
  rintro e w' ⟨rfl, rfl⟩
  clear CSb
  cases G with
  | false =>
    go_wp2_with fail
    exact FIN.out _ HB1.out
  | true =>
  have SA := Lib.hid (smallB_short EF.out.symm)
  have SB := Lib.hid (smallB_short EG.out.symm)
  clear EF EG
  by_cases hs200 : 200 < s.size
  · have q1 : (200 : Int) < (s.size : Int) := by omega
    go_wp2_with fail
    exact FIN.out _ HB1.out
  have qs : ¬ (200 : Int) < (s.size : Int) := by omega
  have ha40 := SA.out.1
  have hp40 := SB.out.1
  have CL := Lib.hid (leaves_any A B c d l salts w1 (S0.out.below HB1.out (Nat.le_refl _)) (S1.out.below HB1.out (Nat.le_refl _)) (by omega) OK.out (short_200 SA.out.2) (HT.out.below HB1.out (Nat.le_refl _)))
  go_wp2_with fail
  refine CL.out.mono ?_
  rintro e w2 ⟨⟨A', c', hc', rfl, hsl⟩, hb2⟩
  have HB2 := Lib.hid (HB1.out.trans (hb2.mono HB1.out.size))
  have HSL := Lib.hid hsl
  have LV := Lib.hid (leavesA_len l salts)
  have LVS := Lib.hid (leavesA_short l salts)
  have CR : Hid (∀ w', Below w2.heap.size w2 w' → Calls Tryd.prog 16 #[.slice A' l.length c'] w' fun e w3 => e = .returned (.string (rootOf (leavesA l salts))) ∧ Below w'.heap.size w' w3) := fun w' hb => by
    have := root_any (leavesA l salts) A' c' w' (by rw [LV.out]; exact hc') (by rw [LV.out]; omega) (hsl.below hb (Nat.le_refl _)) LVS.out (HT.out.below (HB2.out.trans (hb.mono HB2.out.size)) (Nat.le_refl _))
    rw [LV.out] at this
    exact this
  have CC : Hid (∀ w', Below V.heap.size V w' → Calls Tryd.prog 19 #[.string (rootOf (leavesA l salts)), .int .i64 (l.length : Int), .int .i64 i, .agg (encF ⟨xr, xa, xl, xh, xf, xs⟩).toArray, .string s, .slice D p.length f] w' fun e w2 => e = .returned (.bool (checkD (rootOf (leavesA l salts)) (l.length : Int) i ⟨xr, xa, xl, xh, xf, xs⟩ s p)) ∧ Below w'.heap.size w' w2) := fun w' hb =>
    check_dis _ (l.length : Int) i _ s p D f w' HXO.out (by omega) (by omega) (S2.out.below hb (Nat.le_refl _)) (short_200 SB.out.2) (HT.out.below hb (Nat.le_refl _))
  obtain ⟨C, eC⟩ : ∃ C, C = checkD (rootOf (leavesA l salts)) (l.length : Int) i ⟨xr, xa, xl, xh, xf, xs⟩ s p := ⟨_, rfl⟩
  rw [← eC] at CC
  obtain ⟨rt, ert⟩ : ∃ rt, rt = rootOf (leavesA l salts) := ⟨_, rfl⟩
  rw [← ert] at CR CC
  have EC := Lib.hid eC
  have ERT := Lib.hid ert
  clear ce0 ce1 ce2 ce3 ce4 ce5 ce6 ce7 ce8 ce9 ce10
  obtain ⟨k1, k8, k10⟩ : w2.cell? ⟨w.heap.size, 1, none⟩ = some (.int .i64 i) ∧ w2.cell? ⟨w.heap.size, 8, none⟩ = some (.string s) ∧ w2.cell? ⟨w.heap.size, 10, none⟩ = some (.slice D p.length f) :=
    ⟨(BC.out _ HB2.out).cellD 1 _ rfl, (BC.out _ HB2.out).cellD 8 _ rfl, (BC.out _ HB2.out).cellD 10 _ rfl⟩
  clear hb2 hsl CL eC ert
  go_wp2_with fail
  refine Free.wp_region_free 14 [(1, .det (.string rt)), (12, .det (.bool C))] (fun y => Below w2.heap.size w2 y ∧ y.cell? ⟨w.heap.size, 1, none⟩ = some (.int .i64 i) ∧ y.cell? ⟨w.heap.size, 8, none⟩ = some (.string s) ∧ y.cell? ⟨w.heap.size, 10, none⟩ = some (.slice D p.length f)) (by kernel_rfl) (by kernel_rfl) (Free.mono_det (fun j mk r hf => by simp only [Free.find] at hf; repeat' (first | cases hf | split at hf))) ⟨(Below.refl _ _).drew, k1, k8, k10⟩ (fun _ _ h g => ⟨h.1.trans (Below.mono g h.1.size), cell_grow h.2.1 g, cell_grow h.2.2.1 g, cell_grow h.2.2.2 g⟩) ?_
  simp only [List.take_succ_cons, List.take_zero]
  clear k1 k8 k10
  iterate 1 (apply Free.chain_still (by first | exact Free.wanted_of rfl rfl rfl | rfl) rfl; (intro w' hB hA; obtain ⟨qB, r1, r8, r10⟩ := hB; clear hA  qB; go_light; go_simp <;> rfl); (try simp only [Act.put, List.setIfInBounds_toArray, List.set_cons_succ, List.set_cons_zero]))
  apply Free.chain_det (by first | exact Free.wanted_of rfl rfl rfl | rfl) rfl
  · intro w' hB hA
    refine Free.opRun_call (f := 16) (args := #[.slice A' l.length c']) (by clear hB hA; go_simp <;> rfl) ?_
    refine (CR.out w' hB.1).mono ?_
    rintro e w3 ⟨rfl, hb3⟩
    exact ⟨_, rfl, hb3, rfl⟩
  simp only [Act.put, List.setIfInBounds_toArray, List.set_cons_succ, List.set_cons_zero]
  iterate 5 (apply Free.chain_still (by first | exact Free.wanted_of rfl rfl rfl | rfl) rfl; (intro w' hB hA; obtain ⟨qB, r1, r8, r10⟩ := hB; clear hA  qB; go_light; go_simp <;> rfl); (try simp only [Act.put, List.setIfInBounds_toArray, List.set_cons_succ, List.set_cons_zero]))
  apply Free.chain_still (by first | exact Free.wanted_of rfl rfl rfl | rfl) rfl
  · intro w' hB hA
    exact exec_fac (x := ⟨xr, xa, xl, xh, xf, xs⟩) (b := w.heap.size) (off := 2) rfl rfl (claim_fac (BC.out w' (HB2.out.trans (hB.1.mono HB2.out.size))))
  simp only [Act.put, List.setIfInBounds_toArray, List.set_cons_succ, List.set_cons_zero]
  iterate 4 (apply Free.chain_still (by first | exact Free.wanted_of rfl rfl rfl | rfl) rfl; (intro w' hB hA; obtain ⟨qB, r1, r8, r10⟩ := hB; clear hA  qB; go_light; go_simp <;> rfl); (try simp only [Act.put, List.setIfInBounds_toArray, List.set_cons_succ, List.set_cons_zero]))
  apply Free.chain_det (by first | exact Free.wanted_of rfl rfl rfl | rfl) rfl
  · intro w' hB hA
    refine Free.opRun_call (f := 19) (args := #[.string rt, .int .i64 (l.length : Int), .int .i64 i, .agg (encF ⟨xr, xa, xl, xh, xf, xs⟩).toArray, .string s, .slice D p.length f]) (by clear hB hA; go_simp <;> rfl) ?_
    refine (CC.out w' (HB2.out.trans (hB.1.mono HB2.out.size))).mono ?_
    rintro e w3 ⟨rfl, hb3⟩
    exact ⟨_, rfl, hb3, rfl⟩
  simp only [Act.put, List.setIfInBounds_toArray, List.set_cons_succ, List.set_cons_zero]
  iterate 1 (apply Free.chain_still (by first | exact Free.wanted_of rfl rfl rfl | rfl) rfl; (intro w' hB hA; obtain ⟨qB, r1, r8, r10⟩ := hB; clear hA  qB; go_light; go_simp <;> rfl); (try simp only [Act.put, List.setIfInBounds_toArray, List.set_cons_succ, List.set_cons_zero]))
  apply Free.chain_nil
  intro w3 hBz _ _
  simp only [List.drop_succ_cons, List.drop_zero]
  have HB3 := Lib.hid (HB2.out.trans (hBz.1.mono HB2.out.size))
  have HSL3 := Lib.hid (HSL.out.below hBz.1 (Nat.le_refl _))
  clear hBz CR CC HSL
  cases C with
  | false =>
    clear EC
    go_wp2_with fail
    exact FIN.out _ HB3.out
  | true =>
  have hck := EC.out.symm
  have hrange : 0 ≤ i ∧ i < (l.length : Int) := by
    have h1 := hck
    unfold checkD at h1
    rw [Bool.and_eq_true, decide_eq_true_eq] at h1
    exact ⟨h1.1.2.2.1, h1.1.2.2.2⟩
  obtain ⟨I, rfl⟩ : ∃ I : Nat, i = (I : Int) := ⟨i.toNat, by omega⟩
  have hIl : I < l.length := by omega
  have hpl : p.length = (lev I l.length).length := by
    have h1 := hck
    unfold checkD at h1
    rw [Int.toNat_natCast, Int.toNat_natCast, Bool.and_eq_true, Bool.and_eq_true, decide_eq_true_eq, decide_eq_true_eq] at h1
    exact h1.2.1
  obtain ⟨y, hy⟩ : ∃ y, l[I]? = some y := ⟨_, List.getElem?_eq_getElem hIl⟩
  have hyo := OK.out y (List.mem_of_getElem? hy)
  have hpal : (pathL (leavesA l salts) I).length = p.length := by rw [path_len, LV.out, hpl]
  have hpas : Med (pathL (leavesA l salts) I) := path_med _ _ (leavesA_med l salts) (by rw [LV.out]; omega)
  have CP : Hid (∀ R : Ending → World → Prop, (∀ w' A2 c2, Below w3.heap.size w3 w' → p.length ≤ c2 → SL w' 1 encS A2 (pathL (leavesA l salts) I) → R (.returned (.tuple #[.slice A2 p.length c2, .int .i64 0])) w') → Calls Tryd.prog 18 #[.slice A' l.length c', .int .i64 (I : Int)] w3 R) := fun R hR => by
    have := prove_in (leavesA l salts) A' c' I w3 R (by rw [LV.out]; exact hIl) (by rw [LV.out]; exact hc') (by rw [LV.out]; omega) HSL3.out LVS.out (HT.out.below HB3.out (Nat.le_refl _)) (fun w' A2 c2 a1 a2 a3 => by rw [hpal] at a2 ⊢; exact hR w' A2 c2 a1 a2 a3)
    rw [LV.out] at this
    exact this
  have HFOUND : Hid (¬ ((⟨xr, xa, xl, xh, xf, xs⟩ : Fac) = y ∧ s = saltA salts I) → ∃ (j : Nat) (a b : ByteArray), (txtD (leafT ⟨xr, xa, xl, xh, xf, xs⟩ s) (sidesL I l.length) p.reverse)[j]? = some a ∧ (txtD (leafT y (saltA salts I)) (sidesL I l.length) (pathL (leavesA l salts) I).reverse)[j]? = some b ∧ clashB a b = true) :=
    fun hne => clash_found HXO.out hyo (by omega) hy hne hck
  obtain ⟨pa, epa⟩ : ∃ pa, pa = pathL (leavesA l salts) I := ⟨_, rfl⟩
  rw [← epa] at hpal hpas CP HFOUND
  have hyl : ∃ b off, A = some ⟨b, off, none⟩ := by
    obtain ⟨b, off, rfl, _⟩ := S0.out.at_ hy
    exact ⟨b, off, rfl⟩
  obtain ⟨ba, oa, rfl⟩ := hyl
  have CE : Hid (∀ w', Below V.heap.size V w' → ∀ p u, (encF y)[p]? = some u → w'.cell? ⟨ba, oa + I * 6 + p, none⟩ = some u) := fun w' hb => by
    obtain ⟨b', off', e1, hc⟩ := (S0.out.below hb (Nat.le_refl _)).at_ hy
    cases e1
    intro p u hu
    have := hc p u hu
    rw [← Nat.add_assoc] at this; exact this
  have hstz := saltA_200 SA.out.2 I
  have CS : Hid (∀ w', Below V.heap.size V w' → Calls Tryd.prog 30 #[.slice B salts.length d, .int .i64 (I : Int)] w' fun e w2 => e = .returned (.string (saltA salts I)) ∧ Below w'.heap.size w' w2) := fun w' hb => by
    refine (salt_any B d I salts w' (S1.out.below hb (Nat.le_refl _))).mono ?_
    rintro e w2 ⟨rfl, rfl⟩
    exact ⟨rfl, Below.refl _ _⟩
  have CT : Hid (∀ w', Below V.heap.size V w' → Calls Tryd.prog 31 #[.agg (encF ⟨xr, xa, xl, xh, xf, xs⟩).toArray, .string s, .int .i64 (I : Int), .int .i64 (l.length : Int), .slice D p.length f] w' (TxPost ⟨xr, xa, xl, xh, xf, xs⟩ s I l.length p w')) := fun w' hb =>
    texts34_any _ s HXO.out (by omega) l.length I p D f w' (by omega) (by omega) hIl hpl hc2 (by omega) (S2.out.below hb (Nat.le_refl _)) (fun t ht => by have := SB.out.2 t ht; omega)
  have CU : Hid (∀ w' A2 c2, p.length ≤ c2 → SL w' 1 encS A2 pa → Calls Tryd.prog 31 #[.agg (encF y).toArray, .string (saltA salts I), .int .i64 (I : Int), .int .i64 (l.length : Int), .slice A2 p.length c2] w' (TxPost y (saltA salts I) I l.length pa w')) := fun w' A2 c2 hc hs => by
    have := texts34_any y (saltA salts I) hyo (by omega) l.length I pa A2 c2 w' (by omega) (by omega) hIl (hpal.trans hpl) (by omega) (by omega) hs hpas
    rw [hpal] at this
    exact this
  have htl : (txtD (leafT ⟨xr, xa, xl, xh, xf, xs⟩ s) (sidesL I l.length) p.reverse).length = p.length + 1 := by rw [txtD_len _ _ _ (by rw [sides_len, List.length_reverse]; exact hpl.symm), sides_len, hpl]
  have htl2 : (txtD (leafT y (saltA salts I)) (sidesL I l.length) pa.reverse).length = p.length + 1 := by rw [txtD_len _ _ _ (by rw [sides_len, List.length_reverse, hpal]; exact hpl.symm), sides_len, hpl]
  have ht1 : Short (txtD (leafT ⟨xr, xa, xl, xh, xf, xs⟩ s) (sidesL I l.length) p.reverse) := txtD_short _ (leafT_size _ s HXO.out (by omega)) _ _ (fun t ht => by have := SB.out.2 t (List.mem_reverse.1 ht); omega)
  have ht2 : Short (txtD (leafT y (saltA salts I)) (sidesL I l.length) pa.reverse) := txtD_short _ (leafT_size _ _ hyo (by omega)) _ _ (fun t ht => hpas t (List.mem_reverse.1 ht))
  unfold TxPost at CT CU
  rw [hpal] at CU
  obtain ⟨ta, eta⟩ : ∃ ta, ta = txtD (leafT ⟨xr, xa, xl, xh, xf, xs⟩ s) (sidesL I l.length) p.reverse := ⟨_, rfl⟩
  obtain ⟨tb, etb⟩ : ∃ tb, tb = txtD (leafT y (saltA salts I)) (sidesL I l.length) pa.reverse := ⟨_, rfl⟩
  rw [← eta] at CT HFOUND htl ht1
  rw [← etb] at CU HFOUND htl2 ht2
  obtain ⟨st, est⟩ : ∃ st, st = saltA salts I := ⟨_, rfl⟩
  rw [← est] at CS CU HFOUND hstz
  have SHA := Lib.hid ht1
  have SHB := Lib.hid ht2
  have TLA := Lib.hid htl
  have TLB := Lib.hid htl2
  have ki1 : (I : Int) < (l.length : Int) := by omega
  have k00 : (0 : Int) ≤ (I : Int) := by omega
  have qpp : ((p.length : Int) != (p.length : Int)) = false := by simp
  have qb := BC.out _ HB3.out
  have ce0 := qb.cellD 0 _ rfl
  have ce1 := qb.cellD 1 _ rfl
  have ce2 := qb.cellD 2 _ rfl
  have ce3 := qb.cellD 3 _ rfl
  have ce4 := qb.cellD 4 _ rfl
  have ce5 := qb.cellD 5 _ rfl
  have ce6 := qb.cellD 6 _ rfl
  have ce7 := qb.cellD 7 _ rfl
  have ce8 := qb.cellD 8 _ rfl
  have ce9 := qb.cellD 9 _ rfl
  have ce10 := qb.cellD 10 _ rfl
  clear qb
  clear EC ERT hck hrange hpl hpas epa eta etb est htl htl2 ht1 ht2 hy hyo hpal hstz
  go_wp2_with fail
  refine CP.out _ ?_
  intro w4 A2 c2 hb4 hc2' hs4
  have HB4 := Lib.hid (HB3.out.trans (hb4.mono HB3.out.size))
  have HS4 := Lib.hid hs4
  clear ce0 ce1 ce2 ce3 ce4 ce5 ce6 ce7 ce8 ce9 ce10
  have qb := BC.out _ HB4.out
  have ce0 := qb.cellD 0 _ rfl
  have ce1 := qb.cellD 1 _ rfl
  have ce2 := qb.cellD 2 _ rfl
  have ce3 := qb.cellD 3 _ rfl
  have ce4 := qb.cellD 4 _ rfl
  have ce5 := qb.cellD 5 _ rfl
  have ce6 := qb.cellD 6 _ rfl
  have ce7 := qb.cellD 7 _ rfl
  have ce8 := qb.cellD 8 _ rfl
  have ce9 := qb.cellD 9 _ rfl
  have ce10 := qb.cellD 10 _ rfl
  clear qb
  clear hb4 hs4 CP
  go_wp2_with fail
  clear ce0 ce1 ce2 ce3 ce4 ce5 ce6 ce7 ce8 ce9 ce10
  have EQ : Hid (eqF ⟨xr, xa, xl, xh, xf, xs⟩ y = true ↔ (⟨xr, xa, xl, xh, xf, xs⟩ : Fac) = y) := eqF_iff _ _
  obtain ⟨E, eE⟩ : ∃ E, E = eqF ⟨xr, xa, xl, xh, xf, xs⟩ y := ⟨_, rfl⟩
  have HEQ : Hid (eqF ⟨xr, xa, xl, xh, xf, xs⟩ y = E) := eE.symm
  clear eE
  obtain ⟨k1, k8⟩ : w4.cell? ⟨w.heap.size, 1, none⟩ = some (.int .i64 (I : Int)) ∧ w4.cell? ⟨w.heap.size, 8, none⟩ = some (.string s) := ⟨(BC.out _ HB4.out).cellD 1 _ rfl, (BC.out _ HB4.out).cellD 8 _ rfl⟩
  refine Free.wp_region_free 17 [(14, .det (.string st))] (fun y => Below w4.heap.size w4 y ∧ y.cell? ⟨w.heap.size, 1, none⟩ = some (.int .i64 (I : Int)) ∧ y.cell? ⟨w.heap.size, 8, none⟩ = some (.string s)) (by kernel_rfl) (by kernel_rfl) (Free.mono_det (fun j mk r hf => by simp only [Free.find] at hf; repeat' (first | cases hf | split at hf))) ⟨(Below.refl _ _).drew, k1, k8⟩ (fun _ _ h g => ⟨h.1.trans (Below.mono g h.1.size), cell_grow h.2.1 g, cell_grow h.2.2 g⟩) ?_
  simp only [List.take_succ_cons, List.take_zero]
  clear k1 k8
  iterate 1 (apply Free.chain_still (by first | exact Free.wanted_of rfl rfl rfl | rfl) rfl; (intro w' hB hA; obtain ⟨qB, r1, r8⟩ := hB; clear hA  qB; go_light; go_simp <;> rfl); (try simp only [Act.put, List.setIfInBounds_toArray, List.set_cons_succ, List.set_cons_zero]))
  apply Free.chain_still (by first | exact Free.wanted_of rfl rfl rfl | rfl) rfl
  · intro w' hB hA
    exact exec_fac (x := ⟨xr, xa, xl, xh, xf, xs⟩) (b := w.heap.size) (off := 2) rfl rfl (claim_fac (BC.out w' (HB4.out.trans (hB.1.mono HB4.out.size))))
  simp only [Act.put, List.setIfInBounds_toArray, List.set_cons_succ, List.set_cons_zero]
  iterate 4 (apply Free.chain_still (by first | exact Free.wanted_of rfl rfl rfl | rfl) rfl; (intro w' hB hA; obtain ⟨qB, r1, r8⟩ := hB; clear hA  qB; go_light; go_simp <;> rfl); (try simp only [Act.put, List.setIfInBounds_toArray, List.set_cons_succ, List.set_cons_zero]))
  apply Free.chain_still (by first | exact Free.wanted_of rfl rfl rfl | rfl) rfl
  · intro w' hB hA
    exact exec_fac (x := y) rfl rfl (CE.out w' (HB4.out.trans (hB.1.mono HB4.out.size)))
  simp only [Act.put, List.setIfInBounds_toArray, List.set_cons_succ, List.set_cons_zero]
  apply Free.chain_still (by first | exact Free.wanted_of rfl rfl rfl | rfl) rfl
  · intro w' hB hA
    exact exec_eqlF (x := ⟨xr, xa, xl, xh, xf, xs⟩) (y := y) rfl rfl rfl HEQ.out
  simp only [Act.put, List.setIfInBounds_toArray, List.set_cons_succ, List.set_cons_zero]
  iterate 1 (apply Free.chain_still (by first | exact Free.wanted_of rfl rfl rfl | rfl) rfl; (intro w' hB hA; obtain ⟨qB, r1, r8⟩ := hB; clear hA  qB; go_light; go_simp <;> rfl); (try simp only [Act.put, List.setIfInBounds_toArray, List.set_cons_succ, List.set_cons_zero]))
  cases E with
  | false =>
    iterate 7 (apply Free.chain_skip (by exact unwanted2 rfl rfl rfl rfl); simp only [Act.put, List.setIfInBounds_toArray, List.set_cons_succ, List.set_cons_zero])
    iterate 1 (apply Free.chain_still (by first | exact Free.wanted_of rfl rfl rfl | rfl) rfl; (intro w' hB hA; obtain ⟨qB, r1, r8⟩ := hB; clear hA  qB; go_light; go_simp <;> rfl); (try simp only [Act.put, List.setIfInBounds_toArray, List.set_cons_succ, List.set_cons_zero]))
    apply Free.chain_nil
    intro w5 hBz _ _
    simp only [List.drop_succ_cons, List.drop_zero]
    have HB5 := Lib.hid (HB4.out.trans (hBz.1.mono HB4.out.size))
    have HS5 := Lib.hid (HS4.out.below hBz.1 (Nat.le_refl _))
    have HNE : Hid (¬ ((⟨xr, xa, xl, xh, xf, xs⟩ : Fac) = y ∧ s = st)) := fun h => by have := EQ.out.2 h.1; rw [HEQ.out] at this; cases this
    clear hBz EQ HEQ
    have qb := BC.out _ HB5.out
    have ce0 := qb.cellD 0 _ rfl
    have ce1 := qb.cellD 1 _ rfl
    have ce2 := qb.cellD 2 _ rfl
    have ce3 := qb.cellD 3 _ rfl
    have ce4 := qb.cellD 4 _ rfl
    have ce5 := qb.cellD 5 _ rfl
    have ce6 := qb.cellD 6 _ rfl
    have ce7 := qb.cellD 7 _ rfl
    have ce8 := qb.cellD 8 _ rfl
    have ce9 := qb.cellD 9 _ rfl
    have ce10 := qb.cellD 10 _ rfl
    clear qb
    go_wp2_with fail
    refine (CT.out _ HB5.out).mono ?_
    rintro e w6 ⟨⟨v6, rfl, hown6⟩, hb6⟩
    obtain ⟨A6, c6, rfl, hc6, hs6⟩ := row_slS hown6
    have HB6 := Lib.hid (HB5.out.trans (hb6.mono HB5.out.size))
    have HS6 := Lib.hid hs6
    have HS46 := Lib.hid (HS5.out.below hb6 (Nat.le_refl _))
    clear hb6 hs6 hown6 hc6
    clear ce0 ce1 ce2 ce3 ce4 ce5 ce6 ce7 ce8 ce9 ce10
    have k1 : w6.cell? ⟨w.heap.size, 1, none⟩ = some (.int .i64 (I : Int)) := (BC.out _ HB6.out).cellD 1 _ rfl
    go_wp2_with fail
    refine Free.wp_region_free 15 [(8, .det (.string st)), (14, .ind (fun y => .slice (some ⟨fstN y, 0, none⟩) (p.length + 1) (sndN y)) (fun z w2 => SL w2 1 encS (some ⟨fstN z, 0, none⟩) tb))] (fun y => Below w6.heap.size w6 y ∧ y.cell? ⟨w.heap.size, 1, none⟩ = some (.int .i64 (I : Int))) (by kernel_rfl) (by kernel_rfl) ?_ ⟨(Below.refl _ _).drew, k1⟩ (fun _ _ h g => ⟨h.1.trans (Below.mono g h.1.size), cell_grow h.2 g⟩) ?_
    · intro j mk rr hf z w1 w2 hr gr
      simp only [Free.find] at hf
      split at hf
      · cases hf
      · split at hf
        · cases hf; exact hr.below gr (Nat.le_refl _)
        · cases hf
    simp only [List.take_succ_cons, List.take_zero]
    clear k1
    iterate 4 (apply Free.chain_still (by first | exact Free.wanted_of rfl rfl rfl | rfl) rfl; (intro w' hB hA; obtain ⟨qB, r1⟩ := hB; clear hA  qB; go_light; go_simp <;> rfl); (try simp only [Act.put, List.setIfInBounds_toArray, List.set_cons_succ, List.set_cons_zero]))
    apply Free.chain_still (by first | exact Free.wanted_of rfl rfl rfl | rfl) rfl
    · intro w' hB hA
      exact exec_fac (x := y) rfl rfl (CE.out w' (HB6.out.trans (hB.1.mono HB6.out.size)))
    simp only [Act.put, List.setIfInBounds_toArray, List.set_cons_succ, List.set_cons_zero]
    iterate 3 (apply Free.chain_still (by first | exact Free.wanted_of rfl rfl rfl | rfl) rfl; (intro w' hB hA; obtain ⟨qB, r1⟩ := hB; clear hA  qB; go_light; go_simp <;> rfl); (try simp only [Act.put, List.setIfInBounds_toArray, List.set_cons_succ, List.set_cons_zero]))
    apply Free.chain_det (by first | exact Free.wanted_of rfl rfl rfl | rfl) rfl
    · intro w' hB hA
      refine Free.opRun_call (f := 30) (args := #[.slice B salts.length d, .int .i64 (I : Int)]) (by clear hB hA; go_simp <;> rfl) ?_
      refine (CS.out w' (HB6.out.trans (hB.1.mono HB6.out.size))).mono ?_
      rintro e w3 ⟨rfl, hb3⟩
      exact ⟨_, rfl, hb3, rfl⟩
    simp only [Act.put, List.setIfInBounds_toArray, List.set_cons_succ, List.set_cons_zero]
    iterate 5 (apply Free.chain_still (by first | exact Free.wanted_of rfl rfl rfl | rfl) rfl; (intro w' hB hA; obtain ⟨qB, r1⟩ := hB; clear hA  qB; go_light; go_simp <;> rfl); (try simp only [Act.put, List.setIfInBounds_toArray, List.set_cons_succ, List.set_cons_zero]))
    apply Free.chain_ind (by first | exact Free.wanted_of rfl rfl rfl | rfl) rfl
    · intro w' hB hA
      refine Free.opRun_call (f := 31) (args := #[.agg (encF y).toArray, .string st, .int .i64 (I : Int), .int .i64 (l.length : Int), .slice A2 p.length c2]) (by clear hB hA; go_simp <;> rfl) ?_
      refine (CU.out w' A2 c2 hc2' (HS46.out.below hB.1 (Nat.le_refl _))).mono ?_
      rintro e w3 ⟨⟨v, rfl, hown⟩, hb3⟩
      obtain ⟨g, cp, cur, rfl, _, _, _, hcp, _, _, hsl⟩ := own_at_texts hown TLB.out
      obtain ⟨z, rfl, rfl⟩ := pairN g cp hcp
      exact ⟨_, rfl, hb3, z, rfl, hsl⟩
    intro z
    simp only [Act.put, List.setIfInBounds_toArray, List.set_cons_succ, List.set_cons_zero]
    apply Free.chain_nil
    intro w7 hBz _ hh
    have hs7 : SL w7 1 encS (some ⟨fstN z, 0, none⟩) tb := hh _ List.mem_cons_self
    simp only [List.drop_succ_cons, List.drop_zero]
    have HB7 := Lib.hid (HB6.out.trans (hBz.1.mono HB6.out.size))
    have SAX := Lib.hid (HS6.out.below hBz.1 (Nat.le_refl _))
    have SBX := Lib.hid hs7
    have HST : Hid (RCl w7 ta tb (p.length + 1) (.int .i64 0) w7) := ⟨0, Nat.zero_le _, rfl, fun j _ _ h => absurd h (Nat.not_lt_zero _), Below.refl _ _⟩
    obtain ⟨M, eM⟩ : ∃ M, M = p.length + 1 := ⟨_, rfl⟩
    have TLA' := TLA.out
    have TLB' := TLB.out
    have hM41 : M ≤ 41 := by omega
    rw [← eM] at TLA' TLB' HST ⊢
    have TLAH := Lib.hid TLA'
    have TLBH := Lib.hid TLB'
    have HF := Lib.hid (HFOUND.out HNE.out)
    clear hh hBz hs7 CS CU CT CE HS6 HS46 eM TLA' TLB' HFOUND TLA TLB
    go_wp2_with fail
    go_loopw [13] (fun i wr => RCl w7 ta tb M i wr) (fun i _ => M - (intOf i).toNat)
    case atStart => exact HST.out
    case round =>
      clear HST
      obtain ⟨k, hk, rfl, hno, hbr⟩ := hrel
      by_cases hlt : k < M
      · obtain ⟨u, hu⟩ : ∃ u, ta[k]? = some u := ⟨_, List.getElem?_eq_getElem (by have := TLAH.out; omega)⟩
        obtain ⟨v, hv⟩ : ∃ v, tb[k]? = some v := ⟨_, List.getElem?_eq_getElem (by have := TLBH.out; omega)⟩
        obtain ⟨b1, o1, rfl, hcl1⟩ := (SAX.out.below hbr (Nat.le_refl _)).at_ hu
        obtain ⟨b2, o2, eb2, hcl2⟩ := (SBX.out.below hbr (Nat.le_refl _)).at_ hv
        cases eb2
        have d1 := hcl1 0 _ rfl
        have d2 := hcl2 0 _ rfl
        simp only [Nat.mul_one, Nat.add_zero, Nat.zero_add] at d1 d2
        have CX := Lib.hid (fun w => clash_any u v w (SHA.out u (List.mem_of_getElem? hu)) (SHB.out v (List.mem_of_getElem? hv)))
        obtain ⟨X, eX⟩ : ∃ X, X = clashB u v := ⟨_, rfl⟩
        rw [← eX] at CX
        have ki1 : (k : Int) < (M : Int) := by omega
        have k00 : (0 : Int) ≤ (k : Int) := by omega
        have HU := Lib.hid hu
        have HV := Lib.hid hv
        have EX := Lib.hid eX
        have HNO := Lib.hid hno
        have HBR := Lib.hid hbr
        clear hu hv hcl1 hcl2 eX hno hbr
        go_wp2_with fail
        refine Free.wp_region_free 9 [(8, .det (.bool X))] (fun y => Below wr.heap.size wr y ∧ y.cell? ⟨b1, o1 + k, none⟩ = some (.string u) ∧ y.cell? ⟨fstN z, k, none⟩ = some (.string v)) (by kernel_rfl) (by kernel_rfl) (Free.mono_det (fun j mk r hf => by simp only [Free.find] at hf; repeat' (first | cases hf | split at hf))) ⟨(Below.refl _ _).drew, d1, d2⟩ (fun _ _ h g => ⟨h.1.trans (Below.mono g h.1.size), cell_grow h.2.1 g, cell_grow h.2.2 g⟩) ?_
        simp only [List.take_succ_cons, List.take_zero]
        clear d1 d2
        iterate 8 (apply Free.chain_still (by first | exact Free.wanted_of rfl rfl rfl | rfl) rfl; (intro w' hB hA; obtain ⟨qB, r1, r2⟩ := hB; clear hA  qB; go_light; go_simp <;> rfl); (try simp only [Act.put, List.setIfInBounds_toArray, List.set_cons_succ, List.set_cons_zero]))
        apply Free.chain_det (by first | exact Free.wanted_of rfl rfl rfl | rfl) rfl
        · intro w' hB hA
          refine Free.opRun_call (f := 32) (args := #[.string u, .string v]) (by clear hB hA; go_simp <;> rfl) ?_
          refine (CX.out w').mono ?_
          rintro e w3 ⟨rfl, hb3⟩
          exact ⟨_, rfl, hb3, rfl⟩
        simp only [Act.put, List.setIfInBounds_toArray, List.set_cons_succ, List.set_cons_zero]
        apply Free.chain_nil
        intro wz hBz _ _
        simp only [List.drop_succ_cons, List.drop_zero]
        have LZ := Lib.hid (HBR.out.trans (hBz.1.mono HBR.out.size))
        clear hBz CX
        cases X with
        | true =>
          have L := Lib.hid (HB7.out.trans (LZ.out.mono HB7.out.size))
          clear EX
          go_wp2_with fail
          exact FIN.out _ L.out
        | false =>
          have KEY : Hid (RCl w7 ta tb M (.int .i64 ((k : Int) + 1)) wz) := ⟨k + 1, by omega, by go_num, fun j x y hj hx hy => by
            by_cases e : j = k
            · subst e
              rw [HU.out] at hx
              rw [HV.out] at hy
              cases hx; cases hy; exact EX.out.symm
            · exact HNO.out j x y (by omega) hx hy, LZ.out⟩
          clear EX
          go_wp2_with fail
          refine ⟨KEY.out, ?_⟩
          simp [intOf]; omega
      · exfalso
        obtain ⟨j, a, b, ha, hb, hc⟩ := HF.out
        have hj := (List.getElem?_eq_some_iff.1 ha).1
        have := hno j a b (by have := TLAH.out; omega) ha hb
        rw [this] at hc; cases hc
  | true =>
    iterate 5 (apply Free.chain_still (by first | exact Free.wanted_of rfl rfl rfl | rfl) rfl; (intro w' hB hA; obtain ⟨qB, r1, r8⟩ := hB; clear hA  qB; go_light; go_simp <;> rfl); (try simp only [Act.put, List.setIfInBounds_toArray, List.set_cons_succ, List.set_cons_zero]))
    apply Free.chain_det (by first | exact Free.wanted_of rfl rfl rfl | rfl) rfl
    · intro w' hB hA
      refine Free.opRun_call (f := 30) (args := #[.slice B salts.length d, .int .i64 (I : Int)]) (by clear hB hA; go_simp <;> rfl) ?_
      refine (CS.out w' (HB4.out.trans (hB.1.mono HB4.out.size))).mono ?_
      rintro e w3 ⟨rfl, hb3⟩
      exact ⟨_, rfl, hb3, rfl⟩
    simp only [Act.put, List.setIfInBounds_toArray, List.set_cons_succ, List.set_cons_zero]
    iterate 2 (apply Free.chain_still (by first | exact Free.wanted_of rfl rfl rfl | rfl) rfl; (intro w' hB hA; obtain ⟨qB, r1, r8⟩ := hB; clear hA  qB; go_light; go_simp <;> rfl); (try simp only [Act.put, List.setIfInBounds_toArray, List.set_cons_succ, List.set_cons_zero]))
    apply Free.chain_nil
    intro w5 hBz _ _
    simp only [List.drop_succ_cons, List.drop_zero]
    have HB5 := Lib.hid (HB4.out.trans (hBz.1.mono HB4.out.size))
    have HS5 := Lib.hid (HS4.out.below hBz.1 (Nat.le_refl _))
    clear hBz EQ HEQ
    by_cases hst : s = st
    · rw [show (s.toList == st.toList) = true by rw [hst]; simp]
      clear hst
      go_wp2_with fail
      exact FIN.out _ HB5.out
    · have hq : (s.toList == st.toList) = false := by
        cases hq : (s.toList == st.toList) with
        | false => rfl
        | true => exact absurd (tl_eq (by simpa using hq)) hst
      have HNE : Hid (¬ ((⟨xr, xa, xl, xh, xf, xs⟩ : Fac) = y ∧ s = st)) := fun h => hst h.2
      rw [hq]
      clear hst hq
      have qb := BC.out _ HB5.out
      have ce0 := qb.cellD 0 _ rfl
      have ce1 := qb.cellD 1 _ rfl
      have ce2 := qb.cellD 2 _ rfl
      have ce3 := qb.cellD 3 _ rfl
      have ce4 := qb.cellD 4 _ rfl
      have ce5 := qb.cellD 5 _ rfl
      have ce6 := qb.cellD 6 _ rfl
      have ce7 := qb.cellD 7 _ rfl
      have ce8 := qb.cellD 8 _ rfl
      have ce9 := qb.cellD 9 _ rfl
      have ce10 := qb.cellD 10 _ rfl
      clear qb
      go_wp2_with fail
      refine (CT.out _ HB5.out).mono ?_
      rintro e w6 ⟨⟨v6, rfl, hown6⟩, hb6⟩
      obtain ⟨A6, c6, rfl, hc6, hs6⟩ := row_slS hown6
      have HB6 := Lib.hid (HB5.out.trans (hb6.mono HB5.out.size))
      have HS6 := Lib.hid hs6
      have HS46 := Lib.hid (HS5.out.below hb6 (Nat.le_refl _))
      clear hb6 hs6 hown6 hc6
      clear ce0 ce1 ce2 ce3 ce4 ce5 ce6 ce7 ce8 ce9 ce10
      have k1 : w6.cell? ⟨w.heap.size, 1, none⟩ = some (.int .i64 (I : Int)) := (BC.out _ HB6.out).cellD 1 _ rfl
      go_wp2_with fail
      refine Free.wp_region_free 15 [(8, .det (.string st)), (14, .ind (fun y => .slice (some ⟨fstN y, 0, none⟩) (p.length + 1) (sndN y)) (fun z w2 => SL w2 1 encS (some ⟨fstN z, 0, none⟩) tb))] (fun y => Below w6.heap.size w6 y ∧ y.cell? ⟨w.heap.size, 1, none⟩ = some (.int .i64 (I : Int))) (by kernel_rfl) (by kernel_rfl) ?_ ⟨(Below.refl _ _).drew, k1⟩ (fun _ _ h g => ⟨h.1.trans (Below.mono g h.1.size), cell_grow h.2 g⟩) ?_
      · intro j mk rr hf z w1 w2 hr gr
        simp only [Free.find] at hf
        split at hf
        · cases hf
        · split at hf
          · cases hf; exact hr.below gr (Nat.le_refl _)
          · cases hf
      simp only [List.take_succ_cons, List.take_zero]
      clear k1
      iterate 4 (apply Free.chain_still (by first | exact Free.wanted_of rfl rfl rfl | rfl) rfl; (intro w' hB hA; obtain ⟨qB, r1⟩ := hB; clear hA  qB; go_light; go_simp <;> rfl); (try simp only [Act.put, List.setIfInBounds_toArray, List.set_cons_succ, List.set_cons_zero]))
      apply Free.chain_still (by first | exact Free.wanted_of rfl rfl rfl | rfl) rfl
      · intro w' hB hA
        exact exec_fac (x := y) rfl rfl (CE.out w' (HB6.out.trans (hB.1.mono HB6.out.size)))
      simp only [Act.put, List.setIfInBounds_toArray, List.set_cons_succ, List.set_cons_zero]
      iterate 3 (apply Free.chain_still (by first | exact Free.wanted_of rfl rfl rfl | rfl) rfl; (intro w' hB hA; obtain ⟨qB, r1⟩ := hB; clear hA  qB; go_light; go_simp <;> rfl); (try simp only [Act.put, List.setIfInBounds_toArray, List.set_cons_succ, List.set_cons_zero]))
      apply Free.chain_det (by first | exact Free.wanted_of rfl rfl rfl | rfl) rfl
      · intro w' hB hA
        refine Free.opRun_call (f := 30) (args := #[.slice B salts.length d, .int .i64 (I : Int)]) (by clear hB hA; go_simp <;> rfl) ?_
        refine (CS.out w' (HB6.out.trans (hB.1.mono HB6.out.size))).mono ?_
        rintro e w3 ⟨rfl, hb3⟩
        exact ⟨_, rfl, hb3, rfl⟩
      simp only [Act.put, List.setIfInBounds_toArray, List.set_cons_succ, List.set_cons_zero]
      iterate 5 (apply Free.chain_still (by first | exact Free.wanted_of rfl rfl rfl | rfl) rfl; (intro w' hB hA; obtain ⟨qB, r1⟩ := hB; clear hA  qB; go_light; go_simp <;> rfl); (try simp only [Act.put, List.setIfInBounds_toArray, List.set_cons_succ, List.set_cons_zero]))
      apply Free.chain_ind (by first | exact Free.wanted_of rfl rfl rfl | rfl) rfl
      · intro w' hB hA
        refine Free.opRun_call (f := 31) (args := #[.agg (encF y).toArray, .string st, .int .i64 (I : Int), .int .i64 (l.length : Int), .slice A2 p.length c2]) (by clear hB hA; go_simp <;> rfl) ?_
        refine (CU.out w' A2 c2 hc2' (HS46.out.below hB.1 (Nat.le_refl _))).mono ?_
        rintro e w3 ⟨⟨v, rfl, hown⟩, hb3⟩
        obtain ⟨g, cp, cur, rfl, _, _, _, hcp, _, _, hsl⟩ := own_at_texts hown TLB.out
        obtain ⟨z, rfl, rfl⟩ := pairN g cp hcp
        exact ⟨_, rfl, hb3, z, rfl, hsl⟩
      intro z
      simp only [Act.put, List.setIfInBounds_toArray, List.set_cons_succ, List.set_cons_zero]
      apply Free.chain_nil
      intro w7 hBz _ hh
      have hs7 : SL w7 1 encS (some ⟨fstN z, 0, none⟩) tb := hh _ List.mem_cons_self
      simp only [List.drop_succ_cons, List.drop_zero]
      have HB7 := Lib.hid (HB6.out.trans (hBz.1.mono HB6.out.size))
      have SAX := Lib.hid (HS6.out.below hBz.1 (Nat.le_refl _))
      have SBX := Lib.hid hs7
      have HST : Hid (RCl w7 ta tb (p.length + 1) (.int .i64 0) w7) := ⟨0, Nat.zero_le _, rfl, fun j _ _ h => absurd h (Nat.not_lt_zero _), Below.refl _ _⟩
      obtain ⟨M, eM⟩ : ∃ M, M = p.length + 1 := ⟨_, rfl⟩
      have TLA' := TLA.out
      have TLB' := TLB.out
      have hM41 : M ≤ 41 := by omega
      rw [← eM] at TLA' TLB' HST ⊢
      have TLAH := Lib.hid TLA'
      have TLBH := Lib.hid TLB'
      have HF := Lib.hid (HFOUND.out HNE.out)
      clear hh hBz hs7 CS CU CT CE HS6 HS46 eM TLA' TLB' HFOUND TLA TLB
      go_wp2_with fail
      go_loopw [13] (fun i wr => RCl w7 ta tb M i wr) (fun i _ => M - (intOf i).toNat)
      case atStart => exact HST.out
      case round =>
        clear HST
        obtain ⟨k, hk, rfl, hno, hbr⟩ := hrel
        by_cases hlt : k < M
        · obtain ⟨u, hu⟩ : ∃ u, ta[k]? = some u := ⟨_, List.getElem?_eq_getElem (by have := TLAH.out; omega)⟩
          obtain ⟨v, hv⟩ : ∃ v, tb[k]? = some v := ⟨_, List.getElem?_eq_getElem (by have := TLBH.out; omega)⟩
          obtain ⟨b1, o1, rfl, hcl1⟩ := (SAX.out.below hbr (Nat.le_refl _)).at_ hu
          obtain ⟨b2, o2, eb2, hcl2⟩ := (SBX.out.below hbr (Nat.le_refl _)).at_ hv
          cases eb2
          have d1 := hcl1 0 _ rfl
          have d2 := hcl2 0 _ rfl
          simp only [Nat.mul_one, Nat.add_zero, Nat.zero_add] at d1 d2
          have CX := Lib.hid (fun w => clash_any u v w (SHA.out u (List.mem_of_getElem? hu)) (SHB.out v (List.mem_of_getElem? hv)))
          obtain ⟨X, eX⟩ : ∃ X, X = clashB u v := ⟨_, rfl⟩
          rw [← eX] at CX
          have ki1 : (k : Int) < (M : Int) := by omega
          have k00 : (0 : Int) ≤ (k : Int) := by omega
          have HU := Lib.hid hu
          have HV := Lib.hid hv
          have EX := Lib.hid eX
          have HNO := Lib.hid hno
          have HBR := Lib.hid hbr
          clear hu hv hcl1 hcl2 eX hno hbr
          go_wp2_with fail
          refine Free.wp_region_free 9 [(8, .det (.bool X))] (fun y => Below wr.heap.size wr y ∧ y.cell? ⟨b1, o1 + k, none⟩ = some (.string u) ∧ y.cell? ⟨fstN z, k, none⟩ = some (.string v)) (by kernel_rfl) (by kernel_rfl) (Free.mono_det (fun j mk r hf => by simp only [Free.find] at hf; repeat' (first | cases hf | split at hf))) ⟨(Below.refl _ _).drew, d1, d2⟩ (fun _ _ h g => ⟨h.1.trans (Below.mono g h.1.size), cell_grow h.2.1 g, cell_grow h.2.2 g⟩) ?_
          simp only [List.take_succ_cons, List.take_zero]
          clear d1 d2
          iterate 8 (apply Free.chain_still (by first | exact Free.wanted_of rfl rfl rfl | rfl) rfl; (intro w' hB hA; obtain ⟨qB, r1, r2⟩ := hB; clear hA  qB; go_light; go_simp <;> rfl); (try simp only [Act.put, List.setIfInBounds_toArray, List.set_cons_succ, List.set_cons_zero]))
          apply Free.chain_det (by first | exact Free.wanted_of rfl rfl rfl | rfl) rfl
          · intro w' hB hA
            refine Free.opRun_call (f := 32) (args := #[.string u, .string v]) (by clear hB hA; go_simp <;> rfl) ?_
            refine (CX.out w').mono ?_
            rintro e w3 ⟨rfl, hb3⟩
            exact ⟨_, rfl, hb3, rfl⟩
          simp only [Act.put, List.setIfInBounds_toArray, List.set_cons_succ, List.set_cons_zero]
          apply Free.chain_nil
          intro wz hBz _ _
          simp only [List.drop_succ_cons, List.drop_zero]
          have LZ := Lib.hid (HBR.out.trans (hBz.1.mono HBR.out.size))
          clear hBz CX
          cases X with
          | true =>
            have L := Lib.hid (HB7.out.trans (LZ.out.mono HB7.out.size))
            clear EX
            go_wp2_with fail
            exact FIN.out _ L.out
          | false =>
            have KEY : Hid (RCl w7 ta tb M (.int .i64 ((k : Int) + 1)) wz) := ⟨k + 1, by omega, by go_num, fun j x y hj hx hy => by
              by_cases e : j = k
              · subst e
                rw [HU.out] at hx
                rw [HV.out] at hy
                cases hx; cases hy; exact EX.out.symm
              · exact HNO.out j x y (by omega) hx hy, LZ.out⟩
            clear EX
            go_wp2_with fail
            refine ⟨KEY.out, ?_⟩
            simp [intOf]; omega
        · exfalso
          obtain ⟨j, a, b, ha, hb, hc⟩ := HF.out
          have hj := (List.getElem?_eq_some_iff.1 ha).1
          have := hno j a b (by have := TLAH.out; omega) ha hb
          rw [this] at hc; cases hc
end Go.Proofs.YtamiaalfjmppaaaDoor
