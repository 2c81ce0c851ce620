/- The chain of the texts of facts (w21Sealed), walked. Condition: the variables of digest and of strconv hold their numbers. The non-vacuity check of the statements on facts that are sealed (w21Kept), walked. Condition: the variables of digest and of strconv hold their numbers. A region that draws its order, in a round of a range over a function: the rule of Free. Condition: the region defers nothing, and no way out is 'outgrown'. A range over a function, walked from plain contracts. No condition. The non-vacuity check of the statements on facts that are sealed (w21Kept), walked. Condition: the variables of digest and of strconv hold their numbers. Plain facts on Check: the first entry with an error; days. No condition. Plain facts on the text of a fact: its words, and that they are read again. No condition. Plain facts on a chain of the texts of facts of which one is changed. No condition. Package file: the words of a text, as an iterator. Condition: the library's variable MaxLen holds an integer. Package file: Parse. Condition: the library's variables hold what their types say. Facts: comparisons, arguments opened. No condition. Two entries compared, as the model does it. No condition. Plain facts on texts: a text names its entry but for the signature. No condition. The reference of layer 31: decimal. No condition. The reference of layer 31: the text of an entry. No condition. The reference of layer 31: the digest of an entry. No condition. -/
import Derived.Test.YtaaenobckipfkaaDoorFb1
import Derived.Test.YtaaenobckipfkaaDoorChO
import Derived.Test.YtaaenobckipfkaaDoorCh12
import Derived.Test.YtaaenobckipfkaaDoorFree
import Derived.OrdersIn
import Derived.RangeFuncCalls
import Derived.Laws.Tables
import Derived.Test.YtaaenobckipfkaaDoorBlk
import Derived.RangeFuncNested
import Derived.RangeFuncBound
import Derived.RangeFuncLeaves
import Derived.Shelf.Abstract
import Derived.Shelf.RegionOpen
import Derived.WalkKit
import Derived.OwnWalkIn
import Derived.TacticsInMore
import Derived.LoopNIn
import Derived.LoopIn
import Derived.Lib.IndexMore
import Derived.Lib.IndexBytes
import Derived.Lib.CutLaws
import Derived.Lib.AtoiAll
import Derived.Lib.AtoiAllCases
import Derived.Test.YtaaenobckipfkaaDoorCh8
import Derived.Test.YtaaenobckipfkaaDoorShelf2
import Derived.Maps.AppendAt
import Derived.RangeFuncBox
import Derived.Test.YtaaenobckipfkaaDoorApl
import Derived.Lib.SmallJoins
import Derived.Test.YtaaenobckipfkaaDoorSgQ
import Derived.Test.YtaaenobckipfkaaDoorRefG
namespace Go.Proofs.YtaaenobckipfkaaDoor
open Go.RowKit Go.Blk Go.Opn Go.Apl

/-- The chain of the texts of facts. -/
def sealGo (secret : Int) : List Fac → List E31 → Option (List E31)
  | [], out => some out
  | x :: r, out => if appE out 0 secret x.filed (bdF x) = 0 then sealGo secret r (out ++ [appN out 0 secret x.filed (bdF x)]) else none
theorem sealGo_cons (secret : Int) (x : Fac) (r : List Fac) (out : List E31) : sealGo secret (x :: r) out = if appE out 0 secret x.filed (bdF x) = 0 then sealGo secret r (out ++ [appN out 0 secret x.filed (bdF x)]) else none := rfl
theorem bdF_size {x : Fac} (h : x.Ok) : (bdF x).size ≤ 136 := bdP_size h 6
set_option maxRecDepth 100000 in
theorem exec_fact {o : Oper} {ρ : Operand → Value} {w : World} {a : Operand} {b off : Nat} {x : Fac} (ho : o.op = .load 24 a) (ha : ρ a = .pointer (some ⟨b, off, none⟩)) (hc : ∀ p u, (encF x)[p]? = some u → w.cell? ⟨b, off + p, none⟩ = some u) :
    (execOp ρ o).run Tryd.prog w = .ok (.value (.agg (encF x).toArray)) w := by
  obtain ⟨xr, xa, xl, xh, xf, xs⟩ := x
  have p0 := hc 0 _ rfl
  have p1 := hc 1 _ rfl
  have p2 := hc 2 _ rfl
  have p3 := hc 3 _ rfl
  have p4 := hc 4 _ rfl
  have p5 := hc 5 _ rfl
  simp only [Nat.add_zero] at p0 p1 p2 p3 p4 p5
  clear hc
  unfold execOp
  simp only [ho, ha]
  go_simp <;> rfl
def SealPost (w : World) (r : Option (List E31)) (e : Ending) (w' : World) : Prop := Below w.heap.size w w' ∧
  ((r = none ∧ e = .returned (.tuple #[.slice none 0 0, .bool false])) ∨ ∃ out A c, r = some out ∧ out.length ≤ c ∧ e = .returned (.tuple #[.slice A out.length c, .bool true]) ∧ SL w' 7 encE A out)
def RSE (w : World) (l : List Fac) (secret : Int) (R : Option (List E31)) (o i : Value) (wr : World) : Prop :=
  ∃ (k : Nat) (out : List E31) (A : Option Addr) (c : Nat), k ≤ l.length ∧ out.length = k ∧ k ≤ c ∧ i = .int .i64 k ∧ o = .slice A k c ∧ SL wr 7 encE A out ∧ Few out ∧ R = sealGo secret (l.drop k) out ∧ Below w.heap.size w wr
set_option maxRecDepth 100000 in
set_option maxHeartbeats 4000000 in
theorem seal_any (A : Option Addr) (c : Nat) (l : List Fac) (secret : Int) (w : World) (h : SL w 6 encF A l) (hl : l.length ≤ 1000) (ho : ∀ x ∈ l, x.Ok) (hT : HasT w) :
    Calls Tryd.prog 13 #[.slice A l.length c, .int .i64 secret] w (SealPost w (sealGo secret l [])) := by
  obtain ⟨R, eR⟩ : ∃ R, R = sealGo secret l [] := ⟨_, rfl⟩
  rw [← eR]
  have HST : Hid (RSE w l secret R (.slice none 0 0) (.int .i64 0) w) := ⟨0, [], none, 0, Nat.zero_le _, rfl, Nat.le_refl _, rfl, rfl, SL.nil, few_nil, by rw [eR]; rfl, Below.refl _ _⟩
  have HS := Lib.hid h
  have HO := Lib.hid ho
  have HT := Lib.hid hT
  clear h ho hT eR
  go_enter Tryd.func13, Tryd.ntmps13
  go_wp2_with fail
  go_loopw [6, 7] (fun o i wr => RSE w l secret R o i wr) (fun _ i _ => l.length - (intOf i).toNat)
  case atStart => exact HST.out
  case round =>
    clear HST
    obtain ⟨k, out, A', c', hk, hlen, hkc, rfl, rfl, hsl, hfew, hR, hbr⟩ := hrel
    by_cases hlt : k < l.length
    · obtain ⟨x, hx⟩ : ∃ x, l[k]? = some x := ⟨_, List.getElem?_eq_getElem hlt⟩
      have hxo := HO.out x (List.mem_of_getElem? hx)
      have hdrop : l.drop k = x :: l.drop (k + 1) := by
        obtain ⟨h1, rfl⟩ := List.getElem?_eq_some_iff.1 hx
        exact List.drop_eq_getElem_cons h1
      rw [hdrop] at hR
      obtain ⟨bb, off, rfl, hcl0⟩ := (HS.out.below hbr (Nat.le_refl _)).at_ hx
      have p4 := hcl0 4 _ rfl
      simp only [← Nat.add_assoc] at p4
      have CX : Hid (∀ w', Below w.heap.size w w' → ∀ p u, (encF x)[p]? = some u → w'.cell? ⟨bb, off + k * 6 + p, none⟩ = some u) := fun w' hb p u hu => by
        obtain ⟨_, _, e1, h1⟩ := (HS.out.below hb (Nat.le_refl _)).at_ hx
        cases e1
        rw [Nat.add_assoc]; exact h1 p u hu
      obtain ⟨bd, ebd⟩ : ∃ bd, bd = bdF x := ⟨_, rfl⟩
      have hbs : bd.size ≤ 136 := by rw [ebd]; exact bdF_size hxo
      have CB : Hid (∀ w', Below w.heap.size w w' → Calls Tryd.prog 16 #[.agg (encF x).toArray] w' fun e w2 => e = .returned (.string bd) ∧ Below w'.heap.size w' w2) := fun w' hb => by
        have := body_any x w' hxo (HT.out.below hb (Nat.le_refl _))
        rw [← ebd] at this; exact this
      have HSL := Lib.hid hsl
      have hki : (k : Int) < (l.length : Int) := by omega
      have k00 : (0 : Int) ≤ (k : Int) := by omega
      by_cases hE : appE out 0 secret x.filed bd = 0
      · have hR2 : R = sealGo secret (l.drop (k + 1)) (out ++ [appN out 0 secret x.filed bd]) := by rw [hR, sealGo_cons, ← ebd, if_pos hE]
        have CA : Hid (∀ w', SL w' 7 encE A' out → Below w.heap.size w w' → _) := fun w' hs hb => app_yes A' c' out 0 secret x.filed bd w' hs (by omega) (by omega) hfew (by decide) (by decide) hxo.f0 hxo.f1 (by omega) (HT.out.below hb (Nat.le_refl _)) hE
        have hfew2 := few_app (secret := secret) hfew (by omega) (show (-9223372036854775808 : Int) ≤ 0 by decide) (show (0 : Int) ≤ 9223372036854775807 by decide) hxo.f0 hxo.f1 (show bd.size ≤ 1000000000 by omega)
        obtain ⟨nw, enw⟩ : ∃ nw, nw = appN out 0 secret x.filed bd := ⟨_, rfl⟩
        rw [← enw] at hR2 CA hfew2
        rw [hlen] at CA
        have HR := Lib.hid hR2
        have HF := Lib.hid hfew2
        have HL := Lib.hid hlen
        obtain ⟨xf, exf⟩ : ∃ xf, xf = x.filed := ⟨_, rfl⟩
        rw [← exf] at CA
        have q4 : wr.cell? ⟨bb, off + k * 6 + 4, none⟩ = some (.int .i64 xf) := by rw [exf]; exact p4
        have HBR := Lib.hid hbr
        clear p4
        have p4 := q4
        clear q4 hsl hfew hR hbr hxo hdrop hcl0 hE hfew2 enw hR2 hlen hx ebd exf
        go_wp2_with fail
        refine Free.wp_region_free 18 [(11, .det (.string bd)), (12, .ind (fun b => .tuple #[.slice (some ⟨b, 0, none⟩) (k + 1) (k + 1), .int .i64 0]) (fun b w2 => SL w2 7 encE (some ⟨b, 0, none⟩) (out ++ [nw])))] (fun w2 => Below w.heap.size w w2 ∧ w2.cell? ⟨bb, off + k * 6 + 4, none⟩ = some (.int .i64 xf) ∧ SL w2 7 encE A' out) (by kernel_rfl) (by kernel_rfl) ?_ ⟨HBR.out.drew, p4, HSL.out.drew⟩ (fun _ _ h g => ⟨h.1.trans (Below.mono g h.1.size), grow_cell h.2.1 g, h.2.2.below g (Nat.le_refl _)⟩) ?_
        · intro j mk r hf y w1 w2 hr g
          simp only [Free.find] at hf
          repeat' split at hf
          all_goals (first | (cases hf; exact hr.below g (Nat.le_refl _)) | cases hf)
        simp only [List.take_succ_cons, List.take_zero]
        clear p4
        iterate 10 (apply Free.chain_still (by first | exact Free.wanted_of rfl rfl rfl | rfl) rfl; (intro w' hB hA; obtain ⟨qT, q4, qS⟩ := hB; clear hA  qT qS; go_light; go_simp <;> rfl); (try simp only [Act.put, List.setIfInBounds_toArray, List.set_cons_succ, List.set_cons_zero]))
        apply Free.chain_still (by first | exact Free.wanted_of rfl rfl rfl | rfl) rfl
        · intro w' hB hA
          exact exec_fact (x := x) rfl rfl (CX.out w' hB.1)
        simp only [Act.put, List.setIfInBounds_toArray, List.set_cons_succ, List.set_cons_zero]
        apply Free.chain_det rfl rfl
        · intro w' hB hA
          refine Free.opRun_call (f := 16) (args := #[.agg (encF x).toArray]) (by clear hB hA; go_simp <;> rfl) ?_
          refine (CB.out w' hB.1).mono ?_
          rintro e w3 ⟨rfl, hb3⟩
          exact ⟨_, rfl, hb3, rfl⟩
        simp only [Act.put, List.setIfInBounds_toArray, List.set_cons_succ, List.set_cons_zero]
        apply Free.chain_ind rfl rfl
        · intro w' hB hA
          refine Free.opRun_call (f := 26) (args := #[.slice A' k c', .int .i64 0, .int .i64 secret, .int .i64 xf, .string bd]) (by clear hB hA; go_simp <;> rfl) ?_
          refine (CA.out w' hB.2.2 hB.1).mono ?_
          rintro e w3 ⟨b, _, rfl, sl3, hb3⟩
          exact ⟨_, rfl, hb3, b, rfl, sl3⟩
        intro b
        simp only [Act.put, List.setIfInBounds_toArray, List.set_cons_succ, List.set_cons_zero]
        iterate 5 (apply Free.chain_still (by first | exact Free.wanted_of rfl rfl rfl | rfl) rfl; (intro w' hB hA; obtain ⟨qT, q4, qS⟩ := hB; clear hA  qT qS; go_light; go_simp <;> rfl); (try simp only [Act.put, List.setIfInBounds_toArray, List.set_cons_succ, List.set_cons_zero]))
        apply Free.chain_nil
        intro wy hBz _ hh
        have sl9 : SL wy 7 encE (some ⟨b, 0, none⟩) (out ++ [nw]) := hh _ List.mem_cons_self
        have KEY : Hid (RSE w l secret R (.slice (some ⟨b, 0, none⟩) (k + 1) (k + 1)) (.int .i64 ((k : Int) + 1)) wy) := ⟨k + 1, out ++ [nw], some ⟨b, 0, none⟩, k + 1, hlt, by rw [List.length_append, HL.out]; rfl, Nat.le_refl _, by go_num, rfl, sl9, HF.out, HR.out, hBz.1⟩
        simp only [List.drop_succ_cons, List.drop_zero]
        clear hBz hh sl9 CA CB CX HSL HBR HR HF HL
        go_wp2_with fail
        go_roundw
        case rel =>
          go_light
          have key := KEY.out
          first | exact key | ((repeat apply Exists.intro); exact ⟨key, rfl⟩)
        case measure => simp [intOf]; omega
      · have hR2 : R = none := by rw [hR, sealGo_cons, ← ebd, if_neg hE]
        obtain ⟨E, eE⟩ : ∃ E, E = appE out 0 secret x.filed bd := ⟨_, rfl⟩
        have CA : Hid (∀ w', SL w' 7 encE A' out → Below w.heap.size w w' → Calls Tryd.prog 26 #[.slice A' k c', .int .i64 0, .int .i64 secret, .int .i64 x.filed, .string bd] w' fun e w2 => e = .returned (.tuple #[.slice none 0 0, .int .i64 E]) ∧ Below w'.heap.size w' w2) := fun w' hs hb => by
          have := app_no A' c' out 0 secret x.filed bd E w' hs (by omega) (by omega) hfew (by decide) (by decide) hxo.f0 hxo.f1 (by omega) (HT.out.below hb (Nat.le_refl _)) eE.symm (by rw [eE]; exact hE)
          rw [hlen] at this; exact this
        have hcb : (E != 0) = true := by rw [eE]; simpa using hE
        have HR := Lib.hid hR2
        obtain ⟨xf, exf⟩ : ∃ xf, xf = x.filed := ⟨_, rfl⟩
        rw [← exf] at CA
        have q4 : wr.cell? ⟨bb, off + k * 6 + 4, none⟩ = some (.int .i64 xf) := by rw [exf]; exact p4
        have HBR := Lib.hid hbr
        clear p4
        have p4 := q4
        clear q4 hsl hfew hR hbr hxo hdrop hcl0 hE hR2 hlen hx ebd exf eE
        go_wp2_with fail
        refine Free.wp_region_free 18 [(11, .det (.string bd)), (12, .det (.tuple #[.slice none 0 0, .int .i64 E]))] (fun w2 => Below w.heap.size w w2 ∧ w2.cell? ⟨bb, off + k * 6 + 4, none⟩ = some (.int .i64 xf) ∧ SL w2 7 encE A' out) (by kernel_rfl) (by kernel_rfl) ?_ ⟨HBR.out.drew, p4, HSL.out.drew⟩ (fun _ _ h g => ⟨h.1.trans (Below.mono g h.1.size), grow_cell h.2.1 g, h.2.2.below g (Nat.le_refl _)⟩) ?_
        · intro j mk r hf
          simp only [Free.find] at hf
          repeat' split at hf
          all_goals (first | cases hf | skip)
        simp only [List.take_succ_cons, List.take_zero]
        clear p4
        iterate 10 (apply Free.chain_still (by first | exact Free.wanted_of rfl rfl rfl | rfl) rfl; (intro w' hB hA; obtain ⟨qT, q4, qS⟩ := hB; clear hA  qT qS; go_light; go_simp <;> rfl); (try simp only [Act.put, List.setIfInBounds_toArray, List.set_cons_succ, List.set_cons_zero]))
        apply Free.chain_still (by first | exact Free.wanted_of rfl rfl rfl | rfl) rfl
        · intro w' hB hA
          exact exec_fact (x := x) rfl rfl (CX.out w' hB.1)
        simp only [Act.put, List.setIfInBounds_toArray, List.set_cons_succ, List.set_cons_zero]
        apply Free.chain_det rfl rfl
        · intro w' hB hA
          refine Free.opRun_call (f := 16) (args := #[.agg (encF x).toArray]) (by clear hB hA; go_simp <;> rfl) ?_
          refine (CB.out w' hB.1).mono ?_
          rintro e w3 ⟨rfl, hb3⟩
          exact ⟨_, rfl, hb3, rfl⟩
        simp only [Act.put, List.setIfInBounds_toArray, List.set_cons_succ, List.set_cons_zero]
        apply Free.chain_det rfl rfl
        · intro w' hB hA
          refine Free.opRun_call (f := 26) (args := #[.slice A' k c', .int .i64 0, .int .i64 secret, .int .i64 xf, .string bd]) (by clear hB hA; go_simp <;> rfl) ?_
          refine (CA.out w' hB.2.2 hB.1).mono ?_
          rintro e w3 ⟨rfl, hb3⟩
          exact ⟨_, rfl, hb3, rfl⟩
        simp only [Act.put, List.setIfInBounds_toArray, List.set_cons_succ, List.set_cons_zero]
        iterate 5 (apply Free.chain_still (by first | exact Free.wanted_of rfl rfl rfl | rfl) rfl; (intro w' hB hA; obtain ⟨qT, q4, qS⟩ := hB; clear hA  qT qS; go_light; go_simp <;> rfl); (try simp only [Act.put, List.setIfInBounds_toArray, List.set_cons_succ, List.set_cons_zero]))
        apply Free.chain_nil
        intro wy hBz _ _
        have HBY := Lib.hid hBz.1
        simp only [List.drop_succ_cons, List.drop_zero]
        clear hBz CA CB CX HSL HBR
        go_wp2_with fail
        go_ret2
        exact ⟨HBY.out, .inl ⟨HR.out, rfl⟩⟩
    · obtain rfl : k = l.length := by omega
      have hki : ¬ ((l.length : Int) < (l.length : Int)) := by omega
      rw [List.drop_length] at hR
      have FIN : Hid (SealPost w R (.returned (.tuple #[.slice A' l.length c', .bool true])) wr) := ⟨hbr, .inr ⟨out, A', c', hR, by omega, by rw [hlen], hsl⟩⟩
      clear hbr hsl hR hfew hlen
      go_wp2_with fail
      go_ret2
      exact FIN.out
end Go.Proofs.YtaaenobckipfkaaDoor

namespace Go.Proofs.YtaaenobckipfkaaDoor
open Go.RowKit Go.Blk Go.Opn Go.Apl Go.Sg

def k1 : Fac := ⟨1, 0, 0, 2, 3, false⟩
def k2 : Fac := ⟨2, 0, 0, 2, 3, false⟩
def k3 : Fac := ⟨1, 0, 0, 2, 4, false⟩
theorem kok (r f : Int) (h : -9223372036854775808 ≤ r ∧ r ≤ 9223372036854775807 ∧ -9223372036854775808 ≤ f ∧ f ≤ 9223372036854775807) : (Fac.mk r 0 0 2 f false).Ok :=
  ⟨h.1, h.2.1, (show (-9223372036854775808 : Int) ≤ 0 by decide), (show (0 : Int) ≤ 9223372036854775807 by decide), (show (-9223372036854775808 : Int) ≤ 0 by decide), (show (0 : Int) ≤ 9223372036854775807 by decide), (show (-9223372036854775808 : Int) ≤ 2 by decide), (show (2 : Int) ≤ 9223372036854775807 by decide), h.2.2.1, h.2.2.2⟩
theorem fact_any (r f : Int) (w : World) : Calls Tryd.prog 31 #[.int .i64 r, .int .i64 f] w fun e w' => e = .returned (.agg #[.int .i64 r, .int .i64 0, .int .i64 0, .int .i64 2, .int .i64 f, .bool false]) ∧ Below w.heap.size w w' := by
  go_enter Tryd.func31, Tryd.ntmps31
  go_wp2_with fail
  refine bodyPost_ret (v := .agg #[.int .i64 r, .int .i64 0, .int .i64 0, .int .i64 2, .int .i64 f, .bool false]) (by simp [results, Tryd.results31, go_sem]) rfl ⟨rfl, ?_⟩
  exact (Below.refl _ _).alloc (Nat.le_refl _) _
def kt1 : ByteArray := ⟨#[101, 110, 116, 114, 121, 32, 48, 32, 48, 32, 51, 32, 48, 32, 102, 97, 99, 116, 32, 49, 32, 48, 32, 48, 32, 50, 32, 51, 32, 48]⟩
def kt3 : ByteArray := ⟨#[101, 110, 116, 114, 121, 32, 48, 32, 48, 32, 51, 32, 48, 32, 102, 97, 99, 116, 32, 49, 32, 48, 32, 48, 32, 50, 32, 52, 32, 48]⟩
theorem dec1 : dec 1 = ⟨#[49]⟩ := (dec_small 1 (by decide)).trans rfl
theorem dec2 : dec 2 = ⟨#[50]⟩ := (dec_small 2 (by decide)).trans rfl
theorem dec4 : dec 4 = ⟨#[52]⟩ := (dec_small 4 (by decide)).trans rfl
theorem bd_form (r f : Int) : bdF ⟨r, 0, 0, 2, f, false⟩ = ⟨#[102, 97, 99, 116]⟩ ++ (⟨#[32]⟩ ++ dec r) ++ (⟨#[32]⟩ ++ dec 0) ++ (⟨#[32]⟩ ++ dec 0) ++ (⟨#[32]⟩ ++ dec 2) ++ (⟨#[32]⟩ ++ dec f) ++ (⟨#[32]⟩ ++ dec 0) := rfl
theorem bd1 : bdF k1 = ⟨#[102, 97, 99, 116, 32, 49, 32, 48, 32, 48, 32, 50, 32, 51, 32, 48]⟩ := by
  unfold k1; rw [bd_form, dec0, dec1, dec2, dec3]; decide +kernel
theorem bd3 : bdF k3 = ⟨#[102, 97, 99, 116, 32, 49, 32, 48, 32, 48, 32, 50, 32, 52, 32, 48]⟩ := by
  unfold k3; rw [bd_form, dec0, dec1, dec2, dec4]; decide +kernel
theorem kt_is (b : ByteArray) (r s : Int) : txE ⟨0, 0, 3, ⟨#[]⟩, b, r, s⟩ = ⟨([101, 110, 116, 114, 121] ++ [32] ++ (dec 0).data.toList ++ [32] ++ (dec 0).data.toList ++ [32] ++ (dec 3).data.toList ++ [32] ++ (dec 0).data.toList ++ [32] ++ [] ++ b.data.toList : List UInt8).toArray⟩ := rfl
theorem kt1_is (r s : Int) : txE ⟨0, 0, 3, ⟨#[]⟩, bdF k1, r, s⟩ = kt1 := by
  rw [kt_is, dec0, dec3, bd1]; rfl
theorem kt3_is (r s : Int) : txE ⟨0, 0, 3, ⟨#[]⟩, bdF k3, r, s⟩ = kt3 := by
  rw [kt_is, dec0, dec3, bd3]; rfl
theorem decK : dec 913364817 = ⟨#[57, 49, 51, 51, 54, 52, 56, 49, 55]⟩ := by
  have h1 := dec_big 913364817 (by decide)
  have h2 := dec_big 91336481 (by decide)
  have h3 := dec_big 9133648 (by decide)
  have h4 := dec_big 913364 (by decide)
  have h5 := dec_big 91336 (by decide)
  have h6 := dec_big 9133 (by decide)
  have h7 := dec_big 913 (by decide)
  have h8 := dec_big 91 (by decide)
  have h9 := dec_small 9 (by decide)
  simp only [Nat.reduceDiv, Nat.reduceMod] at h1 h2 h3 h4 h5 h6 h7 h8
  refine h1.trans ?_
  rw [h2, h3, h4, h5, h6, h7, h8, h9]; decide +kernel
theorem k5k : sgK 5 kt1 = 640032778 := by
  unfold sgK sgT
  rw [dec5]; kernel_rfl
theorem r5k : sgR 5 kt1 = 913364817 := by
  unfold sgR
  rw [k5k]; exact (pw7_small 640032778 (by decide)).trans (by decide +kernel)
theorem c5k : chal 913364817 16807 kt1 = 817559878 := by
  unfold chal chT
  rw [decK, decY]; kernel_rfl
theorem c5l : chal 913364817 16807 kt3 = 914406395 := by
  unfold chal chT
  rw [decK, decY]; kernel_rfl
theorem s5k : sgS 5 kt1 = 432864876 := by
  unfold sgS
  rw [pubV5, r5k, k5k, c5k]; rfl
theorem ver_k : verB 16807 kt3 (sgR 5 kt1) (sgS 5 kt1) = false := by
  rw [r5k, s5k]
  unfold verB
  rw [c5l]
  have e1 : power 7 432864876 = 912548365 := (pw7_small 432864876 (by decide)).trans (by decide +kernel)
  have e2 : power 16807 914406395 = 395913768 := (pwY 914406395 (by decide)).trans (by decide +kernel)
  rw [e1, e2]; decide
def ka : E31 := appN [] 0 5 3 (bdF k1)
def kb : E31 := appN [ka] 0 5 3 (bdF k2)
def kd : E31 := ⟨0, 0, 3, ⟨#[]⟩, bdF k3, ka.r, ka.s⟩
theorem misp_k (l : List E31) (d : Int) (b : ByteArray) (hl : l.length < 4000) (hb : b.size ≤ 2000) (hd : 0 ≤ d ∧ d ≤ 2000) (hp : ordB l ⟨0, l.length, d, ⟨#[]⟩, b, 0, 0⟩ = true) : misp l (nx0 l 0 d b) 0 = 0 := by
  unfold misp nx0
  rw [if_pos, if_pos, if_pos hp]
  · unfold argB
    simp [hd.1, hd.2]
  · unfold limB
    simp; omega
theorem kE1 : appE [] 0 5 3 (bdF k1) = 0 := by
  unfold appE
  rw [if_pos sec5, if_pos (show (chk [] 0 (pubV 5)).1 = 0 by rw [pubV5]; decide)]
  exact misp_k [] 3 _ (by decide) (by rw [bd1]; decide) (by decide) rfl
theorem kC1 : (chk [ka] 0 (pubV 5)).1 = 0 := by
  have h := app_chk kE1
  rw [List.nil_append] at h
  unfold ka; exact h
theorem kE2 : appE [ka] 0 5 3 (bdF k2) = 0 := by
  unfold appE
  rw [if_pos sec5, if_pos kC1]
  have := bdF_size (kok 2 3 (by decide))
  exact misp_k [ka] 3 _ (by simp) (by unfold k2; omega) (by decide) (show decide ((3 : Int) ≤ 3) = true from rfl)
theorem kseal : sealGo 5 [k1, k2] [] = some [ka, kb] := by
  rw [sealGo_cons, show k1.filed = 3 from rfl, if_pos kE1, sealGo_cons, show k2.filed = 3 from rfl, if_pos (show appE ([] ++ [appN [] 0 5 3 (bdF k1)]) 0 5 3 (bdF k2) = 0 from kE2)]; rfl
theorem kCm : chk [ka, kb] 0 16807 = (0, -1) := by
  have := chk_ok (app_chk kE2)
  rw [pubV5] at this; exact this
theorem ka_r : ka.r = sgR 5 kt1 := by
  show sgR 5 (txE (nxE [] 0 3 (bdF k1))) = _
  rw [show txE (nxE [] 0 3 (bdF k1)) = txE ⟨0, 0, 3, ⟨#[]⟩, bdF k1, 0, 0⟩ from rfl, kt1_is]
theorem ka_s : ka.s = sgS 5 kt1 := by
  show sgS 5 (txE (nxE [] 0 3 (bdF k1))) = _
  rw [show txE (nxE [] 0 3 (bdF k1)) = txE ⟨0, 0, 3, ⟨#[]⟩, bdF k1, 0, 0⟩ from rfl, kt1_is]
theorem kCx_gen (r s : Int) (yb : E31) (hv : verB 16807 kt3 r s = false) : chk [⟨0, 0, 3, ⟨#[]⟩, bdF k3, r, s⟩, yb] 0 16807 = (17, 0) := by
  obtain ⟨x, ex⟩ : ∃ x : E31, x = ⟨0, 0, 3, ⟨#[]⟩, bdF k3, r, s⟩ := ⟨_, rfl⟩
  rw [← ex]
  have h1 : chk1 [x, yb] 0 x 0 16807 = 17 := by
    unfold chk1
    have e1 : verB 16807 (txE x) x.r x.s = false := by
      rw [ex, kt3_is]; exact hv
    have e2 : misp (List.take 0 [x, yb]) x 0 = 0 := by
      rw [ex]
      exact misp_k [] 3 (bdF k3) (by decide) (by rw [bd3]; decide) (by decide) rfl
    rw [e1, e2, if_pos rfl]
    split <;> rfl
  have := chkGo_bad (l := [x, yb]) (house := 0) (pub := 16807) (n := 1) (k := 0) (e := x) rfl (by rw [h1]; decide)
  rw [h1] at this
  unfold chk
  rw [if_pos (by decide), show [x, yb].length = 1 + 1 from rfl, this]; rfl
theorem kCx : chk [kd, kb] 0 16807 = (17, 0) := kCx_gen ka.r ka.s kb (by rw [ka_r, ka_s]; exact ver_k)
theorem few_ka : Few [ka] := few_app (l := []) few_nil (by decide) (by decide) (by decide) (by decide) (by decide) (by rw [bd1]; decide)
theorem few_kb : Few [ka, kb] := few_app (l := [ka]) few_ka (by decide) (by decide) (by decide) (by decide) (by decide) (by have := bdF_size (kok 2 3 (by decide)); unfold k2; omega)
theorem few_kd : Few [kd, kb] := by
  intro e he
  simp only [List.mem_cons, List.not_mem_nil, or_false] at he
  rcases he with rfl | rfl
  · obtain ⟨o, h1, h2⟩ := few_kb ka (by simp)
    refine ⟨⟨by decide, by decide, by decide, by decide, by decide, by decide, o.r0, o.r1, o.s0, o.s1, by decide, by show (bdF k3).size ≤ _; rw [bd3]; decide⟩, by decide, by show (bdF k3).size ≤ _; rw [bd3]; decide⟩
  · exact few_kb _ (by simp)
end Go.Proofs.YtaaenobckipfkaaDoor

namespace Go.Free
open Go Go.RowKit

def noDef (ops : Array Oper) : Bool := ops.all fun o => match o.op with
  | .defer _ => false
  | _ => true
theorem noDef_at {ops : Array Oper} (h : noDef ops = true) {i : Nat} {o : Oper} (ho : ops[i]? = some o) : ∀ c, o.op ≠ .defer c := by
  intro c hc
  unfold noDef at h
  rw [Array.all_eq_true] at h
  obtain ⟨hi, rfl⟩ := Array.getElem?_eq_some_iff.1 ho
  have := h i hi
  rw [hc] at this
  cases this
section
variable {P : Program} {l0 m : Nat}
theorem rows_in {row : String} {args : Array Value} {w : World} {R : Value → World → Prop} (h : Rows P row args w R) : RowsIn (Fence.wide.inRound l0) m P row args w R :=
  fun c cs _ => let ⟨v, w', r, s⟩ := h c cs; ⟨v, w', r, stepsIn_wide.2 s⟩
theorem calls_in {f : FuncId} {args : Array Value} {w : World} {R : Ending → World → Prop} (h : Calls P f args w R) : CallsIn (Fence.wide.inRound l0) m P f args w R :=
  CallsIn.inRound l0 (callsIn_wide.2 h)
theorem op_in {o : Oper} {a : Act} {w : World} {next next' : Act → World → Prop} {Q : Exit → Act → World → Prop} (hd : ∀ c, o.op ≠ .defer c) (hn : ∀ a w, next a w → next' a w) (h : o.wp P a w next Q) :
    o.wpIn (Fence.wide.inRound l0) m P a w next' Q := by
  refine ⟨fun _ _ => trivial, ?_⟩
  rw [Fence.inRound_round, Oper.semAt_some _ _ _ hd]
  unfold Oper.wp at h
  generalize (execOp a.eval o).run P w = r at h ⊢
  cases r with
  | halt x w' => cases x <;> first | exact h | exact h.elim
  | ok x w' =>
    cases x with
    | value v => exact hn _ _ h
    | skip => exact hn _ _ h
    | defer d => exact hn _ _ h
    | enter f args =>
      refine ⟨fun e => by simp [Fence.inRound, Fence.wide] at e, calls_in (Calls.mono h ?_)⟩
      intro e w2 he
      cases e <;> first | exact hn _ _ he | exact he
    | row r args =>
      refine ⟨fun e => by simp [Fence.inRound, Fence.wide] at e, rows_in (Rows.mono h ?_)⟩
      intro e w2 he
      exact hn _ _ he
    | _ => exact h.elim
theorem any_in {md : Region.Mode} {ops : Array Oper} {Q : Exit → Act → World → Prop} (hd : noDef ops = true) (hno : ∀ a w, ¬ Q .outgrown a w) :
    ∀ fuel listed a w, wpAny P md ops Q fuel listed a w → wpAnyIn (Fence.wide.inRound l0) m P md ops Q fuel listed a w := by
  intro fuel
  induction fuel with
  | zero => exact fun _ _ _ h => h
  | succ fuel ih =>
    rintro listed a w ⟨h0, h1⟩
    refine ⟨h0, fun i hi => ?_⟩
    have h2 := h1 i hi
    unfold wpOp at h2
    unfold wpOpIn
    cases ho : ops[i]? with
    | none => rw [ho] at h2; exact ih _ _ _ h2
    | some o =>
      rw [ho] at h2
      dsimp only at h2 ⊢
      split at h2
      · rename_i hw
        rw [if_pos hw]
        rcases h2 with h2 | ⟨_, a2, w2, hl⟩
        · exact op_in (noDef_at hd ho) (fun a w h => ih _ _ _ h) h2
        · exact absurd hl (hno a2 w2)
      · rename_i hw
        rw [if_neg hw]
        exact ⟨fun _ _ => trivial, ih _ _ _ h2⟩
end
section
variable {P : Program}
theorem any_region_free {Q : Exit → Act → World → Prop} {a : Act} {w : World} {l : List Oper} (n : Nat) (Rs : List (Nat × Loud)) (B : World → Prop)
    (hok : okFree l.toArray n = true) (hmono : LoudMono Rs) (hB0 : B w.drew) (hBm : ∀ w w', B w → Grow w w' → B w')
    (h : chain P l.toArray (Region.before l.toArray) Rs B (fun a' hs => ∀ w', B w' → Grow w.drew w' → (∀ p ∈ hs, p.2 w') → wpList P l.toArray Q (l.drop n) a' w') (l.take n) 0 a []) :
    wpAny P .any l.toArray Q l.toArray.size (Array.replicate l.toArray.size false) a w.drew := by
  have ok := OK.of hok
  have hle : n ≤ l.length := by simpa using ok.le
  have hall : ∀ u, ∃ v, (∀ j, j < n → StepT P l.toArray (Region.before l.toArray) Rs B a n u v j) ∧ (∀ w', B w' → Grow w.drew w' → (∀ p ∈ hist l.toArray Rs a n u v n, p.2 w') → wpList P l.toArray Q (l.toArray.toList.drop n) (frm l.toArray a v (fun i => decide (i < n)) n) w') := by
    intro u
    have e0 : frm l.toArray a (fun _ => undef) (fun i => decide (i < 0)) n = a := by
      rw [frm_lt _ 0 n (by omega)]; rfl
    exact chain_out ok.le u (l.take n) 0 (fun _ => undef) (by simp; omega) (fun j hj => by
      have : j < n := by simp at hj; omega
      simp [this]) (fun j hj => by omega) (by rw [e0]; exact h)
  have inv0 : HeadInv .any l.toArray n (Array.replicate l.toArray.size false) :=
    ⟨by simp, fun j oj _ hl => (by rw [getD_replicate_false] at hl; cases hl), fun t _ ht => getD_in (by simpa using ht) (getD_replicate_false _ _)⟩
  obtain ⟨v, tr, _⟩ := hall (fun _ => 0)
  have hleft : left (Array.replicate l.toArray.size false) n = n := by
    unfold left
    have : (List.range n).countP (fun j => !(Array.replicate l.toArray.size false).getD j false) = (List.range n).length := List.countP_eq_length.2 (fun j _ => by rw [getD_replicate_false]; rfl)
    rw [this]; simp
  have J0 : J P l.toArray (Region.before l.toArray) Rs B a n w.drew (fun _ => 0) v (Array.replicate l.toArray.size false) a w.drew := by
    refine ⟨inv0, tr, ?_, hB0, Grow.refl _, fun j hj hl => (by rw [getD_replicate_false] at hl; cases hl)⟩
    have : (fun j => (Array.replicate l.toArray.size false).getD j false) = fun i => decide (i < 0) := by funext j; rw [getD_replicate_false]; simp
    rw [this, frm_lt _ 0 n (by omega)]; rfl
  have := region_free (w0 := w.drew) (Q := Q) ok hmono hBm hall n _ a w.drew hleft ⟨_, v, J0⟩
  rw [show n + (l.toArray.size - n) = l.toArray.size by simp; omega] at this
  exact this
/-- THE RULE in a round. -/
theorem wpIn_region_free {id l0 m : Nat} {Q : Exit → Act → World → Prop} {a : Act} {w : World} {l : List Oper} (n : Nat) (Rs : List (Nat × Loud)) (B : World → Prop)
    (hm : P.follows .mixedOrders = true) (hok : okFree l.toArray n = true) (hnd : noDef l.toArray = true) (hno : ∀ a w, ¬ Q .outgrown a w) (hmono : LoudMono Rs) (hB0 : B w.drew) (hBm : ∀ w w', B w → Grow w w' → B w')
    (h : chain P l.toArray (Region.before l.toArray) Rs B (fun a' hs => ∀ w', B w' → Grow w.drew w' → (∀ p ∈ hs, p.2 w') → wpList P l.toArray Q (l.drop n) a' w') (l.take n) 0 a []) :
    (Code.region id l.toArray true).wpIn (Fence.wide.inRound l0) m P Q a w :=
  wpIn_region_any hm (any_in hnd hno _ _ _ _ (any_region_free n Rs B hok hmono hB0 hBm h))
/-- One operation by a plain law. -/
theorem listIn_plain {l0 m : Nat} {ops : Array Oper} {Q : Exit → Act → World → Prop} {a : Act} {w : World} {o : Oper} {rest : List Oper} (hg : o.guard = none) (hd : ∀ c, o.op ≠ .defer c)
    (h : o.wp P a w (wpListIn (Fence.wide.inRound l0) m P ops Q rest) Q) : wpListIn (Fence.wide.inRound l0) m P ops Q (o :: rest) a w := by
  unfold wpListIn
  rw [if_pos (by simp [Region.wanted, hg])]
  exact op_in hd (fun _ _ h => h) h
theorem listIn_store_row {l0 m : Nat} {ops : Array Oper} {rest : List Oper} {o : Oper} {a : Act} {w : World} {Q : Exit → Act → World → Prop} (hgd : o.guard = none) (ty : TypeId) (x y : Operand) (ho : o.op = .store ty x y)
    (g : Nat) (cells : Array Value) (hx : a.eval x = .pointer (some ⟨g, 0, none⟩)) (hy : a.eval y = .agg cells)
    (t : TypeId) (old : Array Value) (hg : w.heap[g]? = some (.cells old t (0, 0))) (hi : (P.info? ty).map (·.size) = some cells.size)
    (hold : old.size = cells.size) (h1 : cells.all (·.oneCell') = true)
    (h : wpListIn (Fence.wide.inRound l0) m P ops Q rest (a.put o.dst undef) (w.setRow g cells)) : wpListIn (Fence.wide.inRound l0) m P ops Q (o :: rest) a w :=
  listIn_plain hgd (by rw [ho]; exact fun c hc => by cases hc) (wp_store_row ty x y ho g cells hx hy t old hg hi hold h1 h)
end
end Go.Free

namespace Go.Rf
open Go Go.RowKit

theorem grown_of {w w' : World} (h : Below w.heap.size w w') : w.grownBy w' none := ⟨h.os, h.tape, h.output, h.size, fun k hk _ => h.block k hk⟩
theorem abide {β : Type} {B : Nat} {J : β → World → Prop} (hJ : AbidesFrom B J) {s : β} {w w' : World} (h : J s w) (hb : Below w.heap.size w w') : J s w' :=
  hJ s w w' none h (grown_of hb) (fun _ e => by cases e)
theorem own_below {β : Type} {B : Nat} {I : β → World → Prop} (hI : OwnFrom B I) {s : β} {w w' : World} (h : I s w) (hb : Below w.heap.size w w') : I s w' :=
  hI s w w' none h (grown_of hb) (fun _ e => by cases e)
theorem keeps_of {w w' : World} (h : Below w.heap.size w w') : KeepsOthers w w' := ⟨h.size, fun k _ hk _ => (h.block k (Array.getElem?_eq_some_iff.1 hk).1).trans hk⟩
theorem drewN_below (w : World) (n : Nat) : Below w.heap.size w (w.drewN n) := ⟨rfl, rfl, rfl, Nat.le_refl _, fun _ _ => rfl⟩
/-- What a round keeps: everything below n, and whatever is no cells. -/
theorem from_mix {B : Nat} {w w' : World} (hs : w.heap.size ≤ w'.heap.size) (h : ∀ k o, B ≤ k → w.heap[k]? = some o → o.isCells = false → w'.heap[k]? = some o) : KeepsFrom B w w' := ⟨hs, h⟩
theorem new_at {W : World} {o : Obj} {n : Nat} (h : n = W.heap.size) : (W.alloc o).heap[n]? = some o := by subst h; exact World.alloc_heap_new W _
theorem old_at {W : World} {o o' : Obj} {n : Nat} (h : W.heap[n]? = some o) : (W.alloc o').heap[n]? = some o := (Below.heap_alloc W o' n (Array.getElem?_eq_some_iff.1 h).1).trans h
/-- The whole function in plain words, where it ends by marks. -/
theorem calls_marks {P : Program} {f : FuncId} {fn : Func} {c : Code} {args : Array Value} {w : World} {R : Ending → World → Prop} (n : Nat)
    (hf : P.funcs[f]? = some fn) (hb : fn.body = some c) (h : c.wp P (bodyPostM Fence.wide n P fn R) { tmps := args ++ Array.replicate (fn.ntmps - args.size) undef, defers := [] } w) : Calls P f args w R :=
  (callsIn_wide (n := n)).1 (callsIn_of_wp_marks hf hb trivial (wpIn_wide.2 h) rfl)
/-- The range, in plain words but for its body. -/
theorem wp_range {P : Program} (n : Nat) (h1 : 1 ≤ n) {α : Type} {g : Operand} {ps : Array Tmp} {assign body : Code} {Q : Exit → Act → World → Prop} {a : Act} {w : World}
    {gf : Nat} {lb : Array Value} (hg : a.eval g = .func (.func gf) #[] lb) (eg : ∀ args w, (callFunc gf args).run P w = .ok (.enter gf args) w)
    {encs : α → Array Value} {n0 : Nat} {S Sp : List α → Prop} {N : Nat} (hn0 : n0 ≤ w.heap.size) (hseq : SeqStopsK Fence.wide (n - 1) P gf lb encs (Below n0) S Sp N w) (hps : ∀ x, (encs x).size = ps.size)
    (I : List α → World → Prop) (Ix : Code → List α → World → Prop) (hI : OwnFrom w.heap.size I) (hIx : ∀ c, OwnFrom w.heap.size (Ix c)) (h0 : I [] w) (a₁ : α → Act)
    (hassign : ∀ (l : Nat) (x : α) (W : World) (K : Act → World → Prop), K (a₁ x) W →
      assign.wpIn (Fence.wide.inRound l) (n - 1 - 1) P (Exit.then K (fun _ _ _ => False)) { tmps := (ps.zip (encs x)).foldl (fun t (p, v) => t.setIfInBounds p v) a.tmps, defers := [] } W)
    (hbody : ∀ (l : Nat) (pre : List α) (x : α) (W : World), I pre W → pre.length < N → body.wpIn (Fence.wide.inRound l) (n - 1 - 1) P (ownPostG w.heap.size (Below n0) I Ix (pre ++ [x]) W) (a₁ x) W)
    (hdone : ∀ (D : Nat) (xs : List α) (W : World), w.heap.size ≤ D → S xs → I xs W → W.heap[D]? = some (.deferred (some [])) → Q .normal { a with defers := { target := .collected D, args := #[] } :: a.defers } W)
    (hstop : ∀ (D : Nat) (c : Code) (pre : List α) (W : World), w.heap.size ≤ D → Sp pre → Ix c pre W → W.heap[D]? = some (.deferred (some [])) → c.wp P Q { a with defers := { target := .collected D, args := #[] } :: a.defers } W) :
    (Code.rangeFunc g ps assign body).wp P Q a w :=
  (wpIn_wide (n := n)).1 (wpIn_rangeFunc_ownG rfl h1 hg trivial eg hseq (fun h k => h.trans (k.mono (Nat.le_refl _))) (fun W l o o' hl ho hc hw => belowK_b hn0 W l o o' hl ho hc hw) (Below.refl _ _) hps I Ix hI hIx h0 a₁ hassign hbody hdone (fun D c pre W h1 h2 h3 h4 => wpIn_wide.2 (hstop D c pre W h1 h2 h3 h4)))
end Go.Rf

namespace Go.Proofs.YtaaenobckipfkaaDoor
open Go.RowKit Go.Blk Go.Opn Go.Apl Go.Sg

theorem encF_len (x : Fac) : (encF x).length = 6 := rfl
set_option maxRecDepth 100000 in
set_option maxHeartbeats 4000000 in
theorem kept_any (w : World) (hT : HasT w) : Calls Tryd.prog 12 #[] w fun e w' => e = .returned (.bool true) ∧ Below w.heap.size w w' := by
  have C1 : Hid (∀ w b, HasT w → SL w 6 encF (some ⟨b, 0, none⟩) [k1, k2] → Calls Tryd.prog 13 #[.slice (some ⟨b, 0, none⟩) 2 2, .int .i64 5] w fun e w' => Below w.heap.size w w' ∧ ∃ A c, 2 ≤ c ∧ e = .returned (.tuple #[.slice A 2 c, .bool true]) ∧ SL w' 7 encE A [ka, kb]) := fun w b hT h => by
    refine (seal_any (some ⟨b, 0, none⟩) 2 [k1, k2] 5 w h (by decide) (fun x hx => by
      simp only [List.mem_cons, List.not_mem_nil, or_false] at hx
      rcases hx with rfl | rfl
      · exact kok 1 3 (by decide)
      · exact kok 2 3 (by decide)) hT).mono ?_
    rw [kseal]
    rintro e w' ⟨hb, ⟨h1, _⟩ | ⟨out, A, c, h1, h2, rfl, h4⟩⟩
    · cases h1
    · cases h1
      exact ⟨hb, A, c, h2, rfl, h4⟩
  have C5 : Hid (∀ w A c, 2 ≤ c → HasT w → SL w 7 encE A [ka, kb] → Calls Tryd.prog 17 #[.slice A 2 c, .int .i64 0, .int .i64 16807] w (ChkPost w (0, -1))) := fun w A c hc hT h => by
    have := check_any A c [ka, kb] 0 16807 w h (by simp) (by simpa using hc) few_kb hT
    rw [kCm] at this; exact this
  have C6 : Hid (∀ w A c, 2 ≤ c → HasT w → SL w 7 encE A [kd, kb] → Calls Tryd.prog 17 #[.slice A 2 c, .int .i64 0, .int .i64 16807] w (ChkPost w (17, 0))) := fun w A c hc hT h => by
    have := check_any A c [kd, kb] 0 16807 w h (by simp) (by simpa using hc) few_kd hT
    rw [kCx] at this; exact this
  obtain ⟨B3, eB3⟩ : ∃ B3, B3 = bdF k3 := ⟨_, rfl⟩
  have C7 : Hid (∀ w, HasT w → Calls Tryd.prog 16 #[.agg #[.int .i64 1, .int .i64 0, .int .i64 0, .int .i64 2, .int .i64 4, .bool false]] w fun e w' => e = .returned (.string B3) ∧ Below w.heap.size w w') := fun w hT => by
    have := body_any k3 w (kok 1 4 (by decide)) hT
    rw [← eB3] at this; exact this
  have HT := Lib.hid hT
  have EB3 := Lib.hid eB3
  clear hT eB3
  go_enter Tryd.func12, Tryd.ntmps12
  go_wp2_with fail
  refine (fact_any _ _ _).mono ?_
  rintro e w1 ⟨rfl, bl1⟩
  have L1 := Lib.hid bl1
  clear bl1
  go_wp2_with fail
  refine (fact_any _ _ _).mono ?_
  rintro e w2 ⟨rfl, bl2⟩
  have L2 := Lib.hid (L1.out.trans (bl2.mono L1.out.size))
  have T2 := Lib.hid (HT.out.below L2.out (Nat.le_refl _))
  clear bl2 L1 HT
  go_wp2_with fail
  have S0 : SL (w2.alloc (.cells #[.int .i64 1, .int .i64 0, .int .i64 0, .int .i64 2, .int .i64 3, .bool false, .int .i64 2, .int .i64 0, .int .i64 0, .int .i64 2, .int .i64 3, .bool false] 24)) 6 encF (some ⟨w2.heap.size, 0, none⟩) [k1, k2] :=
    sl_of_cells encF_len (Rf.new_at rfl) (fun j u hu => by simpa [encF, k1, k2] using hu)
  refine (C1.out _ _ (T2.out.alloc _) S0).mono ?_
  rintro e w3 ⟨bl3, A3, c3, hc3, rfl, sl3⟩
  have S3 := Lib.hid sl3
  have L3 : Hid (Below w.heap.size w w3) := by
    have h1 : Below w.heap.size w (w2.alloc (.cells #[.int .i64 1, .int .i64 0, .int .i64 0, .int .i64 2, .int .i64 3, .bool false, .int .i64 2, .int .i64 0, .int .i64 0, .int .i64 2, .int .i64 3, .bool false] 24)) := L2.out.alloc L2.out.size _
    exact h1.trans (bl3.mono h1.size)
  have T3 := Lib.hid ((T2.out.alloc _).below bl3 (Nat.le_refl _))
  clear bl3 sl3 S0 T2 L2 C1
  obtain ⟨i0, hi, hz0, hz1, hz2⟩ := info_parts infoE
  go_wp2_with (at_builtin; refine wpList_append_list rfl (.tmp 22) (.tmp 23) 26 rfl w3.heap.size 37 i0 _ 72 Tryd.underlying26 hi hz0 hz1 hz2 rfl (by decide) encE_len encE_one _ 0 [] rfl (World.ownsRow_made w3 #[] 0 (Nat.le_refl _) (by decide) rfl) A3 c3 [ka, kb] rfl (S3.out.alloc _) (by decide) (by decide) (by simp) ?_)
  intro v' w6 hown hgr _
  obtain ⟨g, cap, cur, rfl, hg1, hg2, hg3, hg4, hg5, hsl⟩ := own_at (l := [ka, kb]) encE_len (by simpa using hown) (by simp)
  have bl6 : Below w3.heap.size w3 w6 := ⟨hgr.os, hgr.tape, hgr.output, by have := hgr.size; simp at this; omega, fun k hk => (hgr.block k (by simp; omega) (by simp [Value.ownBlock]; omega)).trans (Below.heap_alloc w3 _ k hk)⟩
  have T6 := Lib.hid (T3.out.below bl6 (Nat.le_refl _))
  have HG1 := Lib.hid hg1
  have HG2 := Lib.hid hg2
  have HSL := Lib.hid hsl
  have B6 := Lib.hid bl6
  have hcap : 2 ≤ cap := hg3
  clear hown hgr hsl hg1 hg2 hg3 hg4 hg5 bl6 hi hz0 hz1 hz2
  go_wp2_with fail
  refine (fact_any _ _ _).mono ?_
  rintro e w7 ⟨rfl, bl7⟩
  have T7 := Lib.hid (T6.out.below bl7 (Nat.le_refl _))
  have B7 := Lib.hid bl7
  clear bl7 T6
  go_wp2_with fail
  refine (C7.out _ T7.out).mono ?_
  rintro e w8 ⟨rfl, bl8⟩
  have T8 := Lib.hid (T7.out.below bl8 (Nat.le_refl _))
  have B8 := Lib.hid (B7.out.trans (bl8.mono B7.out.size))
  clear bl8 T7 B7
  have hg2 : w8.heap[g]? = some (.cells cur 37 (0, 0)) := (B8.out.block g (Array.getElem?_eq_some_iff.1 HG2.out).1).trans HG2.out
  have hsl := HSL.out.below B8.out (Nat.le_refl _)
  have HD : Hid (encE kd = (encE ka).set 4 (.string B3)) := by rw [EB3.out]; rfl
  have hsd := sl_set (i := 0) (p := 4) (e := ka) (e' := kd) (v := .string B3) encE_len hg2 hsl rfl (by decide) HD.out
  have bl9 := (B6.out.trans (B8.out.mono B6.out.size)).setCell (p := ⟨g, 4, none⟩) HG1.out (.string B3)
  have S9 : Hid (SL (w8.setCell ⟨g, 4, none⟩ (.string B3)) 7 encE (some ⟨g, 0, none⟩) [kd, kb]) := by
    show SL _ _ _ _ _
    simpa using hsd
  have S3' := Lib.hid (S3.out.below bl9 (Nat.le_refl _))
  have T9 := Lib.hid (T3.out.below bl9 (Nat.le_refl _))
  have L9 := Lib.hid (L3.out.trans (bl9.mono L3.out.size))
  have f4 := row_frozen (k := 4) hg2
  have g4 : w8.cell? ⟨g, 4, none⟩ = some (.string ka.body) := by
    have := (sl_pair hsl).1 4 _ rfl
    simpa using this
  clear hsd bl9 hsl hg2 T3 L3 S3 HSL HG1 HG2 B6 B8 T8
  go_wp2_with fail
  refine (C6.out _ _ cap hcap T9.out S9.out).mono ?_
  rintro e w10 ⟨rfl, bl10⟩
  have S10 := Lib.hid (S3'.out.below bl10 (Nat.le_refl _))
  have T10 := Lib.hid (T9.out.below bl10 (Nat.le_refl _))
  have L10 := Lib.hid (L9.out.trans (bl10.mono L9.out.size))
  clear bl10 T9 L9 S9 S3' f4 g4
  simp only
  go_wp2_with fail
  refine (C5.out _ A3 c3 hc3 T10.out S10.out).mono ?_
  rintro e w11 ⟨rfl, bl11⟩
  have L11 := Lib.hid (L10.out.trans (bl11.mono L10.out.size))
  clear bl11 T10 L10 S10
  simp only
  go_wp2_with fail
  go_ret
  exact ⟨rfl, L11.out⟩
end Go.Proofs.YtaaenobckipfkaaDoor

namespace Go.Proofs.YtaaenobckipfkaaDoor

theorem chkGo_first {l : List E31} {house pub : Int} {k : Nat} {e : E31} (hk : l[k]? = some e) (h0 : chk1 l k e house pub ≠ 0) (hb : ∀ i x, i < k → l[i]? = some x → chk1 l i x house pub = 0) : ∀ (n i : Nat), i ≤ k → k < i + n → chkGo l house pub n i = (chk1 l k e house pub, (k : Int))
  | 0, i, h1, h2 => by omega
  | n + 1, i, h1, h2 => by
    by_cases hik : i = k
    · subst hik; exact chkGo_bad hk h0
    · obtain ⟨x, hx⟩ : ∃ x, l[i]? = some x := ⟨_, List.getElem?_eq_getElem (by have := (List.getElem?_eq_some_iff.1 hk).1; omega)⟩
      rw [chkGo_ok hx (hb i x (by omega) hx)]
      exact chkGo_first hk h0 hb n (i + 1) (by omega) (by omega)
theorem chk_first {l : List E31} {house pub : Int} {k : Nat} {e : E31} (hks : keysOk house pub) (hk : l[k]? = some e) (h0 : chk1 l k e house pub ≠ 0) (hb : ∀ i x, i < k → l[i]? = some x → chk1 l i x house pub = 0) : chk l house pub = (chk1 l k e house pub, (k : Int)) := by
  unfold chk
  rw [if_pos hks]
  exact chkGo_first hk h0 hb _ 0 (Nat.zero_le _) (by have := (List.getElem?_eq_some_iff.1 hk).1; omega)
/-- The first number with a property. -/
theorem least (p : Nat → Prop) : ∀ n, p n → ∃ k, k ≤ n ∧ p k ∧ ∀ i, i < k → ¬ p i
  | 0, h => ⟨0, Nat.le_refl _, h, fun i hi => by omega⟩
  | n + 1, h => by
    by_cases hs : ∃ i, i ≤ n ∧ p i
    · obtain ⟨i, hi, hp⟩ := hs
      obtain ⟨k, h1, h2, h3⟩ := least p i hp
      exact ⟨k, by omega, h2, h3⟩
    · exact ⟨n + 1, Nat.le_refl _, h, fun i hi hp => hs ⟨i, by omega, hp⟩⟩
/-- What Check says of a list that is no chain. -/
theorem chk_bad {l : List E31} {house pub : Int} (h : (chk l house pub).1 ≠ 0) : chk l house pub = (1, -1) ∨
    ∃ k : Nat, k < l.length ∧ (chk l house pub).2 = (k : Int) ∧ (chk (l.take k) house pub).1 = 0 ∧ chk (l.take (k + 1)) house pub = chk l house pub := by
  by_cases hks : keysOk house pub
  · have hex : ∃ n, ∃ e, l[n]? = some e ∧ chk1 l n e house pub ≠ 0 := by
      apply Classical.byContradiction
      intro hn
      exact h ((chk_ok_iff _ _ _).2 ⟨hks, fun i e he => Classical.byContradiction fun h0 => hn ⟨i, e, he, h0⟩⟩)
    obtain ⟨n, hn⟩ := hex
    obtain ⟨k, _, ⟨e, hk, h0⟩, hl⟩ := least (fun n => ∃ e, l[n]? = some e ∧ chk1 l n e house pub ≠ 0) n hn
    have hb : ∀ i x, i < k → l[i]? = some x → chk1 l i x house pub = 0 := fun i x hi hx => Classical.byContradiction fun h1 => hl i hi ⟨x, hx, h1⟩
    have hlt := (List.getElem?_eq_some_iff.1 hk).1
    have e1 := chk_first hks hk h0 hb
    refine .inr ⟨k, hlt, by rw [e1], ?_, ?_⟩
    · refine (chk_ok_iff _ _ _).2 ⟨hks, fun i x hx => ?_⟩
      rw [List.getElem?_take] at hx
      split at hx
      · rename_i hi; rw [chk1_take (by omega)]; exact hb i x hi hx
      · cases hx
    · rw [e1]
      have hk2 : (l.take (k + 1))[k]? = some e := by rw [List.getElem?_take, if_pos (by omega)]; exact hk
      have e2 := chk_first (l := l.take (k + 1)) (pub := pub) hks hk2 (by rw [chk1_take (by omega)]; exact h0) (fun i x hi hx => by
        rw [List.getElem?_take, if_pos (by omega)] at hx
        rw [chk1_take (by omega)]; exact hb i x hi hx)
      rw [e2, chk1_take (by omega)]
  · left
    unfold chk; rw [if_neg hks]
theorem misp_zero {l : List E31} {e : E31} {house : Int} (h : misp l e house = 0) : limB l.length e = true ∧ argB l.length e house = true ∧ ordB l e = true := by
  unfold misp at h
  cases h1 : limB l.length e with
  | false => rw [h1] at h; simp at h
  | true =>
    cases h2 : argB l.length e house with
    | false => rw [h1, h2] at h; simp at h
    | true =>
      cases h3 : ordB l e with
      | false => rw [h1, h2, h3] at h; simp at h
      | true => exact ⟨rfl, rfl, rfl⟩
theorem chk1_zero {l : List E31} {k : Nat} {e : E31} {house pub : Int} (h : chk1 l k e house pub = 0) : misp (l.take k) e house = 0 ∧ e.prev = prevE (l.take k) ∧ sgnB e pub = true := by
  unfold chk1 at h
  by_cases hm : misp (l.take k) e house = 0
  · rw [if_pos hm] at h
    by_cases hp : (e.prev.toList == (prevE (l.take k)).toList) = true
    · rw [if_pos hp] at h
      by_cases hv : verB pub (txE e) e.r e.s = true
      · exact ⟨hm, tl_inj (by simpa using hp), hv⟩
      · rw [if_neg hv] at h; cases h
    · rw [if_neg hp] at h; cases h
  · rw [if_neg hm] at h; exact absurd h hm
/-- Days do not decrease; houses and numbers are right. -/
theorem chk_days {l : List E31} {house pub : Int} (h : (chk l house pub).1 = 0) (j : Nat) (x y : E31) (hx : l[j]? = some x) (hy : l[j + 1]? = some y) : x.day ≤ y.day := by
  obtain ⟨_, ha⟩ := (chk_ok_iff l house pub).1 h
  obtain ⟨hm, _⟩ := chk1_zero (ha (j + 1) y hy)
  obtain ⟨_, _, ho⟩ := misp_zero hm
  unfold ordB at ho
  have hlt := (List.getElem?_eq_some_iff.1 hy).1
  have e1 : (l.take (j + 1)).getLast? = some x := by
    rw [List.getLast?_eq_getElem?, List.length_take, Nat.min_eq_left (by omega), List.getElem?_take, if_pos (by omega)]; exact hx
  rw [e1] at ho
  simpa using ho
theorem chk_head {l : List E31} {house pub : Int} (h : (chk l house pub).1 = 0) (j : Nat) (x : E31) (hx : l[j]? = some x) : x.house = house ∧ x.seq = (j : Int) ∧ sgnB x pub = true ∧ x.prev = prevE (l.take j) := by
  obtain ⟨_, ha⟩ := (chk_ok_iff l house pub).1 h
  obtain ⟨hm, hp, hs⟩ := chk1_zero (ha j x hx)
  obtain ⟨_, hr, _⟩ := misp_zero hm
  unfold argB at hr
  have hlt := (List.getElem?_eq_some_iff.1 hx).1
  rw [List.length_take, Nat.min_eq_left (by omega)] at hr
  simp only [Bool.and_eq_true, beq_iff_eq] at hr
  exact ⟨hr.1, hr.2.1, hs, hp⟩
end Go.Proofs.YtaaenobckipfkaaDoor

namespace Go.Pa
open Go

/-- The number that digits write. -/
def dval (l : List UInt8) : Nat := l.foldl (fun a d => a * 10 + (d.toNat - 48)) 0
theorem dval_snoc (l : List UInt8) (d : UInt8) : dval (l ++ [d]) = dval l * 10 + (d.toNat - 48) := by simp [dval]
theorem dig_nat (d : Nat) (h : d < 10) : (UInt8.ofNat (48 + d)).toNat = 48 + d := by
  rw [UInt8.toNat_ofNat']; omega
theorem decD_facts (m : Nat) : ∀ u, u < m → dval (Lib.decDigits u) = u ∧ (∀ b ∈ Lib.decDigits u, 48 ≤ b.toNat ∧ b.toNat ≤ 57) ∧ Lib.decDigits u ≠ [] := by
  induction m with
  | zero => intro u hu; omega
  | succ m ih =>
    intro u hu
    by_cases h : u < 10
    · rw [Lib.decDigits_one h]
      refine ⟨?_, ?_, by simp⟩
      · show 0 * 10 + ((UInt8.ofNat (48 + u)).toNat - 48) = u
        rw [dig_nat u h]; omega
      · intro b hb; rw [List.mem_singleton] at hb; subst hb; rw [dig_nat u h]; omega
    · rw [Lib.decDigits, dif_neg h]
      obtain ⟨h1, h2, _⟩ := ih (u / 10) (by omega)
      have hd := dig_nat (u % 10) (by omega)
      refine ⟨?_, ?_, by simp⟩
      · rw [dval_snoc, h1, hd]; omega
      · intro b hb
        rcases List.mem_append.1 hb with hb | hb
        · exact h2 b hb
        · rw [List.mem_singleton] at hb; subst hb; rw [hd]; omega
theorem decD_all (u : Nat) : dval (Lib.decDigits u) = u ∧ (∀ b ∈ Lib.decDigits u, 48 ≤ b.toNat ∧ b.toNat ≤ 57) ∧ Lib.decDigits u ≠ [] := decD_facts (u + 1) u (by omega)
theorem int_cases (n : Int) : (∃ u : Nat, n = (u : Int)) ∨ ∃ u : Nat, 1 ≤ u ∧ n = -(u : Int) := by
  by_cases h : 0 ≤ n
  · exact .inl ⟨n.toNat, by omega⟩
  · exact .inr ⟨(-n).toNat, by omega, by omega⟩
theorem itoa_nosp (n : Int) : (32 : UInt8) ∉ Lib.itoa n := by
  intro h
  rcases int_cases n with ⟨u, rfl⟩ | ⟨u, hu, rfl⟩
  · rw [Lib.itoa_nonneg] at h
    exact absurd ((decD_all u).2.1 32 h).1 (by decide)
  · rw [Lib.itoa_neg u hu] at h
    rcases List.mem_cons.1 h with h | h
    · exact absurd h (by decide)
    · exact absurd ((decD_all u).2.1 32 h).1 (by decide)
theorem foldl_ge (l : List UInt8) : ∀ a : Nat, a ≤ l.foldl (fun a d => a * 10 + (d.toNat - 48)) a := by
  induction l with
  | nil => exact fun a => Nat.le_refl a
  | cons d l ih => intro a; exact Nat.le_trans (show a ≤ a * 10 + (d.toNat - 48) by omega) (ih _)
/-- Digits that write a small number are read as it. -/
theorem parse_digs : ∀ (l : List UInt8) (a : Nat), (∀ b ∈ l, 48 ≤ b.toNat ∧ b.toNat ≤ 57) → l.foldl (fun a d => a * 10 + (d.toNat - 48)) a < 18446744073709551616 → Lib.parseUint10 a l = .ok (l.foldl (fun a d => a * 10 + (d.toNat - 48)) a)
  | [], a, _, _ => rfl
  | c :: r, a, h, hs => by
    have hc := h c (by simp)
    have hs' : r.foldl (fun a d => a * 10 + (d.toNat - 48)) (a * 10 + (c.toNat - 48)) < 18446744073709551616 := hs
    have hg := foldl_ge r (a * 10 + (c.toNat - 48))
    have h1 : ¬ 18446744073709551616 ≤ a * 10 + (c.toNat - 48) := by omega
    have h2 : ¬ 1844674407370955162 ≤ a := by omega
    unfold Lib.parseUint10
    rw [if_pos hc, if_neg h2, if_neg h1]
    exact parse_digs r _ (fun b hb => h b (by simp [hb])) hs'
theorem mag_decD (u : Nat) (h : u < 18446744073709551616) : Lib.parseMag (Lib.decDigits u) = .ok u := by
  obtain ⟨h1, h2, h3⟩ := decD_all u
  unfold Lib.parseMag
  rw [if_neg h3, parse_digs _ 0 h2 (by show dval _ < _; rw [h1]; exact h)]
  show Lib.NumEnd.ok (dval _) = _
  rw [h1]
/-- What Itoa writes is read again. -/
theorem atoi_itoa (n : Int) (h0 : -9223372036854775808 ≤ n) (h1 : n ≤ 9223372036854775807) : Lib.atoiAll (Lib.itoa n) = .ok n := by
  rcases int_cases n with ⟨u, rfl⟩ | ⟨u, hu, rfl⟩
  · rw [Lib.itoa_nonneg]
    have hm := mag_decD u (by omega)
    obtain ⟨_, h2, h3⟩ := decD_all u
    cases hd : Lib.decDigits u with
    | nil => exact absurd hd h3
    | cons c r =>
      rw [hd] at hm h2
      have hc := h2 c (by simp)
      unfold Lib.atoiAll
      simp only
      rw [if_neg (by omega), hm]
      simp only
      rw [if_neg (by omega), if_neg (by omega), if_neg (by omega)]
  · rw [Lib.itoa_neg u hu]
    have hm := mag_decD u (by omega)
    unfold Lib.atoiAll
    simp only
    rw [if_pos (by decide), hm]
    simp only
    rw [if_neg (by simp), if_neg (by omega), if_pos (by decide)]

/-- The words of a text, between its blanks. -/
def wds : List UInt8 → List (List UInt8)
  | [] => [[]]
  | c :: r => if c = 32 then [] :: wds r else match wds r with
    | [] => [[c]]
    | p :: ps => (c :: p) :: ps
theorem wds_ne : ∀ l, wds l ≠ []
  | [] => by simp [wds]
  | c :: r => by
    unfold wds
    split
    · simp
    · split <;> simp
theorem wds_word : ∀ (p : List UInt8), (32 : UInt8) ∉ p → wds p = [p]
  | [], _ => rfl
  | c :: r, h => by
    have hc : c ≠ 32 := fun e => h (by simp [e])
    unfold wds
    rw [if_neg hc, wds_word r (fun e => h (by simp [e]))]
theorem wds_sep : ∀ (p r : List UInt8), (32 : UInt8) ∉ p → wds (p ++ 32 :: r) = p :: wds r
  | [], r, _ => by rw [List.nil_append, wds, if_pos rfl]
  | c :: p, r, h => by
    have hc : c ≠ 32 := fun e => h (by simp [e])
    rw [List.cons_append, wds, if_neg hc, wds_sep p r (fun e => h (by simp [e]))]
theorem idx_cases : ∀ l : List UInt8, (Lib.index l [32] = -1 ∧ (32 : UInt8) ∉ l) ∨ ∃ p r : List UInt8, l = p ++ 32 :: r ∧ (32 : UInt8) ∉ p ∧ Lib.index l [32] = p.length
  | [] => .inl ⟨rfl, by simp⟩
  | c :: l => by
    by_cases hc : c = 32
    · subst hc
      exact .inr ⟨[], l, rfl, by simp, by simp [Lib.index]⟩
    · have hp : ([32] : List UInt8).isPrefixOf (c :: l) = false := by
        simp only [List.isPrefixOf, Bool.and_true]
        simpa using fun e => hc e.symm
      rcases idx_cases l with ⟨h1, h2⟩ | ⟨p, r, h1, h2, h3⟩
      · refine .inl ⟨?_, ?_⟩
        · rw [Lib.index, hp, h1]; rfl
        · intro h; rcases List.mem_cons.1 h with h | h
          · exact hc h.symm
          · exact h2 h
      · refine .inr ⟨c :: p, r, by rw [h1]; rfl, ?_, ?_⟩
        · intro h; rcases List.mem_cons.1 h with h | h
          · exact hc h.symm
          · exact h2 h
        · rw [Lib.index, hp, h3]
          have : ((p.length : Int) == -1) = false := beq_eq_false_iff_ne.2 (by omega)
          simp only [Bool.false_eq_true, if_false, this]
          simp
/-- What Cut cuts off is the first word. -/
theorem cut_cases (l : List UInt8) : (Lib.cut l [32] = (l, [], false) ∧ wds l = [l]) ∨ ∃ p r : List UInt8, Lib.cut l [32] = (p, r, true) ∧ wds l = p :: wds r ∧ r.length < l.length ∧ p.length ≤ l.length := by
  rcases idx_cases l with ⟨h1, h2⟩ | ⟨p, r, h1, h2, h3⟩
  · refine .inl ⟨?_, wds_word l h2⟩
    unfold Lib.cut; rw [h1]; rfl
  · refine .inr ⟨p, r, ?_, by rw [h1]; exact wds_sep p r h2, by rw [h1]; simp; omega, by rw [h1]; simp⟩
    unfold Lib.cut
    rw [h3, if_pos (by omega)]
    have e1 : ((p.length : Int)).toNat = p.length := by omega
    rw [e1, h1]
    simp

/-- What Parse keeps of the words that it has read: whether none has come, and the numbers. -/
def stepW (s : Option (Bool × List Int)) (x : List UInt8) : Option (Bool × List Int) := match s with
  | none => none
  | some (true, _) => if x = [102, 97, 99, 116] then some (false, []) else none
  | some (false, ns) => match Lib.atoiAll x with
    | .ok v => if ns.length = 6 then none else some (false, ns ++ [v])
    | _ => none
def runW (pre : List (List UInt8)) : Option (Bool × List Int) := pre.foldl stepW (some (true, []))
theorem runW_snoc (pre : List (List UInt8)) (x : List UInt8) : runW (pre ++ [x]) = stepW (runW pre) x := by simp [runW]
theorem runW_none (l : List (List UInt8)) : l.foldl stepW none = none := by
  induction l with
  | nil => rfl
  | cons x l ih => exact ih
theorem runW_prefix {a b : List (List UInt8)} (h : a <+: b) (hn : runW a = none) : runW b = none := by
  obtain ⟨c, rfl⟩ := h
  unfold runW at *
  rw [List.foldl_append, hn, runW_none]
/-- The numbers that are kept are integers of 64 bits. -/
theorem runW_ok : ∀ (l : List (List UInt8)) (s : Option (Bool × List Int)), (∀ f ns, s = some (f, ns) → (f = true → ns = []) ∧ ns.length ≤ 6 ∧ ∀ v ∈ ns, -9223372036854775808 ≤ v ∧ v ≤ 9223372036854775807) →
    ∀ f ns, l.foldl stepW s = some (f, ns) → (f = true → ns = []) ∧ ns.length ≤ 6 ∧ ∀ v ∈ ns, -9223372036854775808 ≤ v ∧ v ≤ 9223372036854775807
  | [], s, h, f, ns, e => h f ns e
  | x :: l, s, h, f, ns, e => by
    refine runW_ok l (stepW s x) ?_ f ns e
    intro g ms eg
    cases s with
    | none => cases eg
    | some p =>
      obtain ⟨f0, n0⟩ := p
      obtain ⟨h1, h2, h3⟩ := h f0 n0 rfl
      cases f0 with
      | true =>
        unfold stepW at eg
        simp only at eg
        split at eg
        · cases eg; exact ⟨(fun e => by cases e), by simp, by simp⟩
        · cases eg
      | false =>
        unfold stepW at eg
        simp only at eg
        split at eg
        · rename_i v hv
          split at eg
          · cases eg
          · cases eg
            refine ⟨(fun e => by cases e), by simp; omega, ?_⟩
            intro u hu
            rcases List.mem_append.1 hu with hu | hu
            · exact h3 u hu
            · rw [List.mem_singleton] at hu; subst hu; exact Lib.atoiAll_bounds hv
        · cases eg
theorem runW_facts {pre : List (List UInt8)} {f : Bool} {ns : List Int} (h : runW pre = some (f, ns)) : (f = true → ns = []) ∧ ns.length ≤ 6 ∧ ∀ v ∈ ns, -9223372036854775808 ≤ v ∧ v ≤ 9223372036854775807 :=
  runW_ok pre _ (fun f ns e => by cases e; exact ⟨fun _ => rfl, by simp, by simp⟩) f ns h
end Go.Pa
namespace Go.Proofs.YtaaenobckipfkaaDoor
open Go.Pa
/-- The words of the text of a fact. -/
theorem wds_bdP (x : Fac) (k : Nat) (r : List UInt8) : wds ((bdP x k).data.toList ++ 32 :: r) = wds (bdP x k).data.toList ++ wds r := by
  suffices h : ∀ k, ∃ q p : List UInt8, (32 : UInt8) ∉ p ∧ (bdP x k).data.toList = q ++ p ∧ ∀ s, wds (q ++ s) = (wds (bdP x k).data.toList).dropLast ++ wds s by
    obtain ⟨q, p, hp, e, hs⟩ := h k
    rw [e, List.append_assoc, hs, hs, wds_sep p r hp, wds_word p hp]
    simp
  intro k
  induction k with
  | zero => exact ⟨[], [102, 97, 99, 116], by decide, rfl, fun s => rfl⟩
  | succ k ih =>
    obtain ⟨q, p, hp, e, hs⟩ := ih
    have e2 : (bdP x (k + 1)).data.toList = (q ++ p ++ [32]) ++ Lib.itoa (numF x k) := by
      show (bdP x k ++ (⟨#[32]⟩ ++ dec (numF x k))).data.toList = _
      rw [ByteArray.data_append, ByteArray.data_append, Array.toList_append, Array.toList_append, e]
      simp [dec]
    refine ⟨q ++ p ++ [32], Lib.itoa (numF x k), itoa_nosp _, e2, fun s => ?_⟩
    have ew : ∀ t, wds (q ++ p ++ [32] ++ t) = (wds (bdP x k).data.toList).dropLast ++ (p :: wds t) := by
      intro t
      rw [List.append_assoc, List.append_assoc, hs]
      show _ ++ wds (p ++ 32 :: t) = _
      rw [wds_sep p t hp]
    rw [e2, ew, ew, wds_word _ (itoa_nosp _)]
    rw [List.dropLast_append_of_ne_nil (by simp)]
    simp
theorem wds_bdP_succ (x : Fac) (k : Nat) : wds (bdP x (k + 1)).data.toList = wds (bdP x k).data.toList ++ [Lib.itoa (numF x k)] := by
  have e2 : (bdP x (k + 1)).data.toList = (bdP x k).data.toList ++ 32 :: Lib.itoa (numF x k) := by
    show (bdP x k ++ (⟨#[32]⟩ ++ dec (numF x k))).data.toList = _
    rw [ByteArray.data_append, ByteArray.data_append, Array.toList_append, Array.toList_append]
    simp [dec]
  rw [e2, wds_bdP, wds_word _ (itoa_nosp _)]
/-- A text of a fact is read as the fact's numbers. -/
theorem run_bdP {x : Fac} (h : x.Ok) : ∀ k, k ≤ 6 → runW (wds (bdP x k).data.toList) = some (false, (List.range k).map (numF x))
  | 0, _ => rfl
  | k + 1, hk => by
    rw [wds_bdP_succ, runW_snoc, run_bdP h k (by omega)]
    unfold stepW
    simp only
    rw [atoi_itoa _ (numF_ok h k).1 (numF_ok h k).2]
    simp only
    rw [if_neg (by simp; omega), List.range_succ, List.map_append]
    rfl
theorem run_bdF {x : Fac} (h : x.Ok) : runW (wds (bdF x).data.toList) = some (false, [x.ref, x.act, x.low, x.high, x.filed, secN x.secret]) := run_bdP h 6 (Nat.le_refl _)
/-- The fact that Parse builds of six numbers. -/
def facOf (a b c d e f : Int) : Fac := ⟨a, b, c, d, e, decide (f = 1)⟩
theorem facOf_self (x : Fac) : facOf x.ref x.act x.low x.high x.filed (secN x.secret) = x := by
  cases x with
  | mk a b c d e f => cases f <;> rfl
/-- Two facts with one text are equal. -/
theorem bdF_inj {x y : Fac} (hx : x.Ok) (hy : y.Ok) (h : bdF x = bdF y) : x = y := by
  have h1 := run_bdF hx
  rw [h, run_bdF hy] at h1
  simp only [Option.some.injEq, Prod.mk.injEq, true_and, List.cons.injEq, and_true] at h1
  obtain ⟨h1, h2, h3, h4, h5, h6⟩ := h1
  rw [← facOf_self x, ← facOf_self y, h1, h2, h3, h4, h5, h6]
end Go.Proofs.YtaaenobckipfkaaDoor

namespace Go.Proofs.YtaaenobckipfkaaDoor

theorem seal_spec (secret : Int) : ∀ (l : List Fac) (acc out : List E31), sealGo secret l acc = some out →
    ∃ tl, out = acc ++ tl ∧ tl.length = l.length ∧ (l ≠ [] → isSec secret ∧ (chk out 0 (pubV secret)).1 = 0) ∧ ∀ i x, l[i]? = some x → out[acc.length + i]? = some (appN (out.take (acc.length + i)) 0 secret x.filed (bdF x))
  | [], acc, out, h => by
    cases h
    exact ⟨[], by simp, rfl, fun h => absurd rfl h, fun i x hx => by simp at hx⟩
  | x :: r, acc, out, h => by
    rw [sealGo_cons] at h
    split at h
    · rename_i hE
      obtain ⟨tl, e1, e2, e3, e4⟩ := seal_spec secret r _ out h
      have hs := appE_ok hE
      refine ⟨appN acc 0 secret x.filed (bdF x) :: tl, by rw [e1]; simp, by simp [e2], fun _ => ⟨hs.1, ?_⟩, ?_⟩
      · cases r with
        | nil =>
          have : tl = [] := List.length_eq_zero_iff.1 (by simpa using e2)
          rw [e1, this, List.append_nil]
          exact app_chk hE
        | cons y r => exact (e3 (by simp)).2
      · intro i y hy
        cases i with
        | zero =>
          simp at hy
          subst hy
          rw [Nat.add_zero, e1]
          simp
        | succ i =>
          have := e4 i y (by simpa using hy)
          simp only [List.length_append, List.length_cons, List.length_nil] at this
          rw [show acc.length + (i + 1) = acc.length + (0 + 1) + i by omega]; exact this
    · cases h
theorem seal_few (secret : Int) : ∀ (l : List Fac) (acc out : List E31), sealGo secret l acc = some out → Few acc → (∀ x ∈ l, x.Ok) → acc.length + l.length ≤ 1000000 → Few out
  | [], acc, out, h, hf, _, _ => by cases h; exact hf
  | x :: r, acc, out, h, hf, ho, hl => by
    rw [sealGo_cons] at h
    split at h
    · have hx := ho x (by simp)
      have hs := bdF_size hx
      simp only [List.length_cons] at hl
      exact seal_few secret r _ out h (few_app hf (by omega) (by decide) (by decide) hx.f0 hx.f1 (by omega)) (fun y hy => ho y (by simp [hy])) (by simp; omega)
    · cases h
theorem few_set {l : List E31} {i : Nat} {o : E31} (hf : Few l) (ho : o.Ok ∧ o.prev.size ≤ 1000000000 ∧ o.body.size ≤ 1000000000) : Few (l.set i o) := by
  intro e he
  rcases List.mem_or_eq_of_mem_set he with h | h
  · exact hf e h
  · rw [h]; exact ho
def lastB (l : List E31) (k : Nat) : Option E31 := if k = 0 then none else l[k - 1]?
theorem take_last {l : List E31} {k : Nat} (h : k ≤ l.length) : (l.take k).getLast? = lastB l k := by
  unfold lastB
  rw [List.getLast?_eq_getElem?, List.length_take, Nat.min_eq_left h]
  split
  · rename_i e; subst e; simp
  · rw [List.getElem?_take]
    rw [if_pos (by omega)]
theorem chk1_congr {l l' : List E31} {k : Nat} (e : E31) (house pub : Int) (hl : l.length = l'.length) (h : k ≤ l.length) (hb : lastB l k = lastB l' k) : chk1 l k e house pub = chk1 l' k e house pub := by
  have h1 : (l.take k).length = (l'.take k).length := by simp [hl]
  have h2 : (l.take k).getLast? = (l'.take k).getLast? := by rw [take_last h, take_last (hl ▸ h), hb]
  have h3 : prevE (l.take k) = prevE (l'.take k) := by unfold prevE; rw [h2]
  have h4 : misp (l.take k) e house = misp (l'.take k) e house := by unfold misp ordB; rw [h1, h2]
  unfold chk1
  rw [h3, h4]
theorem last_set {l : List E31} {i k : Nat} {o : E31} (h : k ≠ i + 1) : lastB (l.set i o) k = lastB l k := by
  unfold lastB
  split
  · rfl
  · rw [List.getElem?_set_ne (by omega)]
theorem last_set_eq {l : List E31} {i : Nat} {o : E31} (h : i < l.length) : lastB (l.set i o) (i + 1) = some o := by
  unfold lastB
  rw [if_neg (by omega), Nat.add_sub_cancel, List.getElem?_set_self h]
/-- Where the changed list has its first error. -/
theorem set_own {l : List E31} {i : Nat} {o : E31} {pub : Int} (hi : i < l.length) : chk1 (l.set i o) i o 0 pub = chk1 l i o 0 pub :=
  chk1_congr o 0 pub (by simp) (by simp; omega) (last_set (by omega))
theorem set_low {l : List E31} {i : Nat} {o : E31} {pub : Int} (hall : ∀ i e, l[i]? = some e → chk1 l i e 0 pub = 0) (j : Nat) (e : E31) (hj : j ≠ i) (hj2 : j ≠ i + 1) (he : (l.set i o)[j]? = some e) : chk1 (l.set i o) j e 0 pub = 0 := by
  have hlt := (List.getElem?_eq_some_iff.1 he).1
  rw [List.getElem?_set_ne (by omega)] at he
  rw [chk1_congr e 0 pub (by simp) (by omega) (last_set hj2)]
  exact hall j e he
theorem set_A {l : List E31} {i : Nat} {o : E31} {pub : Int} (hi : i < l.length) (h : (chk l 0 pub).1 = 0) (hc : chk1 l i o 0 pub ≠ 0) : chk (l.set i o) 0 pub = (chk1 l i o 0 pub, (i : Int)) := by
  obtain ⟨hk, hall⟩ := (chk_ok_iff l 0 pub).1 h
  have := chk_first (l := l.set i o) (k := i) (e := o) hk (by rw [List.getElem?_set_self hi]) (by rw [set_own hi]; exact hc) (fun j x hj hx => set_low hall j x (by omega) (by omega) hx)
  rw [this, set_own hi]
theorem set_B {l : List E31} {i : Nat} {o e : E31} {pub : Int} (h : (chk l 0 pub).1 = 0) (hc : chk1 l i o 0 pub = 0) (he : l[i + 1]? = some e) (hn : chk1 (l.set i o) (i + 1) e 0 pub ≠ 0) : chk (l.set i o) 0 pub = (chk1 (l.set i o) (i + 1) e 0 pub, ((i + 1 : Nat) : Int)) := by
  obtain ⟨hk, hall⟩ := (chk_ok_iff l 0 pub).1 h
  have hi : i < l.length := by have := (List.getElem?_eq_some_iff.1 he).1; omega
  refine chk_first hk (by rw [List.getElem?_set_ne (by omega)]; exact he) hn (fun j x hj hx => ?_)
  by_cases e1 : j = i
  · subst e1
    rw [List.getElem?_set_self hi] at hx
    cases hx
    rw [set_own hi]; exact hc
  · exact set_low hall j x e1 (by omega) hx
theorem set_C {l : List E31} {i : Nat} {o : E31} {pub : Int} (hi : i < l.length) (h : (chk l 0 pub).1 = 0) (hc : chk1 l i o 0 pub = 0) (hn : ∀ e, l[i + 1]? = some e → chk1 (l.set i o) (i + 1) e 0 pub = 0) : chk (l.set i o) 0 pub = (0, -1) := by
  obtain ⟨hk, hall⟩ := (chk_ok_iff l 0 pub).1 h
  refine chk_ok ((chk_ok_iff _ 0 pub).2 ⟨hk, fun j x hx => ?_⟩)
  by_cases e1 : j = i
  · subst e1
    rw [List.getElem?_set_self hi] at hx
    cases hx
    rw [set_own hi]; exact hc
  · by_cases e2 : j = i + 1
    · subst e2
      rw [List.getElem?_set_ne (by omega)] at hx
      exact hn x hx
    · exact set_low hall j x e1 e2 hx
set_option maxRecDepth 100000 in
/-- The first check of the law. -/
theorem law_first {l : List E31} {i : Nat} {o : E31} {pub : Int} (hi : i < l.length) (h : (chk l 0 pub).1 = 0) :
    ((chk (l.set i o) 0 pub).1 = 0 ∧ sgnB o pub = true) ∨ ((chk (l.set i o) 0 pub).1 ≠ 0 ∧ ((chk (l.set i o) 0 pub).2 = (i : Int) ∨ (chk (l.set i o) 0 pub).2 = (i : Int) + 1)) := by
  by_cases hc : chk1 l i o 0 pub = 0
  · have hs := (chk1_zero hc).2.2
    by_cases hn : ∀ e, l[i + 1]? = some e → chk1 (l.set i o) (i + 1) e 0 pub = 0
    · rw [set_C hi h hc hn]; exact .inl ⟨rfl, hs⟩
    · obtain ⟨e, he, hx⟩ : ∃ e, l[i + 1]? = some e ∧ chk1 (l.set i o) (i + 1) e 0 pub ≠ 0 := Classical.byContradiction fun hno => hn fun e he => Classical.byContradiction fun hx => hno ⟨e, he, hx⟩
      rw [set_B h hc he hx]
      exact .inr ⟨hx, .inr (by simp)⟩
  · rw [set_A hi h hc]
    exact .inr ⟨hc, .inl rfl⟩
/-- An entry with another body, signed anew. -/
def anew (e : E31) (secret : Int) (b : ByteArray) : E31 := ⟨e.house, e.seq, e.day, e.prev, b, sgR secret (txE { e with body := b }), sgS secret (txE { e with body := b })⟩
theorem anew_ok {l : List E31} {i : Nat} {e : E31} {secret : Int} {b : ByteArray} (hs : isSec secret) (h : (chk l 0 (pubV secret)).1 = 0) (he : l[i]? = some e) (hb : b.size ≤ 2000) : chk1 l i (anew e secret b) 0 (pubV secret) = 0 := by
  obtain ⟨_, hall⟩ := (chk_ok_iff l 0 (pubV secret)).1 h
  obtain ⟨hm, hp, _⟩ := chk1_zero (hall i e he)
  obtain ⟨m1, m2, m3⟩ := misp_zero hm
  have hm2 : misp (l.take i) (anew e secret b) 0 = 0 := by
    unfold misp
    have a2 : argB (l.take i).length (anew e secret b) 0 = true := m2
    have a3 : ordB (l.take i) (anew e secret b) = true := m3
    have a1 : limB (l.take i).length (anew e secret b) = true := by
      unfold limB at m1 ⊢
      simp only [Bool.and_eq_true, decide_eq_true_eq] at m1 ⊢
      exact ⟨m1.1, by show (b.size : Int) ≤ 2000; omega⟩
    rw [a1, a2, a3]; rfl
  unfold chk1
  rw [if_pos hm2, if_pos (by show (e.prev.toList == _) = true; rw [hp]; simp), if_pos]
  exact ver_sign hs _
theorem anew_sgn {e : E31} {secret : Int} {b : ByteArray} (hs : isSec secret) : sgnB (anew e secret b) (pubV secret) = true := ver_sign hs _
set_option maxRecDepth 100000 in
theorem anew_next {l : List E31} {i : Nat} {e n : E31} {secret : Int} {b : ByteArray} (h : (chk l 0 (pubV secret)).1 = 0) (he : l[i]? = some e) (hn : l[i + 1]? = some n) : chk1 (l.set i (anew e secret b)) (i + 1) n 0 (pubV secret) = if dig e = dig (anew e secret b) then 0 else 17 := by
  obtain ⟨_, hall⟩ := (chk_ok_iff l 0 (pubV secret)).1 h
  obtain ⟨hm, hp, hv⟩ := chk1_zero (hall (i + 1) n hn)
  have hi : i < l.length := (List.getElem?_eq_some_iff.1 he).1
  have hi1 : i + 1 < l.length := (List.getElem?_eq_some_iff.1 hn).1
  have l1 : (l.take (i + 1)).getLast? = some e := by rw [take_last (by omega)]; unfold lastB; rw [if_neg (by omega)]; exact he
  have l2 : ((l.set i (anew e secret b)).take (i + 1)).getLast? = some (anew e secret b) := by rw [take_last (by simp; omega), last_set_eq hi]
  have hm2 : misp ((l.set i (anew e secret b)).take (i + 1)) n 0 = 0 := by
    refine Eq.trans ?_ hm
    have o1 : ordB ((l.set i (anew e secret b)).take (i + 1)) n = ordB (l.take (i + 1)) n := by unfold ordB; rw [l1, l2]; rfl
    have o2 : ((l.set i (anew e secret b)).take (i + 1)).length = (l.take (i + 1)).length := by simp
    unfold misp
    rw [o1, o2]
  have p1 : prevE (l.take (i + 1)) = dig e := by unfold prevE; rw [l1]
  have p2 : prevE ((l.set i (anew e secret b)).take (i + 1)) = dig (anew e secret b) := by unfold prevE; rw [l2]
  unfold chk1
  rw [if_pos hm2, p2, hp, p1]
  by_cases hd : dig e = dig (anew e secret b)
  · rw [if_pos hd, if_pos (by rw [hd]; simp), if_pos (show verB (pubV secret) (txE n) n.r n.s = true from hv)]
  · rw [if_neg hd, if_neg]
    intro hx
    exact hd (tl_inj (by simpa using hx))
/-- The second check of the law. -/
theorem law_last {l : List E31} {i : Nat} {e : E31} {secret : Int} {b : ByteArray} (hs : isSec secret) (h : (chk l 0 (pubV secret)).1 = 0) (he : l[i]? = some e) (hb : b.size ≤ 2000) (hl : i + 1 = l.length) : chk (l.set i (anew e secret b)) 0 (pubV secret) = (0, -1) :=
  set_C (by omega) h (anew_ok hs h he hb) (fun x hx => by have := (List.getElem?_eq_some_iff.1 hx).1; omega)
theorem law_next {l : List E31} {i : Nat} {e : E31} {secret : Int} {b : ByteArray} (hs : isSec secret) (h : (chk l 0 (pubV secret)).1 = 0) (he : l[i]? = some e) (hb : b.size ≤ 2000) (hl : i + 1 < l.length) : chk (l.set i (anew e secret b)) 0 (pubV secret) = (17, ((i + 1 : Nat) : Int)) ∨ (dig e = dig (anew e secret b) ∧ chk (l.set i (anew e secret b)) 0 (pubV secret) = (0, -1)) := by
  by_cases hd : dig e = dig (anew e secret b)
  · exact .inr ⟨hd, set_C (by omega) h (anew_ok hs h he hb) (fun x hx => by rw [anew_next h he hx, if_pos hd])⟩
  · left
    obtain ⟨n, hn⟩ : ∃ n, l[i + 1]? = some n := ⟨_, List.getElem?_eq_getElem hl⟩
    have hx := anew_next (secret := secret) (b := b) h he hn
    rw [if_neg hd] at hx
    rw [set_B h (anew_ok hs h he hb) hn (by rw [hx]; decide), hx]
theorem law_fork {l : List E31} {i : Nat} {e : E31} {secret : Int} {b : ByteArray} (hs : isSec secret) (h : (chk l 0 (pubV secret)).1 = 0) (he : l[i]? = some e) (hne : e.body ≠ b) : forkB e (anew e secret b) (pubV secret) = true := by
  have hq : eqB e (anew e secret b) = false := by
    cases hx : eqB e (anew e secret b) with
    | false => rfl
    | true =>
      have := (eqB_iff _ _).1 hx
      exact absurd (by rw [this]; rfl) hne
  rw [fork_yes hq rfl rfl, (chk_head h i e he).2.2.1, anew_sgn hs]; rfl
end Go.Proofs.YtaaenobckipfkaaDoor

namespace Go.Proofs.YtaaenobckipfkaaDoor
open Go.RowKit Go.Blk Go.Shelf Go.Pa Go.Rf
attribute [local go_sem] Oper.semAt_some

def isErr (v : Value) : Prop := v = .nilIface ∨ ∃ te pe, v = .iface te pe
/-- What the library's variables hold. -/
structure HasE (w : World) : Prop where
  m : ∃ m, w.cell? ⟨3, 0, none⟩ = some (.int .i64 m)
  s : ∃ v, w.cell? ⟨0, 0, none⟩ = some v ∧ isErr v
  r : ∃ v, w.cell? ⟨1, 0, none⟩ = some v ∧ isErr v
theorem cell_lt {w : World} {a : Addr} {v : Value} (h : w.cell? a = some v) : a.block < w.heap.size := by
  rcases Nat.lt_or_ge a.block w.heap.size with h' | h'
  · exact h'
  · unfold World.cell? at h; rw [Array.getElem?_eq_none h'] at h; simp at h
theorem cellB {w w' : World} {B : Nat} {a : Addr} {v : Value} (h : w.cell? a = some v) (hb : Below B w w') (hB : a.block < B) : w'.cell? a = some v := by
  rw [World.cell?_of_block (hb.block a.block hB)]; exact h
/-- The variables lie below B. -/
def gAll (B : Nat) : Prop := 3 < B ∧ 0 < B ∧ 1 < B
theorem HasE.lt {w : World} (h : HasE w) : gAll w.heap.size := by
  obtain ⟨⟨m, h1⟩, ⟨v, h2, _⟩, ⟨u, h3, _⟩⟩ := h
  exact ⟨cell_lt h1, cell_lt h2, cell_lt h3⟩
theorem HasE.to {w w' : World} {B : Nat} (h : HasE w) (hb : Below B w w') (hB : gAll B) : HasE w' := by
  obtain ⟨⟨m, h1⟩, ⟨v, h2, h2'⟩, ⟨u, h3, h3'⟩⟩ := h
  exact ⟨⟨m, cellB h1 hb hB.1⟩, ⟨v, cellB h2 hb hB.2.1, h2'⟩, ⟨u, cellB h3 hb hB.2.2, h3'⟩⟩
theorem HasE.below {w w' : World} {B : Nat} (h : HasE w) (hb : Below B w w') (hB : w.heap.size ≤ B) : HasE w' :=
  h.to hb ⟨Nat.lt_of_lt_of_le h.lt.1 hB, Nat.lt_of_lt_of_le h.lt.2.1 hB, Nat.lt_of_lt_of_le h.lt.2.2 hB⟩

/-- A word of a text. -/
abbrev Pc := { l : List UInt8 // l.length < 4294967281 }
def vals (l : List Pc) : List (List UInt8) := l.map (·.1)
theorem vals_snoc (l : List Pc) (p : List UInt8) (hp : p.length < 4294967281) : vals (l ++ [⟨p, hp⟩]) = vals l ++ [p] := by simp [vals]
abbrev encW (x : Pc) : Array Value := #[.string ⟨x.1.toArray⟩]
theorem cut_any (l : List UInt8) (w : World) (hl : l.length < 4294967281) (hE : HasE w) :
    Calls Tryd.prog 55 #[.string ⟨l.toArray⟩, .string ⟨#[32]⟩] w fun e w' => e = .returned (.tuple #[.string ⟨(Lib.cut l [32]).1.toArray⟩, .string ⟨(Lib.cut l [32]).2.1.toArray⟩, .bool (Lib.cut l [32]).2.2]) ∧ Below w.heap.size w w' := by
  obtain ⟨m, hm⟩ := hE.m
  refine (Tryd.strings_Cut ⟨l.toArray⟩ ⟨#[32]⟩ m w (by show l.toArray.size < _; simpa using hl) hm).mono ?_
  rintro e w' ⟨rfl, n, rfl⟩
  exact ⟨rfl, drewN_below _ _⟩
def left1 (r m : Value) : Nat := match r, m with
  | .string s, .bool true => 1 + s.size
  | _, _ => 0
set_option maxRecDepth 100000 in
set_option maxHeartbeats 1000000 in
theorem words1_in (n : Nat) (hn : 1 ≤ n) (l Bn n0 : Nat) (hg : gAll n0) (t : List UInt8) (ht : t.length < 4294967281) (J Jx : List Pc → World → Prop) (B : Nat) (hJ : AbidesFrom B J)
    (hY : ∀ pre x W, J pre W → pre.length < (wds t).length → YieldAt Fence.wide (n - 1) Tryd.prog l (encW x) W fun e W' =>
      (e = .returned (.bool true) ∧ J (pre ++ [x]) W' ∧ Below n0 W W') ∨ (e = .returned (.bool false) ∧ Jx (pre ++ [x]) W'))
    (W : World) (hBn : W.cell? ⟨Bn, 0, none⟩ = some (.string ⟨t.toArray⟩)) (hE : HasE W) (h0 : J [] W) :
    CallsIn Fence.wide n Tryd.prog 54 #[.func (.yield l) #[] #[], .pointer (some ⟨Bn, 0, none⟩)] W fun e W' => (∃ v, e = .returned v) ∧
      ((∃ ys : List Pc, vals ys = wds t ∧ J ys W') ∨ (∃ pre : List Pc, vals pre <+: wds t ∧ Jx pre W')) := by
  have HE := Lib.hid hE
  have H0 := Lib.hid h0
  have HY := Lib.hid hY
  clear hE h0 hY
  refine callsIn_of_wp Tryd.func54 rfl trivial ?_ rfl
  simp only [Tryd.ntmps54, List.size_toArray, List.length_cons, List.length_nil, Nat.reduceAdd, Nat.reduceSub, Array.replicate_succ, Array.replicate_zero, List.push_toArray, List.append_toArray, List.nil_append, List.cons_append]
  gi_wp2
  clear hBn
  gi_loopw [3, 4] (fun r m wr => ∃ (pre : List Pc) (q : List UInt8) (b : Bool), r = .string ⟨q.toArray⟩ ∧ m = .bool b ∧ q.length < 4294967281 ∧ HasE wr ∧ J pre wr ∧ (b = true → vals pre ++ wds q = wds t) ∧ (b = false → vals pre = wds t))
    (fun r m _ => left1 r m)
  case atStart =>
    exact ⟨[], t, true, rfl, rfl, ht, HE.out, H0.out, fun _ => rfl, fun e => by cases e⟩
  case round =>
    clear HE H0
    obtain ⟨pre, q, b, rfl, rfl, hq, hE, hJs, hb1, hb2⟩ := hrel
    cases b with
    | false =>
      have e := Lib.hid (hb2 rfl)
      have HJ := Lib.hid hJs
      clear hb1 hb2 hE hJs
      gi_wp2
      go_end0
      exact ⟨⟨_, rfl⟩, .inl ⟨pre, e.out, HJ.out⟩⟩
    | true =>
      have e := Lib.hid (hb1 rfl)
      have HE := Lib.hid hE
      have HJ := Lib.hid hJs
      have HC := Lib.hid (fun w hE => cut_any q w hq hE)
      clear hb1 hb2 hE hJs
      obtain ⟨p, r, m, hc, hw, hp, hr, hlen, hlt⟩ : ∃ (p r : List UInt8) (m : Bool), Lib.cut q [32] = (p, r, m) ∧ wds q = p :: (if m then wds r else []) ∧ p.length < 4294967281 ∧ r.length < 4294967281 ∧ (pre.length < (wds t).length) ∧ (m = true → r.length < q.length) := by
        rcases cut_cases q with ⟨h1, h2⟩ | ⟨p, r, h1, h2, h3, h4⟩
        · exact ⟨q, [], false, h1, h2, hq, by simp, by rw [← e.out, h2]; simp [vals], fun e => by cases e⟩
        · exact ⟨p, r, true, h1, h2, by omega, by omega, by rw [← e.out, h2]; simp [vals], fun _ => h3⟩
      rw [hc] at HC
      have HW := Lib.hid hw
      clear hw hc
      gi_wp2
      refine ⟨trivial, ?_⟩
      refine (callsIn_wide.2 (HC.out _ HE.out)).mono ?_
      rintro e2 w2 ⟨rfl, hb⟩
      have HJ2 := Lib.hid (abide hJ HJ.out hb)
      have HE2 := Lib.hid (HE.out.below hb (Nat.le_refl _))
      obtain ⟨fn, tmps, assign, body, hy, hR⟩ := HY.out pre ⟨p, hp⟩ w2 HJ2.out hlen
      dsimp only [encW] at hy
      have HR := Lib.hid hR
      clear hR hb HC HE HJ HJ2
      gi_wp2
      refine HR.out.mono ?_
      rintro e3 w3 (⟨rfl, hJ3, hk3⟩ | ⟨rfl, hJx3⟩)
      · have HE3 := Lib.hid (HE2.out.to hk3 hg)
        have HJ3 := Lib.hid hJ3
        have E3 : Hid ((m = true → vals (pre ++ [⟨p, hp⟩]) ++ wds r = wds t) ∧ (m = false → vals (pre ++ [⟨p, hp⟩]) = wds t)) := by
          refine ⟨fun em => ?_, fun em => ?_⟩
          · rw [vals_snoc, ← e.out, HW.out, em]; simp
          · rw [vals_snoc, ← e.out, HW.out, em]; simp
        have HL : Hid (m = true → r.length < q.length) := hlt
        clear hk3 hJ3 HR e HW hlt hlen HE2
        gi_wp2
        go_roundw
        case rel => exact ⟨pre ++ [⟨p, hp⟩], r, m, rfl, rfl, hr, HE3.out, HJ3.out, E3.out.1, E3.out.2⟩
        case measure =>
          have := HL.out
          cases m with
          | true => have := this rfl; simp [left1, ByteArray.size]; omega
          | false => simp [left1]; omega
      · have HX : Hid (vals (pre ++ [⟨p, hp⟩]) <+: wds t) := by
          rw [vals_snoc, ← e.out, HW.out]
          exact ⟨if m = true then wds r else [], by simp⟩
        have HJX := Lib.hid hJx3
        clear hJx3 HR e HW hlt hlen HE2
        gi_wp2
        refine bodyPost_ret (results_none rfl _ _ _) rfl ?_
        exact ⟨⟨_, rfl⟩, .inr ⟨pre ++ [⟨p, hp⟩], HX.out, HJX.out⟩⟩
set_option maxHeartbeats 1000000 in
theorem fwords_any (t : ByteArray) (w : World) :
    Calls Tryd.prog 34 #[.string t] w fun e w' => e = .returned (.func (.func 54) #[] #[.pointer (some ⟨w.heap.size, 0, none⟩)]) ∧ w' = w.alloc (.cells #[.string t] 9) := by
  go_enter Tryd.func34, Tryd.ntmps34
  go_wp2_with fail
  go_ret
  exact ⟨rfl, rfl⟩
theorem words_stops (n : Nat) (hn : 1 ≤ n) (Bn n0 : Nat) (t : List UInt8) (ht : t.length < 4294967281) (w : World) (hBn : Bn < w.heap.size) (hg : gAll n0)
    (hc : w.cell? ⟨Bn, 0, none⟩ = some (.string ⟨t.toArray⟩)) (hE : HasE w) :
    SeqStopsK Fence.wide n Tryd.prog 54 #[.pointer (some ⟨Bn, 0, none⟩)] encW (Below n0) (fun ys => vals ys = wds t) (fun pre => vals pre <+: wds t) (wds t).length w := fun l J Jx W hW hJ _ hY h0 =>
  words1_in n hn l Bn n0 hg t ht J Jx _ hJ hY W (cellB hc hW hBn) (hE.below hW (Nat.le_refl _)) h0
end Go.Proofs.YtaaenobckipfkaaDoor

namespace Go.Proofs.YtaaenobckipfkaaDoor
open Go.RowKit Go.Blk Go.Shelf Go.Pa Go.Rf
attribute [local go_sem] Oper.semAt_some

theorem atoi_ok (l : List UInt8) (v : Int) (w : World) (hl : l.length < 4294967281) (h : Lib.atoiAll l = .ok v) :
    Calls Tryd.prog 35 #[.string ⟨l.toArray⟩] w fun e w' => e = .returned (.tuple #[.int .i64 v, .nilIface]) ∧ Below w.heap.size w w' := by
  refine (Tryd.strconv_Atoi_ok ⟨l.toArray⟩ (by show l.toArray.size ≤ _; simp; omega) v h w).mono ?_
  rintro e w' ⟨rfl, rfl | ⟨t, rfl⟩⟩
  · exact ⟨rfl, Below.refl _ _⟩
  · exact ⟨rfl, Lib.bytesWorld_below _ _ _⟩
def AtoiBad (w : World) (e : Ending) (w' : World) : Prop := Below w.heap.size w w' ∧ ∃ v T N, e = .returned (.tuple #[.int .i64 v, .iface T (.pointer (some ⟨N, 0, none⟩))])
theorem atoi_bad (l : List UInt8) (w : World) (hl : l.length < 4294967281) (h : ∀ v, Lib.atoiAll l ≠ .ok v) (hE : HasE w) :
    Calls Tryd.prog 35 #[.string ⟨l.toArray⟩] w (AtoiBad w) := by
  cases hr : Lib.atoiAll l
  · exact absurd hr (h _)
  · obtain ⟨ev, hv, he⟩ := hE.s
    refine (Tryd.strconv_Atoi_syntax ⟨l.toArray⟩ (by show l.toArray.size ≤ _; simp; omega) hr ev w hv he).mono ?_
    rintro e w' ⟨N, rfl, _, _, hb⟩
    exact ⟨hb, _, _, _, rfl⟩
  · obtain ⟨ev, hv, he⟩ := hE.r
    refine (Tryd.strconv_Atoi_range ⟨l.toArray⟩ (by show l.toArray.size ≤ _; simp; omega) hr ev w hv he).mono ?_
    rintro e w' ⟨N, rfl, _, _, hb⟩
    exact ⟨hb, _, _, _, rfl⟩
theorem block_own {β : Type} (k : Nat) (c : Array Value) (t : TypeId) (f : Nat × Nat) : Own (fun (_ : β) W => W.heap[k]? = some (.cells c t f)) := by
  intro s X Y row h hg hr
  refine (hg.block k (Array.getElem?_eq_some_iff.1 h).1 (fun e => ?_)).trans h
  obtain ⟨o, ho, hc⟩ := hr k e.symm
  rw [h] at ho; cases ho; cases hc
theorem info3 : (Tryd.prog.info? 3).map (fun i => (i.zero, i.size, i.bytes)) = some (some (.int .i64 0), 1, 8) := by kernel_rfl

theorem row_form {w : World} {B e s n : Nat} {v : Value} {xs : List Value} (h : w.ownsRow B e s v n xs) : ∃ A c, v = .slice A n c := by
  obtain ⟨_, ⟨h1, h2⟩ | ⟨g, cap, cur, h1, _⟩⟩ := h
  · exact ⟨none, 0, by rw [h1, h2]⟩
  · exact ⟨_, _, h1⟩
def stW (pre : List Pc) : Option (Bool × List Int) := runW (vals pre)
def fsW (pre : List Pc) : Bool := ((stW pre).getD (true, [])).1
def nsW (pre : List Pc) : List Int := ((stW pre).getD (true, [])).2
abbrev zeroF : Array Value := #[.int .i64 0, .int .i64 0, .int .i64 0, .int .i64 0, .int .i64 0, .bool false]
theorem infoF : (Tryd.prog.info? 24).map (·.size) = some zeroF.size := by kernel_rfl
theorem oneF : zeroF.all (·.oneCell') = true := by kernel_rfl
theorem cell_row {w : World} {g : Nat} {cs : Array Value} {a : Addr} (h : a.block ≠ g) : (w.setRow g cs).heap[a.block]? = w.heap[a.block]? := by
  unfold World.setRow
  simp only [Array.getElem?_modify]
  rw [if_neg (fun e => h e.symm)]
def PI (w : World) (pre : List Pc) (W : World) : Prop :=
  ((∃ v, Boxed W (w.heap.size + 1 + 1) 63 v ∧ W.ownsRow w.heap.size 3 1 v (nsW pre).length ((nsW pre).map (Value.int .i64)) ∧ True) ∧
  Boxed W (w.heap.size + 1 + 1 + 1) 4 (.bool (fsW pre)) ∧ Boxed W (w.heap.size + 1) 29 (.int .i64 0) ∧ W.heap[w.heap.size]? = some (.cells zeroF 24 (0, 0))) ∧ (Below w.heap.size w W ∧ (stW pre).isSome = true)
def PX (w : World) (c : Code) (pre : List Pc) (W : World) : Prop :=
  (Boxed W (w.heap.size + 1) 29 (.int .i64 6) ∧ W.heap[w.heap.size]? = some (.cells zeroF 24 (0, 0))) ∧ (Below w.heap.size w W ∧ (c = .ret ∧ stW pre = none))
theorem PI_own (w : World) (B : Nat) (hB : w.heap.size ≤ B) : OwnFrom B (PI w) :=
  OwnFrom.and (OwnFrom.and (Own.from (holdsRow_own w.heap.size (w.heap.size + 1 + 1) 63 3 1 (fun pre => (nsW pre).length) (fun pre => (nsW pre).map (Value.int .i64)) (fun _ _ => True)) _)
    (OwnFrom.and (Own.from (boxed_own _ _ _) _) (OwnFrom.and (Own.from (boxed_own _ _ _) _) (Own.from (block_own _ _ _ _) _)))) (OwnFrom.and (ownFrom_below (Nat.le_refl _) hB) (ownFrom_pure _ _))
theorem PX_own (w : World) (B : Nat) (hB : w.heap.size ≤ B) (c : Code) : OwnFrom B (PX w c) :=
  OwnFrom.and (OwnFrom.and (Own.from (boxed_own _ _ _) _) (Own.from (block_own _ _ _ _) _)) (OwnFrom.and (ownFrom_below (Nat.le_refl _) hB) (ownFrom_pure _ _))
theorem row_below {B g : Nat} {w : World} {cs : Array Value} (h : B ≤ g) : Below B w (w.setRow g cs) :=
  ⟨rfl, rfl, rfl, by simp [World.setRow], fun k hk => cell_row (a := ⟨k, 0, none⟩) (by show k ≠ g; omega)⟩
theorem row_keeps {g : Nat} {w : World} {cs : Array Value} : KeepsOthers w (w.setRow g cs) := by
  refine ⟨by simp [World.setRow], fun k o hk ho => ?_⟩
  unfold World.setRow
  simp only [Array.getElem?_modify]
  split
  · rw [hk]
    cases o <;> first | rfl | cases ho
  · exact hk
theorem px_end {w W w2 : World} {pre : List Pc} (B : Nat) (hK : KeepsOthers W w2) (hz : w2.heap[w.heap.size]? = some (.cells zeroF 24 (0, 0))) (he : Boxed w2 (w.heap.size + 1) 29 (.int .i64 0)) (hB : Below w.heap.size w w2) (hs : stW pre = none) :
    KeepsFrom B W ((w2.setRow w.heap.size zeroF).setCell ⟨w.heap.size + 1, 0, none⟩ (.int .i64 6)) ∧ PX w .ret pre ((w2.setRow w.heap.size zeroF).setCell ⟨w.heap.size + 1, 0, none⟩ (.int .i64 6)) := by
  have he2 : Boxed (w2.setRow w.heap.size zeroF) (w.heap.size + 1) 29 (.int .i64 0) := (cell_row (a := ⟨w.heap.size + 1, 0, none⟩) (by simp)).trans he
  refine ⟨((hK.trans row_keeps).trans (KeepsOthers.setCell _ _ _)).from _, ⟨he2.set _, ?_⟩, ?_, rfl, hs⟩
  · rw [Below.heap_setCell _ ⟨w.heap.size + 1, 0, none⟩ _ w.heap.size (by show w.heap.size ≠ w.heap.size + 1; omega)]
    exact setRow_heap _ _ _ _ _ _ hz
  · exact (hB.trans (row_below (Nat.le_refl _))).setCell (p := ⟨w.heap.size + 1, 0, none⟩) (by show _ ≤ w.heap.size + 1; omega) _
theorem fs_of {pre : List Pc} {f : Bool} {ns : List Int} (h : stW pre = some (f, ns)) : fsW pre = f ∧ nsW pre = ns := by unfold fsW nsW; rw [h]; exact ⟨rfl, rfl⟩
theorem pi_first {w W : World} {pre pre' : List Pc} (B : Nat) (h : PI w pre W) (hn : nsW pre = []) (hs : stW pre' = some (false, [])) :
    KeepsFrom B W (W.setCell ⟨w.heap.size + 1 + 1 + 1, 0, none⟩ (.bool false)) ∧ Below w.heap.size W (W.setCell ⟨w.heap.size + 1 + 1 + 1, 0, none⟩ (.bool false)) ∧ PI w pre' (W.setCell ⟨w.heap.size + 1 + 1 + 1, 0, none⟩ (.bool false)) := by
  obtain ⟨⟨⟨v, hv, hrow, _⟩, hf, he, hz⟩, hB, _⟩ := h
  obtain ⟨e1, e2⟩ := fs_of hs
  have hb : Below w.heap.size W (W.setCell ⟨w.heap.size + 1 + 1 + 1, 0, none⟩ (.bool false)) := (Below.refl _ _).setCell (p := ⟨w.heap.size + 1 + 1 + 1, 0, none⟩) (by show _ ≤ w.heap.size + 1 + 1 + 1; omega) _
  refine ⟨(KeepsOthers.setCell _ _ _).from _, hb, ⟨⟨v, hv.other (by omega) _, ?_, trivial⟩, ?_, he.other (by omega) _, ?_⟩, hB.trans hb, by rw [hs]; rfl⟩
  · rw [e2, ← hn]
    exact hrow.kept (grownBy_setCell' W (w.heap.size + 1 + 1 + 1) (.bool false)) (.inr (hf.not_row (by decide) hrow).symm)
  · rw [e1]; exact hf.set _
  · rw [Below.heap_setCell _ ⟨w.heap.size + 1 + 1 + 1, 0, none⟩ _ w.heap.size (by show w.heap.size ≠ w.heap.size + 1 + 1 + 1; omega)]
    exact hz
theorem pi_append {w W w2 w1 : World} {pre' : List Pc} {ns : List Int} {u : Int} {A2 : Option Addr} {c2 g' cap' : Nat} {tmp : Obj} (B : Nat) (hK : KeepsOthers W w2) (hW : Below w.heap.size W w2) (hB : Below w.heap.size w w2)
    (hv : Boxed w2 (w.heap.size + 1 + 1) 63 (.slice A2 ns.length c2)) (hrow : w2.ownsRow w.heap.size 3 1 (.slice A2 ns.length c2) ns.length (ns.map (Value.int .i64)))
    (hf : Boxed w2 (w.heap.size + 1 + 1 + 1) 4 (.bool false)) (he : Boxed w2 (w.heap.size + 1) 29 (.int .i64 0)) (hz : w2.heap[w.heap.size]? = some (.cells zeroF 24 (0, 0)))
    (hown' : w1.ownsRow w.heap.size 3 1 (.slice (some ⟨g', 0, none⟩) (ns.length + 1) cap') (ns.length + 1) (ns.map (Value.int .i64) ++ [.int .i64 u])) (hgrow : (w2.alloc tmp).grownBy w1 (Value.slice A2 ns.length c2).ownBlock) (hs : stW pre' = some (false, ns ++ [u])) :
    KeepsFrom B W (w1.setCell ⟨w.heap.size + 1 + 1, 0, none⟩ (.slice (some ⟨g', 0, none⟩) (ns.length + 1) cap')) ∧ Below w.heap.size W (w1.setCell ⟨w.heap.size + 1 + 1, 0, none⟩ (.slice (some ⟨g', 0, none⟩) (ns.length + 1) cap')) ∧ PI w pre' (w1.setCell ⟨w.heap.size + 1 + 1, 0, none⟩ (.slice (some ⟨g', 0, none⟩) (ns.length + 1) cap')) := by
  obtain ⟨hv1, hv2, hr2, hk2, hb2⟩ := hv.appended (by decide) hrow hB.size (by omega) hown' hgrow
  obtain ⟨e1, e2⟩ := fs_of hs
  have hz1 : w1.heap[w.heap.size]? = some (.cells zeroF 24 (0, 0)) := by
    refine (hgrow.block _ (by have := (Array.getElem?_eq_some_iff.1 hz).1; simp; omega) ?_).trans (old_at hz)
    obtain ⟨_, ⟨h1, _⟩ | ⟨g, cap, cur, h1, _, h3, _⟩⟩ := hrow
    · rw [h1]; simp [Value.ownBlock]
    · rw [h1]; intro e
      simp [Value.ownBlock] at e
      rw [← e, hz] at h3; cases h3
  refine ⟨(hK.trans hk2).from _, hW.trans hb2, ⟨⟨_, hv2, ?_, trivial⟩, ?_, ?_, ?_⟩, hB.trans hb2, by rw [hs]; rfl⟩
  · rw [e2]
    simpa using hr2
  · rw [e1]; exact ((hf.alloc tmp).kept hgrow (hf.not_row (by decide) hrow)).other (by omega) _
  · exact ((he.alloc tmp).kept hgrow (he.not_row (by decide) hrow)).other (by omega) _
  · rw [Below.heap_setCell _ ⟨w.heap.size + 1 + 1, 0, none⟩ _ w.heap.size (by show w.heap.size ≠ w.heap.size + 1 + 1; omega)]
    exact hz1
theorem leave_fact {R : Ending → World → Prop} {W : World} {D b : Nat} {c0 c1 c2 c3 c4 c5 : Value} {k : Int} (n : Nat) (tmps : Array Value) (h2 : tmps[2]?.getD undef = .pointer (some ⟨b, 0, none⟩)) (h3 : tmps[3]?.getD undef = .pointer (some ⟨b + 1, 0, none⟩))
    (hz : W.heap[b]? = some (.cells #[c0, c1, c2, c3, c4, c5] 24 (0, 0))) (he : Boxed W (b + 1) 29 (.int .i64 k)) (hK : W.heap[D]? = some (.deferred (some [])))
    (hR : R (.returned (.tuple #[.agg #[c0, c1, c2, c3, c4, c5], .int .i64 k])) (W.putObj D (.deferred none))) : bodyPostM Fence.wide n Tryd.prog Tryd.f15 R .ret { tmps, defers := [{ target := .collected D, args := #[] }] } W := by
  refine ⟨by simp, .inl ⟨_, _, rfl, run_takeDeferred hK, ?_⟩⟩
  have hz2 : (W.putObj D (.deferred none)).heap[b]? = some (.cells #[c0, c1, c2, c3, c4, c5] 24 (0, 0)) := by
    rw [World.putObj_heap_other (fun e => by subst e; rw [hz] at hK; cases hK)]; exact hz
  have he2 : (W.putObj D (.deferred none)).cell? ⟨b + 1, 0, none⟩ = some (.int .i64 k) := by
    rw [World.cell?_of_block (World.putObj_heap_other (fun e => by subst e; rw [show W.heap[b + 1]? = _ from he] at hK; cases hK))]; exact he.cell
  have p0 : (W.putObj D (.deferred none)).cell? ⟨b, 0, none⟩ = some c0 := by simp [World.cell?, hz2]
  have p1 : (W.putObj D (.deferred none)).cell? ⟨b, 1, none⟩ = some c1 := by simp [World.cell?, hz2]
  have p2 : (W.putObj D (.deferred none)).cell? ⟨b, 2, none⟩ = some c2 := by simp [World.cell?, hz2]
  have p3 : (W.putObj D (.deferred none)).cell? ⟨b, 3, none⟩ = some c3 := by simp [World.cell?, hz2]
  have p4 : (W.putObj D (.deferred none)).cell? ⟨b, 4, none⟩ = some c4 := by simp [World.cell?, hz2]
  have p5 : (W.putObj D (.deferred none)).cell? ⟨b, 5, none⟩ = some c5 := by simp [World.cell?, hz2]
  refine ⟨.tuple #[.agg #[c0, c1, c2, c3, c4, c5], .int .i64 k], ?_, hR⟩
  clear hz2 hR hz he hK
  simp [results, Tryd.results15, go_sem, h2, h3, p0, p1, p2, p3, p4, p5, he2]
def ParsePost (t : ByteArray) (w : World) (e : Ending) (w' : World) : Prop := Below w.heap.size w w' ∧
  ((∃ x : Fac, x.Ok ∧ bdF x = t ∧ e = .returned (.tuple #[.agg (encF x).toArray, .int .i64 0])) ∨ ((∀ x : Fac, x.Ok → bdF x ≠ t) ∧ e = .returned (.tuple #[.agg zeroF, .int .i64 6])))
set_option maxRecDepth 100000 in
set_option maxHeartbeats 4000000 in
theorem parse_any (t : List UInt8) (w : World) (ht : t.length < 4294967281) (hT : HasT w) (hE : HasE w) :
    Calls Tryd.prog 15 #[.string ⟨t.toArray⟩] w (ParsePost ⟨t.toArray⟩ w) := by
  have HT := Lib.hid hT
  have HE := Lib.hid hE
  clear hT hE
  obtain ⟨R, eR⟩ : ∃ R, R = ParsePost ⟨t.toArray⟩ w := ⟨_, rfl⟩
  rw [← eR]
  have ER := Lib.hid eR
  clear eR
  refine calls_marks 4 Tryd.func15 rfl ?_
  simp only [Tryd.ntmps15, List.size_toArray, List.length_cons, List.length_nil, Nat.reduceAdd, Nat.reduceSub, Array.replicate_succ, Array.replicate_zero, List.push_toArray, List.append_toArray, List.nil_append, List.cons_append]
  go_wp2_with fail
  refine (fwords_any _ _).mono ?_
  rintro e w' ⟨rfl, rfl⟩
  go_wp2_with fail
  have hsz : (((((w.alloc (.cells zeroF 24)).alloc (.cells #[.int .i64 0] 29)).alloc (.cells #[.slice none 0 0] 63)).alloc (.cells #[.bool true] 4)).alloc (.cells #[.string ⟨t.toArray⟩] 9)).heap.size = w.heap.size + 5 := by simp
  have HB0 : Hid (Below w.heap.size w (((((w.alloc (.cells zeroF 24)).alloc (.cells #[.int .i64 0] 29)).alloc (.cells #[.slice none 0 0] 63)).alloc (.cells #[.bool true] 4)).alloc (.cells #[.string ⟨t.toArray⟩] 9))) :=
    (((((Below.refl _ w).alloc (Nat.le_refl _) _).alloc (by simp) _).alloc (by simp; omega) _).alloc (by simp; omega) _).alloc (by simp; omega) _
  have HI0 : Hid (PI w [] (((((w.alloc (.cells zeroF 24)).alloc (.cells #[.int .i64 0] 29)).alloc (.cells #[.slice none 0 0] 63)).alloc (.cells #[.bool true] 4)).alloc (.cells #[.string ⟨t.toArray⟩] 9))) := by
    refine ⟨⟨⟨.slice none 0 0, ?_, World.ownsRow_nil _ _ _ _, trivial⟩, ?_, ?_, ?_⟩, HB0.out, rfl⟩
    · exact old_at (old_at (new_at (by simp)))
    · exact old_at (new_at (by simp))
    · exact old_at (old_at (old_at (new_at (by simp))))
    · exact old_at (old_at (old_at (old_at (new_at rfl))))
  obtain ⟨W0, eW0⟩ : ∃ W0, W0 = (((((w.alloc (.cells zeroF 24)).alloc (.cells #[.int .i64 0] 29)).alloc (.cells #[.slice none 0 0] 63)).alloc (.cells #[.bool true] 4)).alloc (.cells #[.string ⟨t.toArray⟩] 9)) := ⟨_, rfl⟩
  have hbx : W0.cell? ⟨w.heap.size + 1 + 1 + 1 + 1, 0, none⟩ = some (.string ⟨t.toArray⟩) := by rw [eW0]; exact Boxed.cell (t := 9) (new_at (by simp))
  rw [← eW0] at hsz HB0 HI0 ⊢
  clear eW0
  have HSZ := Lib.hid hsz
  have hsz' : w.heap.size ≤ W0.heap.size := by omega
  refine wp_range (α := Pc) (encs := encW) (n0 := w.heap.size) 4 (by decide) rfl (enters_of Tryd.func54 (by kernel_rfl) rfl) (by omega) (words_stops 3 (by decide) _ _ t ht W0 (by omega) HE.out.lt hbx (HE.out.below HB0.out (Nat.le_refl _))) (fun _ => rfl)
    (PI w) (PX w) (PI_own w _ (by omega)) (PX_own w _ (by omega)) HI0.out ?a1 ?assign ?body ?done ?stop
  case assign =>
    intro l x W K hK
    gi_wp2
    exact hK
  case body =>
    clear HI0 hbx hsz
    go_light
    rintro l pre ⟨p, hp⟩ W hPI hlt
    have HPI := Lib.hid hPI
    obtain ⟨⟨⟨v, hv, hrow, _⟩, hf, he, hz⟩, hB, hs⟩ := hPI
    obtain ⟨f, ns, est⟩ : ∃ f ns, stW pre = some (f, ns) := by
      cases h : stW pre with
      | none => rw [h] at hs; cases hs
      | some q => exact ⟨q.1, q.2, rfl⟩
    have EFS : Hid (fsW pre = f) := by show _ = _; unfold fsW; rw [est]; rfl
    have ENS : Hid (nsW pre = ns) := by show _ = _; unfold nsW; rw [est]; rfl
    have FA := Lib.hid (runW_facts est)
    have EST : Hid (stW (pre ++ [⟨p, hp⟩]) = stepW (some (f, ns)) p) := by
      show runW (vals (pre ++ [⟨p, hp⟩])) = _
      rw [vals_snoc, runW_snoc]; show stepW (stW pre) p = _; rw [est]
    rw [EFS.out] at hf
    have hfc := hf.cell
    have hff := hf.frozen
    clear hv hrow he hz hB hs est
    cases f with
    | true =>
      by_cases hw : p = [102, 97, 99, 116]
      · have EST2 : Hid (stW (pre ++ [⟨p, hp⟩]) = some (false, [])) := by rw [EST.out, hw]; rfl
        have hq : (p == [102, 97, 99, 116]) = true := by rw [hw]; rfl
        clear hw EST
        gi_wp2
        exact pi_first _ HPI.out (by rw [ENS.out]; exact FA.out.1 trivial) EST2.out
      · have EST2 : Hid (stW (pre ++ [⟨p, hp⟩]) = none) := by rw [EST.out]; show (if _ then _ else _) = _; rw [if_neg hw]
        have hq : (p == [102, 97, 99, 116]) = false := by simpa using hw
        clear hw EST
        cases hat : Lib.atoiAll p with
        | ok u =>
          have HAT := Lib.hid hat
          clear hat
          gi_wp2
          refine ⟨trivial, Free.calls_in ?_⟩
          refine (atoi_ok p u _ hp HAT.out).mono ?_
          rintro e2 w2 ⟨rfl, hb2⟩
          have HP2 := Lib.hid (own_below (PI_own w _ (Nat.le_refl _)) HPI.out hb2)
          have HK2 := Lib.hid (keeps_of hb2)
          clear hb2 HPI hf hfc hff
          obtain ⟨⟨⟨v2, hv, hrow, _⟩, hf, he, hz⟩, hB, hs⟩ := HP2.out
          rw [EFS.out] at hf
          rw [ENS.out] at hrow
          have hfc := hf.cell
          have hff := hf.frozen
          have hvc := hv.cell
          obtain ⟨A2, c2, rfl⟩ := row_form hrow
          have HZ := Lib.hid hz
          have HE2 := Lib.hid he
          have HB2 := Lib.hid hB
          have hec : (w2.setRow w.heap.size zeroF).cell? ⟨w.heap.size + 1, 0, none⟩ = some (.int .i64 0) := by rw [World.cell?_of_block (cell_row (by simp))]; exact he.cell
          have hef : (w2.setRow w.heap.size zeroF).frozen? ⟨w.heap.size + 1, 0, none⟩ = false := by rw [World.frozen?_of_block (cell_row (by simp))]; exact he.frozen
          clear hz he hB hs
          gi_wp2_with (with_reducible refine Free.listIn_store_row rfl 24 (.tmp 2) (.tmp 33) rfl w.heap.size zeroF rfl rfl 24 zeroF HZ.out infoF rfl oneF ?_)
          exact px_end _ HK2.out HZ.out HE2.out HB2.out EST2.out
        | _ =>
          have HAT := Lib.hid hat
          clear hat
          gi_wp2
          refine ⟨trivial, Free.calls_in ?_⟩
          refine (atoi_bad p _ hp (fun v hv => by rw [HAT.out] at hv; cases hv) (HE.out.below HPI.out.2.1 (Nat.le_refl _))).mono ?_
          rintro e2 w2 ⟨hb2, u, T, Nn, rfl⟩
          have HP2 := Lib.hid (own_below (PI_own w _ (Nat.le_refl _)) HPI.out hb2)
          have HK2 := Lib.hid (keeps_of hb2)
          clear hb2 HPI hf hfc hff
          obtain ⟨⟨⟨v2, hv, hrow, _⟩, hf, he, hz⟩, hB, hs⟩ := HP2.out
          rw [EFS.out] at hf
          rw [ENS.out] at hrow
          have hfc := hf.cell
          have hff := hf.frozen
          have hvc := hv.cell
          obtain ⟨A2, c2, rfl⟩ := row_form hrow
          have HZ := Lib.hid hz
          have HE2 := Lib.hid he
          have HB2 := Lib.hid hB
          have hec : (w2.setRow w.heap.size zeroF).cell? ⟨w.heap.size + 1, 0, none⟩ = some (.int .i64 0) := by rw [World.cell?_of_block (cell_row (by simp))]; exact he.cell
          have hef : (w2.setRow w.heap.size zeroF).frozen? ⟨w.heap.size + 1, 0, none⟩ = false := by rw [World.frozen?_of_block (cell_row (by simp))]; exact he.frozen
          clear hz he hB hs
          gi_wp2_with (with_reducible refine Free.listIn_store_row rfl 24 (.tmp 2) (.tmp 33) rfl w.heap.size zeroF rfl rfl 24 zeroF HZ.out infoF rfl oneF ?_)
          exact px_end _ HK2.out HZ.out HE2.out HB2.out EST2.out
    | false =>
      cases hat : Lib.atoiAll p with
      | ok u =>
        have HAT := Lib.hid hat
        clear hat
        by_cases h6 : ns.length = 6
        · have EST2 : Hid (stW (pre ++ [⟨p, hp⟩]) = none) := by rw [EST.out]; show stepW _ _ = _; unfold stepW; simp only [HAT.out, h6, if_true]
          have hn6 : ((ns.length : Int) == 6) = true := by rw [h6]; rfl
          have H6 := Lib.hid h6
          clear h6 EST
          gi_wp2
          refine ⟨trivial, Free.calls_in ?_⟩
          refine (atoi_ok p u _ hp HAT.out).mono ?_
          rintro e2 w2 ⟨rfl, hb2⟩
          have HP2 := Lib.hid (own_below (PI_own w _ (Nat.le_refl _)) HPI.out hb2)
          have HK2 := Lib.hid (keeps_of hb2)
          clear hb2 HPI hf hfc hff
          obtain ⟨⟨⟨v2, hv, hrow, _⟩, hf, he, hz⟩, hB, hs⟩ := HP2.out
          rw [EFS.out] at hf
          rw [ENS.out] at hrow
          have hfc := hf.cell
          have hff := hf.frozen
          have hvc := hv.cell
          obtain ⟨A2, c2, rfl⟩ := row_form hrow
          have HZ := Lib.hid hz
          have HE2 := Lib.hid he
          have HB2 := Lib.hid hB
          have hec : (w2.setRow w.heap.size zeroF).cell? ⟨w.heap.size + 1, 0, none⟩ = some (.int .i64 0) := by rw [World.cell?_of_block (cell_row (by simp))]; exact he.cell
          have hef : (w2.setRow w.heap.size zeroF).frozen? ⟨w.heap.size + 1, 0, none⟩ = false := by rw [World.frozen?_of_block (cell_row (by simp))]; exact he.frozen
          clear hz he hB hs
          gi_wp2_with (with_reducible refine Free.listIn_store_row rfl 24 (.tmp 2) (.tmp 33) rfl w.heap.size zeroF rfl rfl 24 zeroF HZ.out infoF rfl oneF ?_)
          exact px_end _ HK2.out HZ.out HE2.out HB2.out EST2.out
        · have EST2 : Hid (stW (pre ++ [⟨p, hp⟩]) = some (false, ns ++ [u])) := by rw [EST.out]; show stepW _ _ = _; unfold stepW; simp only [HAT.out, h6, if_false]
          have hn6 : ((ns.length : Int) == 6) = false := beq_eq_false_iff_ne.2 (by omega)
          have hn6' : ns.length < 6 := by have := FA.out.2.1; omega
          clear h6 EST
          gi_wp2
          refine ⟨trivial, Free.calls_in ?_⟩
          refine (atoi_ok p u _ hp HAT.out).mono ?_
          rintro e2 w2 ⟨rfl, hb2⟩
          have HP2 := Lib.hid (own_below (PI_own w _ (Nat.le_refl _)) HPI.out hb2)
          have HK2 := Lib.hid (keeps_of hb2)
          have HW2 := Lib.hid (hb2.mono HPI.out.2.1.size)
          clear hb2 HPI hf hfc hff
          obtain ⟨⟨⟨v2, hv, hrow, _⟩, hf, he, hz⟩, hB, hs⟩ := HP2.out
          rw [EFS.out] at hf
          rw [ENS.out] at hrow
          have hfc := hf.cell
          have hff := hf.frozen
          have hvc := hv.cell
          have hvf := hv.frozen
          obtain ⟨A2, c2, rfl⟩ := row_form hrow
          obtain ⟨i0, hi, hz0, hz1, hz2⟩ := info_parts info3
          have HZ := Lib.hid hz
          have HB2 := Lib.hid hB
          have HE2 := Lib.hid he
          clear hz he hs
          gi_wp2_with (gi_at_builtin; refine wpListIn_append_own _ rfl _ _ 63 rfl w.heap.size 3 i0 (.int .i64 0) 1 8 Tryd.underlying63 hi hz0 hz1 hz2 rfl (by decide) _ _ _ rfl (hrow.alloc _) ⟨w2.heap.size, 0, none⟩ 1 1 [.int .i64 u] rfl rfl (cell_one_new _ _ _) (by simp [Value.oneCell']) (by have : maxLen = 9223372036854775807 := rfl; omega) (by omega) (by have := hB.size; simp; omega) ?_; intro v' w1 hown' hgrow _; obtain ⟨g', cap', rfl⟩ := ownsRow_succ hown'; have hv1 := (hv.appended (by decide) hrow hB.size (by omega) hown' hgrow).1; have hc1 := hv1.cell; have hf1 := hv1.frozen)
          exact pi_append _ HK2.out HW2.out HB2.out hv hrow hf HE2.out HZ.out hown' hgrow EST2.out
      | _ =>
        have HAT := Lib.hid hat
        clear hat
        have EST2 : Hid (stW (pre ++ [⟨p, hp⟩]) = none) := by rw [EST.out]; show stepW _ _ = _; unfold stepW; simp only [HAT.out]
        clear EST
        gi_wp2
        refine ⟨trivial, Free.calls_in ?_⟩
        refine (atoi_bad p _ hp (fun v hv => by rw [HAT.out] at hv; cases hv) (HE.out.below HPI.out.2.1 (Nat.le_refl _))).mono ?_
        rintro e2 w2 ⟨hb2, u, T, Nn, rfl⟩
        have HP2 := Lib.hid (own_below (PI_own w _ (Nat.le_refl _)) HPI.out hb2)
        have HK2 := Lib.hid (keeps_of hb2)
        clear hb2 HPI hf hfc hff
        obtain ⟨⟨⟨v2, hv, hrow, _⟩, hf, he, hz⟩, hB, hs⟩ := HP2.out
        rw [EFS.out] at hf
        rw [ENS.out] at hrow
        have hfc := hf.cell
        have hff := hf.frozen
        have hvc := hv.cell
        obtain ⟨A2, c2, rfl⟩ := row_form hrow
        have HZ := Lib.hid hz
        have HE2 := Lib.hid he
        have HB2 := Lib.hid hB
        have hec : (w2.setRow w.heap.size zeroF).cell? ⟨w.heap.size + 1, 0, none⟩ = some (.int .i64 0) := by rw [World.cell?_of_block (cell_row (by simp))]; exact he.cell
        have hef : (w2.setRow w.heap.size zeroF).frozen? ⟨w.heap.size + 1, 0, none⟩ = false := by rw [World.frozen?_of_block (cell_row (by simp))]; exact he.frozen
        clear hz he hB hs
        gi_wp2_with (with_reducible refine Free.listIn_store_row rfl 24 (.tmp 2) (.tmp 33) rfl w.heap.size zeroF rfl rfl 24 zeroF HZ.out infoF rfl oneF ?_)
        exact px_end _ HK2.out HZ.out HE2.out HB2.out EST2.out
  case stop =>
    rintro D c pre W hD hpre ⟨⟨he, hz⟩, hB, rfl, hs⟩ hK
    have hR : R (.returned (.tuple #[.agg zeroF, .int .i64 6])) (W.putObj D (.deferred none)) := by
      rw [ER.out]
      refine ⟨hB.trans (belowK_b (w := w) (Nat.le_refl _) W D _ _ (by omega) hK rfl rfl), .inr ⟨fun x hx e => ?_, rfl⟩⟩
      have h1 := run_bdF hx
      rw [e] at h1
      have h2 := runW_prefix hpre hs
      rw [h2] at h1; cases h1
    have HZ := Lib.hid hz
    have HE2 := Lib.hid he
    have HK := Lib.hid hK
    have HR := Lib.hid hR
    clear hz he hK hR hB hs
    go_wp2_with fail
    exact leave_fact 4 _ rfl rfl HZ.out HE2.out HK.out HR.out
  case done =>
    clear HI0 hbx hsz
    rintro D xs W hD hS hPI hK
    obtain ⟨⟨⟨v2, hv, hrow, _⟩, hf, he, hz⟩, hB, hs⟩ := hPI
    obtain ⟨f, ns, est⟩ : ∃ f ns, stW xs = some (f, ns) := by
      cases h : stW xs with
      | none => rw [h] at hs; cases hs
      | some q => exact ⟨q.1, q.2, rfl⟩
    have RUN : Hid (runW (wds t) = some (f, ns)) := by rw [← hS]; exact est
    have FA := Lib.hid (runW_facts est)
    rw [(fs_of est).2] at hrow
    obtain ⟨A2, c2, rfl⟩ := row_form hrow
    have hvc := hv.cell
    have HZ := Lib.hid hz
    have HE2 := Lib.hid he
    have HB2 := Lib.hid hB
    have HK := Lib.hid hK
    have HROW := Lib.hid hrow
    have HV := Lib.hid hv
    have HD : Hid (w.heap.size ≤ D) := by show _ ≤ _; omega
    clear hz he hB hs hf est hS hK hrow hv hD
    by_cases h6 : ns.length = 6
    · obtain ⟨n0, n1, n2, n3, n4, n5, rfl⟩ : ∃ n0 n1 n2 n3 n4 n5, ns = [n0, n1, n2, n3, n4, n5] := by
        match ns, h6 with
        | [n0, n1, n2, n3, n4, n5], _ => exact ⟨_, _, _, _, _, _, rfl⟩
      clear h6
      obtain ⟨g, rfl⟩ : ∃ g, A2 = some ⟨g, 0, none⟩ := by
        obtain ⟨_, ⟨_, h0⟩ | ⟨g, cap, cur, h1, _⟩⟩ := HROW.out
        · cases h0
        · cases h1; exact ⟨g, rfl⟩
      have NB : Hid (∀ v ∈ [n0, n1, n2, n3, n4, n5], -9223372036854775808 ≤ v ∧ v ≤ 9223372036854775807) := FA.out.2.2
      have CE : Hid (∀ (j : Nat) (u : Value), [Value.int .i64 n0, .int .i64 n1, .int .i64 n2, .int .i64 n3, .int .i64 n4, .int .i64 n5][j]? = some u → W.cell? ⟨g, j, none⟩ = some u) := fun j u hu => by
        rw [HROW.out.cellAt j (by have := (List.getElem?_eq_some_iff.1 hu).1; simpa using this)]; exact hu
      have hn6 : (((6 : Nat) : Int) != 6) = false := rfl
      have hvc6 : W.cell? ⟨w.heap.size + 1 + 1, 0, none⟩ = some (.slice (some ⟨g, 0, none⟩) 6 c2) := hvc
      have e0 := CE.out 0 _ rfl
      have e1 := CE.out 1 _ rfl
      have e2 := CE.out 2 _ rfl
      have e3 := CE.out 3 _ rfl
      have e4 := CE.out 4 _ rfl
      have e5 := CE.out 5 _ rfl
      have HG : Hid (g < W.heap.size) := (cell_lt e0)
      have HD2 := Lib.hid (Array.getElem?_eq_some_iff.1 HK.out).1
      have HT2 := Lib.hid (HT.out.below HB2.out (Nat.le_refl _))
      have HZL : Hid (w.heap.size + 1 + 1 < W.heap.size) := (cell_lt hvc6)
      clear hvc CE FA HROW
      go_wp2_with fail
      refine Free.wp_region_free 17 [(16, .ind (fun b => .pointer (some ⟨b, 0, none⟩)) (fun b w2 => w2.heap[b]? = some (.cells zeroF 24 (0, 0)) ∧ W.heap.size ≤ b))] (fun w2 => Below W.heap.size W w2 ∧ w2.cell? ⟨w.heap.size + 1 + 1, 0, none⟩ = some (.slice (some ⟨g, 0, none⟩) 6 c2) ∧ w2.cell? ⟨g, 0, none⟩ = some (.int .i64 n0) ∧ w2.cell? ⟨g, 1, none⟩ = some (.int .i64 n1) ∧ w2.cell? ⟨g, 2, none⟩ = some (.int .i64 n2) ∧ w2.cell? ⟨g, 3, none⟩ = some (.int .i64 n3) ∧ w2.cell? ⟨g, 4, none⟩ = some (.int .i64 n4)) (by kernel_rfl) (by kernel_rfl) ?_ ⟨(Below.refl _ _).drew, hvc6, e0, e1, e2, e3, e4⟩ (fun _ _ h g => ⟨h.1.trans (Below.mono g h.1.size), cell_grow h.2.1 g, cell_grow h.2.2.1 g, cell_grow h.2.2.2.1 g, cell_grow h.2.2.2.2.1 g, cell_grow h.2.2.2.2.2.1 g, cell_grow h.2.2.2.2.2.2 g⟩) ?_
      · intro j mk r hf y w1 w2 hr gr
        simp only [Free.find] at hf
        repeat' split at hf
        all_goals (first | (cases hf; exact ⟨(gr.block _ (Array.getElem?_eq_some_iff.1 hr.1).1).trans hr.1, hr.2⟩) | cases hf)
      simp only [List.take_succ_cons, List.take_zero]
      clear hvc6 e0 e1 e2 e3 e4
      iterate 16 (apply Free.chain_still (by first | exact Free.wanted_of rfl rfl rfl | rfl) rfl; (intro w' hB hA; obtain ⟨qB, qv, q0, q1, q2, q3, q4⟩ := hB; clear hA  qB; go_light; go_simp <;> rfl); (try simp only [Act.put, List.setIfInBounds_toArray, List.set_cons_succ, List.set_cons_zero]))
      apply Free.chain_ind rfl rfl
      · intro w' hB hA
        refine Free.opRun_of (v := .pointer (some ⟨w'.heap.size, 0, none⟩)) (w' := w'.alloc (.cells zeroF 24)) (by clear hB hA; go_light; go_simp <;> rfl) ⟨Free.Grow.alloc _ _, _, rfl, new_at rfl, hB.1.size⟩
      intro b
      simp only [Act.put, List.setIfInBounds_toArray, List.set_cons_succ, List.set_cons_zero]
      apply Free.chain_nil
      intro wy hBz _ hh
      obtain ⟨hbz, hbl⟩ : wy.heap[b]? = some (.cells zeroF 24 (0, 0)) ∧ W.heap.size ≤ b := hh _ List.mem_cons_self
      obtain ⟨hbW, cv, _, _, _, _, _⟩ := hBz
      have c5 := cellB e5 hbW HG.out
      have hzl := HZL.out
      have hgl := HG.out
      have hb1 : w.heap.size + 1 + 1 ≠ b := by omega
      have hb2 : g ≠ b := by omega
      have nb0 := NB.out n0 (by simp)
      have nb1 := NB.out n1 (by simp)
      have nb2 := NB.out n2 (by simp)
      have nb3 := NB.out n3 (by simp)
      have nb4 := NB.out n4 (by simp)
      simp only [List.drop_succ_cons, List.drop_zero]
      refine wpList_store_row rfl 24 (.tmp 9) (.tmp 57) rfl b #[.int .i64 n0, .int .i64 n1, .int .i64 n2, .int .i64 n3, .int .i64 n4, .bool false] rfl rfl 24 zeroF hbz infoF rfl (by simp [Value.oneCell']) ?_
      obtain ⟨W3, eW3⟩ : ∃ W3, W3 = wy.setRow b #[.int .i64 n0, .int .i64 n1, .int .i64 n2, .int .i64 n3, .int .i64 n4, .bool false] := ⟨_, rfl⟩
      have h3z : W3.heap[b]? = some (.cells #[.int .i64 n0, .int .i64 n1, .int .i64 n2, .int .i64 n3, .int .i64 n4, .bool false] 24 (0, 0)) := by rw [eW3]; exact setRow_heap _ _ _ _ _ _ hbz
      have h3v : W3.cell? ⟨w.heap.size + 1 + 1, 0, none⟩ = some (.slice (some ⟨g, 0, none⟩) 6 c2) := by rw [eW3, World.cell?_of_block (cell_row hb1)]; exact cv
      have h35 : W3.cell? ⟨g, 5, none⟩ = some (.int .i64 n5) := by rw [eW3, World.cell?_of_block (cell_row hb2)]; exact c5
      have h3b : Below W.heap.size W W3 := by rw [eW3]; exact hbW.trans (row_below hbl)
      rw [← eW3]
      have h3c : W3.cell? ⟨b, 5, none⟩ = some (.bool false) := by simp [World.cell?, h3z]
      have h3f : W3.frozen? ⟨b, 5, none⟩ = false := by simp [World.frozen?, h3z]
      obtain ⟨sb, hsb⟩ : ∃ sb, (n5 == 1) = sb := ⟨_, rfl⟩
      have h4b : Below W.heap.size W (W3.setCell ⟨b, 5, none⟩ (.bool sb)) := h3b.setCell (p := ⟨b, 5, none⟩) hbl _
      have h4z : (W3.setCell ⟨b, 5, none⟩ (.bool sb)).heap[b]? = some (.cells #[.int .i64 n0, .int .i64 n1, .int .i64 n2, .int .i64 n3, .int .i64 n4, .bool sb] 24 (0, 0)) := by
        have hb : Blk W3 b [.int .i64 n0, .int .i64 n1, .int .i64 n2, .int .i64 n3, .int .i64 n4, .bool false] 24 := h3z
        exact hb.set 5 _
      obtain ⟨W4, eW4⟩ : ∃ W4, W4 = W3.setCell ⟨b, 5, none⟩ (.bool sb) := ⟨_, rfl⟩
      have HW4 : Hid (W3.setCell ⟨b, 5, none⟩ (.bool sb) = W4) := eW4.symm
      rw [← eW4] at h4b h4z
      have f0 : W4.cell? ⟨b, 0, none⟩ = some (.int .i64 n0) := by simp [World.cell?, h4z]
      have f1 : W4.cell? ⟨b, 1, none⟩ = some (.int .i64 n1) := by simp [World.cell?, h4z]
      have f2 : W4.cell? ⟨b, 2, none⟩ = some (.int .i64 n2) := by simp [World.cell?, h4z]
      have f3 : W4.cell? ⟨b, 3, none⟩ = some (.int .i64 n3) := by simp [World.cell?, h4z]
      have f4 : W4.cell? ⟨b, 4, none⟩ = some (.int .i64 n4) := by simp [World.cell?, h4z]
      have f5 : W4.cell? ⟨b, 5, none⟩ = some (.bool sb) := by simp [World.cell?, h4z]
      have hx : (Fac.mk n0 n1 n2 n3 n4 sb).Ok := ⟨nb0.1, nb0.2, nb1.1, nb1.2, nb2.1, nb2.2, nb3.1, nb3.2, nb4.1, nb4.2⟩
      have HX := Lib.hid hx
      have HBD : Hid (∀ w', HasT w' → Calls Tryd.prog 16 #[.agg #[.int .i64 n0, .int .i64 n1, .int .i64 n2, .int .i64 n3, .int .i64 n4, .bool sb]] w' fun e w2 => e = .returned (.string (bdF ⟨n0, n1, n2, n3, n4, sb⟩)) ∧ Below w'.heap.size w' w2) := fun w' h => body_any ⟨n0, n1, n2, n3, n4, sb⟩ w' hx h
      have HFO : Hid (∀ x : Fac, x.Ok → bdF x = ⟨t.toArray⟩ → x = ⟨n0, n1, n2, n3, n4, sb⟩) := by
        intro x hx e
        have h1 := run_bdF hx
        rw [e, show runW (wds (⟨t.toArray⟩ : ByteArray).data.toList) = some (f, [n0, n1, n2, n3, n4, n5]) from RUN.out] at h1
        simp only [Option.some.injEq, Prod.mk.injEq, List.cons.injEq, and_true] at h1
        obtain ⟨_, h1, h2, h3, h4, h5, h6⟩ := h1
        rw [← facOf_self x, ← h1, ← h2, ← h3, ← h4, ← h5, ← h6, ← hsb]; rfl
      obtain ⟨bd, ebd⟩ : ∃ bd, bd = bdF ⟨n0, n1, n2, n3, n4, sb⟩ := ⟨_, rfl⟩
      rw [← ebd] at HBD
      have EBD := Lib.hid ebd
      have H4B := Lib.hid h4b
      have HBL := Lib.hid hbl
      have g0 : W3.cell? ⟨b, 0, none⟩ = some (.int .i64 n0) := by simp [World.cell?, h3z]
      have g1 : W3.cell? ⟨b, 1, none⟩ = some (.int .i64 n1) := by simp [World.cell?, h3z]
      have g2 : W3.cell? ⟨b, 2, none⟩ = some (.int .i64 n2) := by simp [World.cell?, h3z]
      have g3 : W3.cell? ⟨b, 3, none⟩ = some (.int .i64 n3) := by simp [World.cell?, h3z]
      have g4 : W3.cell? ⟨b, 4, none⟩ = some (.int .i64 n4) := by simp [World.cell?, h3z]
      clear hh cv c5 hbz eW3 hbW hx nb0 nb1 nb2 nb3 nb4 h4z h3z h3b h4b e5 NB RUN ebd hbl hb1 hb2 hzl hgl
      rw [eW4] at f0 f1 f2 f3 f4 f5 H4B
      clear eW4 HW4
      go_wp2_with fail
      refine (HBD.out _ (HT2.out.below H4B.out (Nat.le_refl _))).mono ?_
      rintro e5 w5 ⟨rfl, hb5⟩
      have H5B := Lib.hid (H4B.out.trans (hb5.mono H4B.out.size))
      have H5Z : Hid (w5.heap[w.heap.size]? = some (.cells zeroF 24 (0, 0))) := (H5B.out.block _ (Array.getElem?_eq_some_iff.1 HZ.out).1).trans HZ.out
      have H5E : Hid (Boxed w5 (w.heap.size + 1) 29 (.int .i64 0)) := (H5B.out.block _ HE2.out.lt).trans HE2.out
      have H5K : Hid (w5.heap[D]? = some (.deferred (some []))) := (H5B.out.block _ HD2.out).trans HK.out
      have H5W : Hid (Below w.heap.size w w5) := HB2.out.trans (H5B.out.mono HB2.out.size)
      have r0 := cellB f0 hb5 (cell_lt f0)
      have r1 := cellB f1 hb5 (cell_lt f1)
      have r2 := cellB f2 hb5 (cell_lt f2)
      have r3 := cellB f3 hb5 (cell_lt f3)
      have r4 := cellB f4 hb5 (cell_lt f4)
      have r5 := cellB f5 hb5 (cell_lt f5)
      clear f0 f1 f2 f3 f4 f5 g0 g1 g2 g3 g4 hb5 H5B H4B HBD HV h3v h35 h3c h3f HZ HE2 HK HB2 HT2
      obtain ⟨q, rfl⟩ : ∃ q : List UInt8, bd = ⟨q.toArray⟩ := ⟨bd.data.toList, by simp⟩
      by_cases hbt : q = t
      · subst hbt
        have hR : Hid (∀ w', Below w.heap.size w w' → R (.returned (.tuple #[.agg #[.int .i64 n0, .int .i64 n1, .int .i64 n2, .int .i64 n3, .int .i64 n4, .bool sb], .int .i64 0])) w') := by
          intro w' hb
          rw [ER.out]
          exact ⟨hb, .inl ⟨_, HX.out, EBD.out.symm, rfl⟩⟩
        have hec : (w5.setRow w.heap.size #[.int .i64 n0, .int .i64 n1, .int .i64 n2, .int .i64 n3, .int .i64 n4, .bool sb]).cell? ⟨w.heap.size + 1, 0, none⟩ = some (.int .i64 0) := by rw [World.cell?_of_block (cell_row (by simp))]; exact H5E.out.cell
        have hef : (w5.setRow w.heap.size #[.int .i64 n0, .int .i64 n1, .int .i64 n2, .int .i64 n3, .int .i64 n4, .bool sb]).frozen? ⟨w.heap.size + 1, 0, none⟩ = false := by rw [World.frozen?_of_block (cell_row (by simp))]; exact H5E.out.frozen
        have INF : Hid ((Tryd.prog.info? 24).map (·.size) = some (#[.int .i64 n0, .int .i64 n1, .int .i64 n2, .int .i64 n3, .int .i64 n4, .bool sb] : Array Value).size) := infoF
        have ONE : Hid ((#[.int .i64 n0, .int .i64 n1, .int .i64 n2, .int .i64 n3, .int .i64 n4, .bool sb] : Array Value).all (·.oneCell') = true) := by show _ = _; simp [Value.oneCell']
        have SZE : Hid (zeroF.size = (#[.int .i64 n0, .int .i64 n1, .int .i64 n2, .int .i64 n3, .int .i64 n4, .bool sb] : Array Value).size) := rfl
        go_wp2_with (with_reducible refine wpList_store_row rfl 24 (.tmp 2) (.tmp 68) rfl w.heap.size #[.int .i64 n0, .int .i64 n1, .int .i64 n2, .int .i64 n3, .int .i64 n4, .bool sb] rfl rfl 24 zeroF H5Z.out INF.out SZE.out ONE.out ?_)
        have hk2 := (row_keeps.trans (KeepsOthers.setCell (w5.setRow w.heap.size #[.int .i64 n0, .int .i64 n1, .int .i64 n2, .int .i64 n3, .int .i64 n4, .bool sb]) ⟨w.heap.size + 1, 0, none⟩ (.int .i64 0))).same D _ H5K.out rfl
        have he2 : Boxed (w5.setRow w.heap.size #[.int .i64 n0, .int .i64 n1, .int .i64 n2, .int .i64 n3, .int .i64 n4, .bool sb]) (w.heap.size + 1) 29 (.int .i64 0) := (cell_row (a := ⟨w.heap.size + 1, 0, none⟩) (by simp)).trans H5E.out
        have hb2 : Below w.heap.size w ((w5.setRow w.heap.size #[.int .i64 n0, .int .i64 n1, .int .i64 n2, .int .i64 n3, .int .i64 n4, .bool sb]).setCell ⟨w.heap.size + 1, 0, none⟩ (.int .i64 0)) := (H5W.out.trans (row_below (Nat.le_refl _))).setCell (p := ⟨w.heap.size + 1, 0, none⟩) (by show _ ≤ w.heap.size + 1; omega) _
        refine leave_fact 4 _ rfl rfl (by rw [Below.heap_setCell _ ⟨w.heap.size + 1, 0, none⟩ _ w.heap.size (by show w.heap.size ≠ w.heap.size + 1; omega)]; exact setRow_heap _ _ _ _ _ _ H5Z.out) (he2.set _) hk2 (hR.out _ ?_)
        exact hb2.trans (belowK_b (w := w) (Nat.le_refl _) _ D _ _ HD.out hk2 rfl rfl)
      · have hR : Hid (∀ w', Below w.heap.size w w' → R (.returned (.tuple #[.agg zeroF, .int .i64 6])) w') := by
          intro w' hb
          rw [ER.out]
          refine ⟨hb, .inr ⟨fun x hx e => hbt ?_, rfl⟩⟩
          have h9 : (⟨q.toArray⟩ : ByteArray) = ⟨t.toArray⟩ := by rw [EBD.out, ← HFO.out x hx e]; exact e
          injection h9 with h9; exact List.toArray_inj h9
        have hec : (w5.setRow w.heap.size zeroF).cell? ⟨w.heap.size + 1, 0, none⟩ = some (.int .i64 0) := by rw [World.cell?_of_block (cell_row (by simp))]; exact H5E.out.cell
        have hef : (w5.setRow w.heap.size zeroF).frozen? ⟨w.heap.size + 1, 0, none⟩ = false := by rw [World.frozen?_of_block (cell_row (by simp))]; exact H5E.out.frozen
        have hbe : (q == t) = false := beq_eq_false_iff_ne.2 hbt
        clear hbt
        go_wp2_with (with_reducible refine wpList_store_row rfl 24 (.tmp 2) (.tmp 67) rfl w.heap.size zeroF rfl rfl 24 zeroF H5Z.out infoF rfl oneF ?_)
        have hk2 := (row_keeps.trans (KeepsOthers.setCell (w5.setRow w.heap.size zeroF) ⟨w.heap.size + 1, 0, none⟩ (.int .i64 6))).same D _ H5K.out rfl
        have he2 : Boxed (w5.setRow w.heap.size zeroF) (w.heap.size + 1) 29 (.int .i64 0) := (cell_row (a := ⟨w.heap.size + 1, 0, none⟩) (by simp)).trans H5E.out
        have hb2 : Below w.heap.size w ((w5.setRow w.heap.size zeroF).setCell ⟨w.heap.size + 1, 0, none⟩ (.int .i64 6)) := (H5W.out.trans (row_below (Nat.le_refl _))).setCell (p := ⟨w.heap.size + 1, 0, none⟩) (by show _ ≤ w.heap.size + 1; omega) _
        refine leave_fact 4 _ rfl rfl (by rw [Below.heap_setCell _ ⟨w.heap.size + 1, 0, none⟩ _ w.heap.size (by show w.heap.size ≠ w.heap.size + 1; omega)]; exact setRow_heap _ _ _ _ _ _ H5Z.out) (he2.set _) hk2 (hR.out _ ?_)
        exact hb2.trans (belowK_b (w := w) (Nat.le_refl _) _ D _ _ HD.out hk2 rfl rfl)
    · have hR : Hid (∀ w', Below w.heap.size w w' → R (.returned (.tuple #[.agg zeroF, .int .i64 6])) w') := by
        intro w' hb
        rw [ER.out]
        refine ⟨hb, .inr ⟨fun x hx e => ?_, rfl⟩⟩
        have h1 := run_bdF hx
        rw [e] at h1
        rw [show runW (wds (⟨t.toArray⟩ : ByteArray).data.toList) = some (f, ns) from RUN.out] at h1
        cases h1
        exact h6 rfl
      have hn6 : ((ns.length : Int) != 6) = true := bne_iff_ne.2 (by omega)
      have HN6 := Lib.hid h6
      have hec : (W.setRow w.heap.size zeroF).cell? ⟨w.heap.size + 1, 0, none⟩ = some (.int .i64 0) := by rw [World.cell?_of_block (cell_row (by simp))]; exact HE2.out.cell
      have hef : (W.setRow w.heap.size zeroF).frozen? ⟨w.heap.size + 1, 0, none⟩ = false := by rw [World.frozen?_of_block (cell_row (by simp))]; exact HE2.out.frozen
      clear h6
      go_wp2_with (with_reducible refine wpList_store_row rfl 24 (.tmp 2) (.tmp 41) rfl w.heap.size zeroF rfl rfl 24 zeroF HZ.out infoF rfl oneF ?_)
      have hk2 := (row_keeps.trans (KeepsOthers.setCell (W.setRow w.heap.size zeroF) ⟨w.heap.size + 1, 0, none⟩ (.int .i64 6))).same D _ HK.out rfl
      have he2 : Boxed (W.setRow w.heap.size zeroF) (w.heap.size + 1) 29 (.int .i64 0) := (cell_row (a := ⟨w.heap.size + 1, 0, none⟩) (by simp)).trans HE2.out
      have hb2 : Below w.heap.size w ((W.setRow w.heap.size zeroF).setCell ⟨w.heap.size + 1, 0, none⟩ (.int .i64 6)) := (HB2.out.trans (row_below (Nat.le_refl _))).setCell (p := ⟨w.heap.size + 1, 0, none⟩) (by show _ ≤ w.heap.size + 1; omega) _
      refine leave_fact 4 _ rfl rfl (by rw [Below.heap_setCell _ ⟨w.heap.size + 1, 0, none⟩ _ w.heap.size (by show w.heap.size ≠ w.heap.size + 1; omega)]; exact setRow_heap _ _ _ _ _ _ HZ.out) (he2.set _) hk2 (hR.out _ ?_)
      exact hb2.trans (belowK_b (w := w) (Nat.le_refl _) _ D _ _ HD.out hk2 rfl rfl)
end Go.Proofs.YtaaenobckipfkaaDoor

namespace Go.Proofs.YtaaenobckipfkaaDoor
open Go.RowKit Go.Blk Go.Opn Go.ChangeShapes Go.WideShapes Go.Deep Go.OpenShut

def eqF (x y : Fac) : Bool := decide (x.ref = y.ref ∧ x.act = y.act ∧ x.low = y.low ∧ x.high = y.high ∧ x.filed = y.filed ∧ x.secret = y.secret)
theorem eqF_iff (x y : Fac) : eqF x y = true ↔ x = y := by
  obtain ⟨a, b, c, d, e, f⟩ := x
  obtain ⟨a', b', c', d', e', f'⟩ := y
  unfold eqF
  simp
theorem eqF_no {x y : Fac} (h : x ≠ y) : eqF x y = false := by
  cases hx : eqF x y with
  | false => rfl
  | true => exact absurd ((eqF_iff x y).1 hx) h
theorem eqF_self (x : Fac) : eqF x x = true := (eqF_iff x x).2 rfl
instance : Inhabited Fac := ⟨⟨0, 0, 0, 0, 0, false⟩⟩
theorem cellsFact : Tryd.prog.cellsOf 24 = 6 := by kernel_rfl
theorem encF_len6 (x : Fac) : (encF x).length = 6 := rfl
theorem fact_of {H : Type} {enc : TypeId × Value → H} {w : World} {base : Nat} {spare : Nat → Bool} {held : Bool} {fuel : Nat} {cs : List Value} {x : DataW H × List MemPlace} (h : DataW.trod enc Tryd.prog w base spare held fuel 24 cs = some x) :
    ∃ a : Fac, a.Ok ∧ ∀ (p : Nat) u, (encF a)[p]? = some u → cs[p]? = some u := by
  obtain ⟨k, hk, wk⟩ := leaf_int (f := 3) (p := 0) Tryd.underlying3 (by kernel_rfl) h
  obtain ⟨s, hs, ws⟩ := leaf_int (f := 3) (p := 1) Tryd.underlying3 (by kernel_rfl) h
  obtain ⟨b, hb, wb⟩ := leaf_int (f := 3) (p := 2) Tryd.underlying3 (by kernel_rfl) h
  obtain ⟨f, hf, wf⟩ := leaf_int (f := 3) (p := 3) Tryd.underlying3 (by kernel_rfl) h
  obtain ⟨g, hg, wg⟩ := leaf_int (f := 3) (p := 4) Tryd.underlying3 (by kernel_rfl) h
  obtain ⟨t, ht⟩ := leaf_bool (f := 3) (p := 5) Tryd.underlying4 (by kernel_rfl) h
  obtain ⟨k0, k1⟩ := bounds_i64 wk
  obtain ⟨s0, s1⟩ := bounds_i64 ws
  obtain ⟨b0, b1⟩ := bounds_i64 wb
  obtain ⟨f0, f1⟩ := bounds_i64 wf
  obtain ⟨g0, g1⟩ := bounds_i64 wg
  refine ⟨⟨k, s, b, f, g, t⟩, ⟨k0, k1, s0, s1, b0, b1, f0, f1, g0, g1⟩, fun p u hu => ?_⟩
  match p, hu with
  | 0, hu => cases hu; exact hk
  | 1, hu => cases hu; exact hs
  | 2, hu => cases hu; exact hb
  | 3, hu => cases hu; exact hf
  | 4, hu => cases hu; exact hg
  | 5, hu => cases hu; exact ht
  | p + 6, hu => simp [encF] at hu
set_option maxRecDepth 100000 in
theorem open_facts {H : Type} {enc : TypeId × Value → H} {w : World} {base : Nat} {spare : Nat → Bool} {held : Bool} {v : Value} {d : DataW H} {ps : List MemPlace} {r : Reach} {b0 : Nat} (hv : Value.okWide Tryd.prog w r b0 22 v) (h : DataW.Trod enc Tryd.prog w base spare held 22 v d ps) :
    ∃ (A : Option Addr) (c : Nat) (l : List Fac), v = .slice A l.length c ∧ l.length ≤ 9223372036854775807 ∧ l.length ≤ c ∧ SL w 6 encF A l ∧ ∀ a ∈ l, a.Ok := by
  obtain ⟨A, len, cap, m, rfl, hl, hc, hi⟩ := open_rows Tryd.underlying22 (by rw [cellsFact]; decide) hv h
  rw [cellsFact] at hi
  have hi2 : ∀ i, i < len → ∃ a : Fac, a.Ok ∧ ∃ b off, A = some ⟨b, off, none⟩ ∧ ∀ p u, (encF a)[p]? = some u → w.cell? ⟨b, off + (i * 6 + p), none⟩ = some u := by
    intro i hlt
    obtain ⟨b, off, cs, x, hA, _, ht, hcell⟩ := hi i hlt
    obtain ⟨a, ha, hcs⟩ := fact_of ht
    exact ⟨a, ha, b, off, hA, fun p u hu => hcell p u (hcs p u hu)⟩
  obtain ⟨f, hf⟩ := choose_lt hi2
  unfold maxLen at hc
  refine ⟨A, cap, (List.range len).map f, by simp, by simp; omega, by simpa using hl, ⟨fun hn => ?_⟩, fun a ha => ?_⟩
  · have h0 : 0 < len := by
      rcases Nat.eq_zero_or_pos len with h | h
      · subst h; simp at hn
      · exact h
    obtain ⟨_, b, off, hA, _⟩ := hf 0 h0
    refine ⟨b, off, hA, fun i e hie p u hu => ?_⟩
    have hil : i < len := by
      have := (List.getElem?_eq_some_iff.1 hie).1
      simpa using this
    have he : f i = e := by
      rw [List.getElem?_map, List.getElem?_range hil] at hie
      simpa using hie
    obtain ⟨_, b', off', hA', hcell⟩ := hf i hil
    rw [hA] at hA'
    injection hA' with hA'
    injection hA' with e1 e2
    subst e1 e2
    rw [← he] at hu
    exact hcell p u hu
  · obtain ⟨i, hi, rfl⟩ := List.mem_map.1 ha
    exact (hf i (List.mem_range.1 hi)).1
set_option maxRecDepth 100000 in
theorem open_fact {H : Type} {enc : TypeId × Value → H} {w : World} {base : Nat} {spare : Nat → Bool} {held : Bool} {v : Value} {d : DataW H} {ps : List MemPlace} {r : Reach} {b0 : Nat} (hv : Value.okWide Tryd.prog w r b0 24 v) (h : DataW.Trod enc Tryd.prog w base spare held 24 v d ps) :
    ∃ x : Fac, v = .agg (encF x).toArray ∧ x.Ok := by
  obtain ⟨cs, rfl, hsz⟩ := okWide_struct Tryd.underlying24 hv
  rw [cellsFact] at hsz
  obtain ⟨fuel, hf⟩ := h
  obtain ⟨a, ha, hcs⟩ := fact_of hf
  refine ⟨a, ?_, ha⟩
  congr 1
  apply Array.ext'
  show cs.toList = encF a
  apply List.ext_getElem?
  intro i
  by_cases hi : i < 6
  · obtain ⟨u, hu⟩ : ∃ u, (encF a)[i]? = some u := ⟨_, List.getElem?_eq_getElem (by rw [encF_len6]; exact hi)⟩
    rw [hu]; exact hcs i u hu
  · rw [List.getElem?_eq_none (by simp; omega), List.getElem?_eq_none (by rw [encF_len6]; omega)]
set_option maxRecDepth 100000 in
theorem run_neqF (x y : Fac) (W : World) : (binOp .neq 24 (.agg (encF x).toArray) (.agg (encF y).toArray)).run Tryd.prog W = .ok (.bool (!eqF x y)) W := by
  obtain ⟨ar, aa, al, ah, af, az⟩ := x
  obtain ⟨br, ba, bl, bh, bf, bz⟩ := y
  show (binOp .neq 24 (.agg #[.int .i64 ar, .int .i64 aa, .int .i64 al, .int .i64 ah, .int .i64 af, .bool az]) (.agg #[.int .i64 br, .int .i64 ba, .int .i64 bl, .int .i64 bh, .int .i64 bf, .bool bz])).run Tryd.prog W = _
  by_cases h1 : ar = br
  · subst h1
    by_cases h2 : aa = ba
    · subst h2
      by_cases h3 : al = bl
      · subst h3
        by_cases h4 : ah = bh
        · subst h4
          by_cases h5 : af = bf
          · subst h5
            by_cases h6 : az = bz
            · subst h6
              have hq : eqF ⟨ar, aa, al, ah, af, az⟩ ⟨ar, aa, al, ah, af, az⟩ = true := by unfold eqF; simp []
              rw [hq]
              clear hq
              go_simp <;> rfl
            · have hq : eqF ⟨ar, aa, al, ah, af, az⟩ ⟨ar, aa, al, ah, af, bz⟩ = false := by unfold eqF; simp [h6]
              rw [hq]
              clear hq
              go_simp <;> rfl
          · have hq : eqF ⟨ar, aa, al, ah, af, az⟩ ⟨ar, aa, al, ah, bf, bz⟩ = false := by unfold eqF; simp [h5]
            rw [hq]
            clear hq
            go_simp <;> rfl
        · have hq : eqF ⟨ar, aa, al, ah, af, az⟩ ⟨ar, aa, al, bh, bf, bz⟩ = false := by unfold eqF; simp [h4]
          rw [hq]
          clear hq
          go_simp <;> rfl
      · have hq : eqF ⟨ar, aa, al, ah, af, az⟩ ⟨ar, aa, bl, bh, bf, bz⟩ = false := by unfold eqF; simp [h3]
        rw [hq]
        clear hq
        go_simp <;> rfl
    · have hq : eqF ⟨ar, aa, al, ah, af, az⟩ ⟨ar, ba, bl, bh, bf, bz⟩ = false := by unfold eqF; simp [h2]
      rw [hq]
      clear hq
      go_simp <;> rfl
  · have hq : eqF ⟨ar, aa, al, ah, af, az⟩ ⟨br, ba, bl, bh, bf, bz⟩ = false := by unfold eqF; simp [h1]
    rw [hq]
    clear hq
    go_simp <;> rfl
set_option maxRecDepth 100000 in
theorem run_eqlF (x y : Fac) (W : World) : (binOp .eql 24 (.agg (encF x).toArray) (.agg (encF y).toArray)).run Tryd.prog W = .ok (.bool (eqF x y)) W := by
  obtain ⟨ar, aa, al, ah, af, az⟩ := x
  obtain ⟨br, ba, bl, bh, bf, bz⟩ := y
  show (binOp .eql 24 (.agg #[.int .i64 ar, .int .i64 aa, .int .i64 al, .int .i64 ah, .int .i64 af, .bool az]) (.agg #[.int .i64 br, .int .i64 ba, .int .i64 bl, .int .i64 bh, .int .i64 bf, .bool bz])).run Tryd.prog W = _
  by_cases h1 : ar = br
  · subst h1
    by_cases h2 : aa = ba
    · subst h2
      by_cases h3 : al = bl
      · subst h3
        by_cases h4 : ah = bh
        · subst h4
          by_cases h5 : af = bf
          · subst h5
            by_cases h6 : az = bz
            · subst h6
              have hq : eqF ⟨ar, aa, al, ah, af, az⟩ ⟨ar, aa, al, ah, af, az⟩ = true := by unfold eqF; simp []
              rw [hq]
              clear hq
              go_simp <;> rfl
            · have hq : eqF ⟨ar, aa, al, ah, af, az⟩ ⟨ar, aa, al, ah, af, bz⟩ = false := by unfold eqF; simp [h6]
              rw [hq]
              clear hq
              go_simp <;> rfl
          · have hq : eqF ⟨ar, aa, al, ah, af, az⟩ ⟨ar, aa, al, ah, bf, bz⟩ = false := by unfold eqF; simp [h5]
            rw [hq]
            clear hq
            go_simp <;> rfl
        · have hq : eqF ⟨ar, aa, al, ah, af, az⟩ ⟨ar, aa, al, bh, bf, bz⟩ = false := by unfold eqF; simp [h4]
          rw [hq]
          clear hq
          go_simp <;> rfl
      · have hq : eqF ⟨ar, aa, al, ah, af, az⟩ ⟨ar, aa, bl, bh, bf, bz⟩ = false := by unfold eqF; simp [h3]
        rw [hq]
        clear hq
        go_simp <;> rfl
    · have hq : eqF ⟨ar, aa, al, ah, af, az⟩ ⟨ar, ba, bl, bh, bf, bz⟩ = false := by unfold eqF; simp [h2]
      rw [hq]
      clear hq
      go_simp <;> rfl
  · have hq : eqF ⟨ar, aa, al, ah, af, az⟩ ⟨br, ba, bl, bh, bf, bz⟩ = false := by unfold eqF; simp [h1]
    rw [hq]
    clear hq
    go_simp <;> rfl
theorem exec_neqF {o : Oper} {ρ : Operand → Value} {w : World} {a b : Operand} {x y : Fac} {Q : Bool} (ho : o.op = .binOp .neq 24 a b 24) (ha : ρ a = .agg (encF x).toArray) (hb : ρ b = .agg (encF y).toArray) (hQ : (!eqF x y) = Q) :
    (execOp ρ o).run Tryd.prog w = .ok (.value (.bool Q)) w := by
  have hg : (eqGuard .neq 24 a b (.agg (encF x).toArray) (.agg (encF y).toArray)).run Tryd.prog w = .ok () w := by
    unfold eqGuard
    simp
  unfold execOp
  simp only [ho, ha, hb, Sem.run_bind, hg, Result.andThen_ok, run_neqF, Sem.run_pure, hQ]
theorem exec_eqlF {o : Oper} {ρ : Operand → Value} {w : World} {a b : Operand} {x y : Fac} {Q : Bool} (ho : o.op = .binOp .eql 24 a b 24) (ha : ρ a = .agg (encF x).toArray) (hb : ρ b = .agg (encF y).toArray) (hQ : eqF x y = Q) :
    (execOp ρ o).run Tryd.prog w = .ok (.value (.bool Q)) w := by
  have hg : (eqGuard .eql 24 a b (.agg (encF x).toArray) (.agg (encF y).toArray)).run Tryd.prog w = .ok () w := by
    unfold eqGuard
    simp
  unfold execOp
  simp only [ho, ha, hb, Sem.run_bind, hg, Result.andThen_ok, run_eqlF, Sem.run_pure, hQ]
end Go.Proofs.YtaaenobckipfkaaDoor

namespace Go.Proofs.YtaaenobckipfkaaDoor
open Go.RowKit Go.Blk Go.Opn

set_option maxRecDepth 100000 in
theorem run_neq (x y : E31) (W : World) : (binOp .neq 37 (.agg (encE x).toArray) (.agg (encE y).toArray)).run Tryd.prog W = .ok (.bool (!eqB x y)) W := by
  obtain ⟨ah, aq, ad, ap, ab, ar, az⟩ := x
  obtain ⟨bh, bq, bd, bp, bb, br, bz⟩ := y
  show (binOp .neq 37 (.agg #[.int .i64 ah, .int .i64 aq, .int .i64 ad, .string ap, .string ab, .int .i64 ar, .int .i64 az]) (.agg #[.int .i64 bh, .int .i64 bq, .int .i64 bd, .string bp, .string bb, .int .i64 br, .int .i64 bz])).run Tryd.prog W = _
  by_cases h1 : ah = bh
  · subst h1
    by_cases h2 : aq = bq
    · subst h2
      by_cases h3 : ad = bd
      · subst h3
        by_cases h4 : ap.toList = bp.toList
        · by_cases h5 : ab.toList = bb.toList
          · by_cases h6 : ar = br
            · subst h6
              by_cases h7 : az = bz
              · subst h7
                have hq : eqB ⟨ah, aq, ad, ap, ab, ar, az⟩ ⟨ah, aq, ad, bp, bb, ar, az⟩ = true := by unfold eqB; simp [h4, h5]
                rw [hq]
                clear hq
                go_simp <;> rfl
              · have hq : eqB ⟨ah, aq, ad, ap, ab, ar, az⟩ ⟨ah, aq, ad, bp, bb, ar, bz⟩ = false := by unfold eqB; simp [h7]
                rw [hq]
                clear hq
                go_simp <;> rfl
            · have hq : eqB ⟨ah, aq, ad, ap, ab, ar, az⟩ ⟨ah, aq, ad, bp, bb, br, bz⟩ = false := by unfold eqB; simp [h6]
              rw [hq]
              clear hq
              go_simp <;> rfl
          · have hq : eqB ⟨ah, aq, ad, ap, ab, ar, az⟩ ⟨ah, aq, ad, bp, bb, br, bz⟩ = false := by unfold eqB; simp [h5]
            rw [hq]
            clear hq
            go_simp <;> rfl
        · have hq : eqB ⟨ah, aq, ad, ap, ab, ar, az⟩ ⟨ah, aq, ad, bp, bb, br, bz⟩ = false := by unfold eqB; simp [h4]
          rw [hq]
          clear hq
          go_simp <;> rfl
      · have hq : eqB ⟨ah, aq, ad, ap, ab, ar, az⟩ ⟨ah, aq, bd, bp, bb, br, bz⟩ = false := by unfold eqB; simp [h3]
        rw [hq]
        clear hq
        go_simp <;> rfl
    · have hq : eqB ⟨ah, aq, ad, ap, ab, ar, az⟩ ⟨ah, bq, bd, bp, bb, br, bz⟩ = false := by unfold eqB; simp [h2]
      rw [hq]
      clear hq
      go_simp <;> rfl
  · have hq : eqB ⟨ah, aq, ad, ap, ab, ar, az⟩ ⟨bh, bq, bd, bp, bb, br, bz⟩ = false := by unfold eqB; simp [h1]
    rw [hq]
    clear hq
    go_simp <;> rfl
theorem exec_neq {o : Oper} {ρ : Operand → Value} {w : World} {a b : Operand} {x y : E31} (ho : o.op = .binOp .neq 37 a b 37) (ha : ρ a = .agg (encE x).toArray) (hb : ρ b = .agg (encE y).toArray) :
    (execOp ρ o).run Tryd.prog w = .ok (.value (.bool (!eqB x y))) w := by
  have hg : (eqGuard .neq 37 a b (.agg (encE x).toArray) (.agg (encE y).toArray)).run Tryd.prog w = .ok () w := by
    unfold eqGuard
    simp
  unfold execOp
  simp only [ho, ha, hb, Sem.run_bind, hg, Result.andThen_ok, run_neq, Sem.run_pure]
set_option maxRecDepth 100000 in
theorem exec_entry {o : Oper} {ρ : Operand → Value} {w : World} {a : Operand} {b off : Nat} {x : E31} (ho : o.op = .load 37 a) (ha : ρ a = .pointer (some ⟨b, off, none⟩)) (hc : ∀ p u, (encE x)[p]? = some u → w.cell? ⟨b, off + p, none⟩ = some u) :
    (execOp ρ o).run Tryd.prog w = .ok (.value (.agg (encE x).toArray)) w := by
  obtain ⟨ah, aq, ad, ap, ab, ar, az⟩ := x
  have p0 := hc 0 _ rfl
  have p1 := hc 1 _ rfl
  have p2 := hc 2 _ rfl
  have p3 := hc 3 _ rfl
  have p4 := hc 4 _ rfl
  have p5 := hc 5 _ rfl
  have p6 := hc 6 _ rfl
  simp only [Nat.add_zero] at p0 p1 p2 p3 p4 p5 p6
  clear hc
  unfold execOp
  simp only [ho, ha]
  go_simp <;> rfl
end Go.Proofs.YtaaenobckipfkaaDoor

namespace Go.Proofs.YtaaenobckipfkaaDoor

/-- The number that digits write. -/
def dval (l : List UInt8) : Nat := l.foldl (fun a d => a * 10 + (d.toNat - 48)) 0
theorem dval_snoc (l : List UInt8) (d : UInt8) : dval (l ++ [d]) = dval l * 10 + (d.toNat - 48) := by simp [dval]
theorem dig_nat (d : Nat) (h : d < 10) : (UInt8.ofNat (48 + d)).toNat = 48 + d := by
  rw [UInt8.toNat_ofNat']; omega
theorem decD_facts (m : Nat) : ∀ u, u < m → dval (Lib.decDigits u) = u ∧ (∀ b ∈ Lib.decDigits u, 48 ≤ b.toNat ∧ b.toNat ≤ 57) ∧ Lib.decDigits u ≠ [] := by
  induction m with
  | zero => intro u hu; omega
  | succ m ih =>
    intro u hu
    by_cases h : u < 10
    · rw [Lib.decDigits_one h]
      refine ⟨?_, ?_, by simp⟩
      · show 0 * 10 + ((UInt8.ofNat (48 + u)).toNat - 48) = u
        rw [dig_nat u h]; omega
      · intro b hb; rw [List.mem_singleton] at hb; subst hb; rw [dig_nat u h]; omega
    · rw [Lib.decDigits, dif_neg h]
      obtain ⟨h1, h2, _⟩ := ih (u / 10) (by omega)
      have hd := dig_nat (u % 10) (by omega)
      refine ⟨?_, ?_, by simp⟩
      · rw [dval_snoc, h1, hd]; omega
      · intro b hb
        rcases List.mem_append.1 hb with hb | hb
        · exact h2 b hb
        · rw [List.mem_singleton] at hb; subst hb; rw [hd]; omega
theorem decD_inj {u v : Nat} (h : Lib.decDigits u = Lib.decDigits v) : u = v := by
  rw [← (decD_facts (u + 1) u (by omega)).1, ← (decD_facts (v + 1) v (by omega)).1, h]
theorem int_cases (n : Int) : (∃ u : Nat, n = (u : Int)) ∨ ∃ u : Nat, 1 ≤ u ∧ n = -(u : Int) := by
  by_cases h : 0 ≤ n
  · exact .inl ⟨n.toNat, by omega⟩
  · exact .inr ⟨(-n).toNat, by omega, by omega⟩
theorem no_minus {u v : Nat} (h : Lib.decDigits u = 45 :: Lib.decDigits v) : False := by
  have := (decD_facts (u + 1) u (by omega)).2.1 45 (by rw [h]; simp)
  exact absurd this.1 (by decide)
theorem itoa_inj {m n : Int} (h : Lib.itoa m = Lib.itoa n) : m = n := by
  rcases int_cases m with ⟨u, rfl⟩ | ⟨u, hu, rfl⟩ <;> rcases int_cases n with ⟨v, rfl⟩ | ⟨v, hv, rfl⟩
  · rw [Lib.itoa_nonneg, Lib.itoa_nonneg] at h; rw [decD_inj h]
  · rw [Lib.itoa_nonneg, Lib.itoa_neg v hv] at h; exact (no_minus h).elim
  · rw [Lib.itoa_neg u hu, Lib.itoa_nonneg] at h; exact (no_minus h.symm).elim
  · rw [Lib.itoa_neg u hu, Lib.itoa_neg v hv] at h
    injection h with _ h
    rw [decD_inj h]
theorem itoa_nosp (n : Int) : (32 : UInt8) ∉ Lib.itoa n := by
  intro h
  rcases int_cases n with ⟨u, rfl⟩ | ⟨u, hu, rfl⟩
  · rw [Lib.itoa_nonneg] at h
    exact absurd ((decD_facts (u + 1) u (by omega)).2.1 32 h).1 (by decide)
  · rw [Lib.itoa_neg u hu] at h
    rcases List.mem_cons.1 h with h | h
    · exact absurd h (by decide)
    · exact absurd ((decD_facts (u + 1) u (by omega)).2.1 32 h).1 (by decide)
theorem split_at {c : UInt8} : ∀ {x y r s : List UInt8}, c ∉ x → c ∉ y → x ++ c :: r = y ++ c :: s → x = y ∧ r = s
  | [], [], r, s, _, _, h => by simpa using h
  | [], b :: y, r, s, _, hy, h => by
    simp at h; exact absurd (by rw [h.1]; simp) hy
  | a :: x, [], r, s, hx, _, h => by
    simp at h; exact absurd (by rw [← h.1]; simp) hx
  | a :: x, b :: y, r, s, hx, hy, h => by
    simp at h
    obtain ⟨h1, h2⟩ := split_at (x := x) (y := y) (fun hm => hx (by simp [hm])) (fun hm => hy (by simp [hm])) h.2
    exact ⟨by rw [h.1, h1], h2⟩
theorem dec_tl (n : Int) : (dec n).data.toList = Lib.itoa n := rfl
theorem txL_eq (e : E31) : txL e = [101, 110, 116, 114, 121] ++ 32 :: (Lib.itoa e.house ++ 32 :: (Lib.itoa e.seq ++ 32 :: (Lib.itoa e.day ++ 32 :: (Lib.itoa (e.prev.size : Int) ++ 32 :: (e.prev.data.toList ++ e.body.data.toList))))) := by
  unfold txL txP txP txP txP txP
  simp only [dec_tl, numE, List.append_assoc, List.cons_append, List.nil_append]
theorem tx_inj {a b : E31} (h : txE a = txE b) : a.house = b.house ∧ a.seq = b.seq ∧ a.day = b.day ∧ a.prev = b.prev ∧ a.body = b.body := by
  have h0 : txL a = txL b := by
    have := congrArg (fun t : ByteArray => t.data.toList) h
    simpa [txE] using this
  rw [txL_eq, txL_eq] at h0
  have h1 := List.append_cancel_left h0
  injection h1 with _ h1
  obtain ⟨e1, h2⟩ := split_at (itoa_nosp _) (itoa_nosp _) h1
  obtain ⟨e2, h3⟩ := split_at (itoa_nosp _) (itoa_nosp _) h2
  obtain ⟨e3, h4⟩ := split_at (itoa_nosp _) (itoa_nosp _) h3
  obtain ⟨e4, h5⟩ := split_at (itoa_nosp _) (itoa_nosp _) h4
  have e4 := itoa_inj e4
  have hsz : a.prev.data.toList.length = b.prev.data.toList.length := by
    have e5 : a.prev.size = b.prev.size := by omega
    simpa using e5
  obtain ⟨h6, h7⟩ := List.append_inj h5 hsz
  exact ⟨itoa_inj e1, itoa_inj e2, itoa_inj e3, ba_ext h6, ba_ext h7⟩
/-- The entry without its signature. -/
def bare (e : E31) : E31 := ⟨e.house, e.seq, e.day, e.prev, e.body, 0, 0⟩
theorem texts_law (a b : E31) : ((txE a).toList == (txE b).toList) = eqB (bare a) (bare b) := by
  cases hq : eqB (bare a) (bare b) with
  | true =>
    have h := (eqB_iff _ _).1 hq
    unfold bare at h
    injection h with h1 h2 h3 h4 h5
    have : txE a = txE b := by
      have e1 : txE a = txE (bare a) := rfl
      have e2 : txE b = txE (bare b) := rfl
      rw [e1, e2]; unfold bare; rw [h1, h2, h3, h4, h5]
    rw [this]; simp
  | false =>
    cases ht : ((txE a).toList == (txE b).toList) with
    | false => rfl
    | true =>
      have h := tl_inj (by simpa using ht : (txE a).toList = (txE b).toList)
      obtain ⟨h1, h2, h3, h4, h5⟩ := tx_inj h
      have : eqB (bare a) (bare b) = true := (eqB_iff _ _).2 (by unfold bare; rw [h1, h2, h3, h4, h5])
      rw [this] at hq; cases hq
end Go.Proofs.YtaaenobckipfkaaDoor

namespace Go.Proofs.YtaaenobckipfkaaDoor
open Go.RowKit Go.Blk Go.Opn

theorem dec_len2 (N : Nat) (h : N ≤ 9223372036854775808) : (dec (N : Int)).size ≤ 22 := by
  by_cases h9 : 9 < N
  · rw [dec_big N h9, ByteArray.size_append]
    have := dec_size ((N / 10 : Nat) : Int) (by omega) (by omega)
    have e : (digB (N % 10)).size = 1 := rfl
    omega
  · have := dec_size (N : Int) (by omega) (by omega)
    omega
theorem conv_dig (d : Nat) (hd : d < 10) (v : Int) (hv : v = 48 + (d : Int)) (W : World) : (convert 77 9 (.slice (some ⟨W.heap.size, 0, none⟩) 1 1)).run Tryd.prog (W.alloc (.cells #[.int .u8 v] 5)) = .ok (.string (digB d)) (W.alloc (.cells #[.int .u8 v] 5)) := by
  have h := conv_bytes (P := Tryd.prog) (cap := 1) [UInt8.ofNat (48 + d)] Tryd.underlying77 Tryd.underlying5 Tryd.underlying9 (Blk.new W [.int .u8 v] 5) (fun j hj => by
    have : j = 0 := by simpa using hj
    subst this
    show some (Value.int .u8 v) = some (C8 (UInt8.ofNat (48 + d)))
    unfold C8
    rw [dig_nat d hd, hv]; simp)
  exact h
def RD31 (w : World) (N : Nat) (u s : Value) (wr : World) : Prop := ∃ (k : Nat) (t : ByteArray), k ≤ N ∧ u = .int .u64 (k : Int) ∧ s = .string (digB (k % 10) ++ t) ∧ dec (N : Int) = dec (k : Int) ++ t ∧ Below w.heap.size w wr
set_option maxRecDepth 100000 in
set_option maxHeartbeats 2000000 in
theorem rdec31_any (n : Int) (w : World) (h0 : -9223372036854775808 ≤ n) (h1 : n ≤ 9223372036854775807) : Calls Tryd.prog 47 #[.int .i64 n] w fun e w' => e = .returned (.string (dec n)) ∧ Below w.heap.size w w' := by
  by_cases hn : n < 0
  · obtain ⟨N, rfl⟩ : ∃ N : Nat, n = -(N : Int) := ⟨n.natAbs, by omega⟩
    have hN : N ≤ 9223372036854775808 := by omega
    have hdn : dec (-(N : Int)) = ⟨#[45]⟩ ++ dec (N : Int) := by
      apply ba_ext
      rw [ba_append, dec_tl, dec_tl, Lib.itoa_neg N (by omega), Lib.itoa_nonneg]; rfl
    have HDN := Lib.hid hdn
    have hw1 : IntKind.u64.wrap (-(N : Int)) = 18446744073709551616 - (N : Int) := by unfold IntKind.wrap; simp [IntKind.bits, IntKind.signed]; omega
    have hw2 : IntKind.u64.wrap (-(18446744073709551616 - (N : Int))) = (N : Int) := by unfold IntKind.wrap; simp [IntKind.bits, IntKind.signed]; omega
    have hcv := fun W => conv_dig (N % 10) (by omega) (48 + (N : Int) % 10) (by omega) W
    have HST : Hid (RD31 w N (.int .u64 N) (.string (digB (N % 10))) (w.alloc (.cells #[.int .u8 (48 + (N : Int) % 10)] 5))) := ⟨N, ⟨#[]⟩, Nat.le_refl _, rfl, by rw [show digB (N % 10) ++ ⟨#[]⟩ = digB (N % 10) from by apply ba_ext; simp], by apply ba_ext; simp, (Below.refl _ _).alloc (Nat.le_refl _) _⟩
    obtain ⟨R, eR⟩ : ∃ R, R = dec (-(N : Int)) := ⟨_, rfl⟩
    rw [← eR] at HDN ⊢
    clear hdn eR
    go_enter Tryd.func47, Tryd.ntmps47
    go_wp2_with fail
    go_loopw [3, 4] (fun u s wr => RD31 w N u s wr) (fun u _ _ => (intOf u).toNat)
    case atStart => exact HST.out
    case round =>
      clear HST
      obtain ⟨k, t, hk, rfl, rfl, heq, hbr⟩ := hrel
      have hts : t.size ≤ 22 := by
        have h1 := dec_len2 N hN
        rw [heq, ByteArray.size_append] at h1; omega
      have HE := Lib.hid heq
      clear heq
      by_cases h9 : 9 < k
      · have hj : (9 : Int) < (k : Int) := by omega
        have hq : IntKind.u64.wrap ((k : Int).tdiv 10) = ((k / 10 : Nat) : Int) := by rw [Int.tdiv_eq_ediv_of_nonneg (by omega), IntWalk.u64_in _ (by omega)]; omega
        have k00 : (0 : Int) ≤ (k : Int) := by omega
        have q00 : (0 : Int) ≤ ((k / 10 : Nat) : Int) := by omega
        have hcv := fun W => conv_dig (k / 10 % 10) (by omega) (48 + ((k / 10 : Nat) : Int) % 10) (by omega) W
        have KEY : Hid (∀ v : Int, RD31 w N (.int .u64 ((k / 10 : Nat) : Int)) (.string (digB (k / 10 % 10) ++ (digB (k % 10) ++ t))) (wr.alloc (.cells #[.int .u8 v] 5))) := fun v => ⟨k / 10, digB (k % 10) ++ t, by omega, rfl, rfl, by rw [HE.out, dec_big k h9]; apply ba_ext; simp only [ba_append, List.append_assoc], hbr.alloc hbr.size _⟩
        have z1 : (digB (k / 10 % 10)).size = 1 := rfl
        have z2 : (digB (k % 10)).size = 1 := rfl
        obtain ⟨q, eq⟩ : ∃ q, q = k / 10 := ⟨_, rfl⟩
        have hqk : q < k := by omega
        have hq2 : (k : Int) / 10 = (q : Int) := by omega
        have HQK := Lib.hid hqk
        rw [← eq] at hq hcv KEY z1 q00
        obtain ⟨d1, ed1⟩ : ∃ d1, d1 = digB (q % 10) := ⟨_, rfl⟩
        obtain ⟨d2, ed2⟩ : ∃ d2, d2 = digB (k % 10) := ⟨_, rfl⟩
        rw [← ed1] at hcv z1 KEY
        rw [← ed2] at z2 KEY ⊢
        clear hbr ed1 ed2 eq hqk
        go_wp2_with fail
        go_roundw
        case rel =>
          go_light
          have key := KEY.out (48 + (q : Int) % 10)
          first | exact key | ((repeat apply Exists.intro); exact ⟨key, rfl⟩)
        case measure => have := HQK.out; simp [intOf]; omega
      · have hj : ¬ ((9 : Int) < (k : Int)) := by omega
        have ed : dec (N : Int) = digB (k % 10) ++ t := by rw [HE.out, dec_small k (by omega), Nat.mod_eq_of_lt (by omega)]
        have z2 : (digB (k % 10)).size = 1 := rfl
        have ED := Lib.hid ed
        have HB := Lib.hid hbr
        obtain ⟨d2, ed2⟩ : ∃ d2, d2 = digB (k % 10) := ⟨_, rfl⟩
        rw [← ed2] at z2 ED ⊢
        clear hbr ed ed2 HE
        go_wp2_with fail
        go_ret
        refine ⟨?_, HB.out⟩
        rw [HDN.out, ED.out]; rfl
  · obtain ⟨N, rfl⟩ : ∃ N : Nat, n = (N : Int) := ⟨n.toNat, by omega⟩
    have hN : N ≤ 9223372036854775808 := by omega
    have hcv := fun W => conv_dig (N % 10) (by omega) (48 + (N : Int) % 10) (by omega) W
    have HST : Hid (RD31 w N (.int .u64 N) (.string (digB (N % 10))) (w.alloc (.cells #[.int .u8 (48 + (N : Int) % 10)] 5))) := ⟨N, ⟨#[]⟩, Nat.le_refl _, rfl, by rw [show digB (N % 10) ++ ⟨#[]⟩ = digB (N % 10) from by apply ba_ext; simp], by apply ba_ext; simp, (Below.refl _ _).alloc (Nat.le_refl _) _⟩
    obtain ⟨R, eR⟩ : ∃ R, R = dec (N : Int) := ⟨_, rfl⟩
    have HDN := Lib.hid eR
    rw [← eR]
    clear eR
    go_enter Tryd.func47, Tryd.ntmps47
    go_wp2_with fail
    go_loopw [3, 4] (fun u s wr => RD31 w N u s wr) (fun u _ _ => (intOf u).toNat)
    case atStart => exact HST.out
    case round =>
      clear HST
      obtain ⟨k, t, hk, rfl, rfl, heq, hbr⟩ := hrel
      have hts : t.size ≤ 22 := by
        have h1 := dec_len2 N hN
        rw [heq, ByteArray.size_append] at h1; omega
      have HE := Lib.hid heq
      clear heq
      by_cases h9 : 9 < k
      · have hj : (9 : Int) < (k : Int) := by omega
        have hq : IntKind.u64.wrap ((k : Int).tdiv 10) = ((k / 10 : Nat) : Int) := by rw [Int.tdiv_eq_ediv_of_nonneg (by omega), IntWalk.u64_in _ (by omega)]; omega
        have k00 : (0 : Int) ≤ (k : Int) := by omega
        have q00 : (0 : Int) ≤ ((k / 10 : Nat) : Int) := by omega
        have hcv := fun W => conv_dig (k / 10 % 10) (by omega) (48 + ((k / 10 : Nat) : Int) % 10) (by omega) W
        have KEY : Hid (∀ v : Int, RD31 w N (.int .u64 ((k / 10 : Nat) : Int)) (.string (digB (k / 10 % 10) ++ (digB (k % 10) ++ t))) (wr.alloc (.cells #[.int .u8 v] 5))) := fun v => ⟨k / 10, digB (k % 10) ++ t, by omega, rfl, rfl, by rw [HE.out, dec_big k h9]; apply ba_ext; simp only [ba_append, List.append_assoc], hbr.alloc hbr.size _⟩
        have z1 : (digB (k / 10 % 10)).size = 1 := rfl
        have z2 : (digB (k % 10)).size = 1 := rfl
        obtain ⟨q, eq⟩ : ∃ q, q = k / 10 := ⟨_, rfl⟩
        have hqk : q < k := by omega
        have hq2 : (k : Int) / 10 = (q : Int) := by omega
        have HQK := Lib.hid hqk
        rw [← eq] at hq hcv KEY z1 q00
        obtain ⟨d1, ed1⟩ : ∃ d1, d1 = digB (q % 10) := ⟨_, rfl⟩
        obtain ⟨d2, ed2⟩ : ∃ d2, d2 = digB (k % 10) := ⟨_, rfl⟩
        rw [← ed1] at hcv z1 KEY
        rw [← ed2] at z2 KEY ⊢
        clear hbr ed1 ed2 eq hqk
        go_wp2_with fail
        go_roundw
        case rel =>
          go_light
          have key := KEY.out (48 + (q : Int) % 10)
          first | exact key | ((repeat apply Exists.intro); exact ⟨key, rfl⟩)
        case measure => have := HQK.out; simp [intOf]; omega
      · have hj : ¬ ((9 : Int) < (k : Int)) := by omega
        have ed : dec (N : Int) = digB (k % 10) ++ t := by rw [HE.out, dec_small k (by omega), Nat.mod_eq_of_lt (by omega)]
        have z2 : (digB (k % 10)).size = 1 := rfl
        have ED := Lib.hid ed
        have HB := Lib.hid hbr
        obtain ⟨d2, ed2⟩ : ∃ d2, d2 = digB (k % 10) := ⟨_, rfl⟩
        rw [← ed2] at z2 ED ⊢
        clear hbr ed ed2 HE
        go_wp2_with fail
        go_ret
        refine ⟨?_, HB.out⟩
        rw [HDN.out, ED.out]; rfl
end Go.Proofs.YtaaenobckipfkaaDoor

namespace Go.Proofs.YtaaenobckipfkaaDoor
open Go.RowKit Go.Blk Go.Opn

theorem txE_cat (e : E31) : txE e = (⟨#[101, 110, 116, 114, 121, 32]⟩ : ByteArray) ++ dec e.house ++ ⟨#[32]⟩ ++ dec e.seq ++ ⟨#[32]⟩ ++ dec e.day ++ ⟨#[32]⟩ ++ dec (e.prev.size : Int) ++ ⟨#[32]⟩ ++ e.prev ++ e.body := by
  apply ba_ext
  show txL e = _
  rw [txL_eq]
  simp only [ba_append, dec_tl, List.append_assoc, List.cons_append, List.nil_append]
set_option maxRecDepth 100000 in
set_option maxHeartbeats 2000000 in
theorem rtext_any (e0 : E31) (w : World) (ho : e0.Ok) (hp : e0.prev.size ≤ 1000000000) (hb : e0.body.size ≤ 1000000000) :
    Calls Tryd.prog 29 #[.agg (encE e0).toArray] w fun e w' => e = .returned (.string (txE e0)) ∧ Below w.heap.size w w' := by
  have B0 := (Blk.new w (encE e0) 37)
  have c0 := B0.cellD 0 _ rfl
  have c1 := B0.cellD 1 _ rfl
  have c2 := B0.cellD 2 _ rfl
  have c3 := B0.cellD 3 _ rfl
  have c4 := B0.cellD 4 _ rfl
  have hbw := (Below.refl w.heap.size w).alloc (Nat.le_refl _) (.cells (encE e0).toArray 37)
  have HB := Lib.hid hbw
  have C1 := Lib.hid (fun w => rdec31_any e0.house w ho.h0 ho.h1)
  have C2 := Lib.hid (fun w => rdec31_any e0.seq w ho.q0 ho.q1)
  have C3 := Lib.hid (fun w => rdec31_any e0.day w ho.d0 ho.d1)
  have C4 := Lib.hid (fun w => rdec31_any (e0.prev.size : Int) w (by omega) (by omega))
  have s1 := dec_size e0.house ho.h0 ho.h1
  have s2 := dec_size e0.seq ho.q0 ho.q1
  have s3 := dec_size e0.day ho.d0 ho.d1
  have s4 := dec_size (e0.prev.size : Int) (by omega) (by omega)
  have HC := Lib.hid (txE_cat e0)
  obtain ⟨R, eR⟩ : ∃ R, R = txE e0 := ⟨_, rfl⟩
  rw [← eR] at HC ⊢
  obtain ⟨xh, xq, xd, xp, xb, xr, xs⟩ := e0
  dsimp only at hp hb s1 s2 s3 s4
  obtain ⟨t1, et1⟩ : ∃ t1, t1 = dec xh := ⟨_, rfl⟩
  obtain ⟨t2, et2⟩ : ∃ t2, t2 = dec xq := ⟨_, rfl⟩
  obtain ⟨t3, et3⟩ : ∃ t3, t3 = dec xd := ⟨_, rfl⟩
  obtain ⟨t4, et4⟩ : ∃ t4, t4 = dec (xp.size : Int) := ⟨_, rfl⟩
  dsimp only at C1 C2 C3 C4 HC
  rw [← et1] at s1 HC
  simp only [← et1] at C1
  rw [← et2] at s2 HC
  simp only [← et2] at C2
  rw [← et3] at s3 HC
  simp only [← et3] at C3
  rw [← et4] at s4 HC
  simp only [← et4] at C4
  clear ho B0 hbw et1 et2 et3 et4 eR
  have z1 : ¬ 9223372036854775807 < 6 + t1.size := by omega
  have z2 : ¬ 9223372036854775807 < 6 + t1.size + 1 := by omega
  have z3 : ¬ 9223372036854775807 < 6 + t1.size + 1 + t2.size := by omega
  have z4 : ¬ 9223372036854775807 < 6 + t1.size + 1 + t2.size + 1 := by omega
  have z5 : ¬ 9223372036854775807 < 6 + t1.size + 1 + t2.size + 1 + t3.size := by omega
  have z6 : ¬ 9223372036854775807 < 6 + t1.size + 1 + t2.size + 1 + t3.size + 1 := by omega
  have z7 : ¬ 9223372036854775807 < 6 + t1.size + 1 + t2.size + 1 + t3.size + 1 + t4.size := by omega
  have z8 : ¬ 9223372036854775807 < 6 + t1.size + 1 + t2.size + 1 + t3.size + 1 + t4.size + 1 := by omega
  have z9 : ¬ 9223372036854775807 < 6 + t1.size + 1 + t2.size + 1 + t3.size + 1 + t4.size + 1 + xp.size := by omega
  have z10 : ¬ 9223372036854775807 < 6 + t1.size + 1 + t2.size + 1 + t3.size + 1 + t4.size + 1 + xp.size + xb.size := by omega
  go_enter Tryd.func29, Tryd.ntmps29
  go_wp2_with fail
  refine Free.wp_region_free 27 [(2, .det (.string t1)), (7, .det (.string t2)), (12, .det (.string t3)), (18, .det (.string t4))] (fun w2 => w2.cell? ⟨w.heap.size, 0, none⟩ = some (.int .i64 xh) ∧ w2.cell? ⟨w.heap.size, 1, none⟩ = some (.int .i64 xq) ∧ w2.cell? ⟨w.heap.size, 2, none⟩ = some (.int .i64 xd) ∧ w2.cell? ⟨w.heap.size, 3, none⟩ = some (.string xp) ∧ w2.cell? ⟨w.heap.size, 4, none⟩ = some (.string xb)) (by kernel_rfl) (by kernel_rfl) ?_ ⟨c0, c1, c2, c3, c4⟩ (fun _ _ h g => ⟨grow_cell h.1 g, grow_cell h.2.1 g, grow_cell h.2.2.1 g, grow_cell h.2.2.2.1 g, grow_cell h.2.2.2.2 g⟩) ?_
  · intro j mk r hf
    simp only [Free.find] at hf
    repeat' split at hf
    all_goals (first | cases hf | skip)
  simp only [List.take_succ_cons, List.take_zero]
  clear c0 c1 c2 c3 c4
  iterate 2 (apply Free.chain_still (by first | exact Free.wanted_of rfl rfl rfl | rfl) rfl; (intro w' hB hA; obtain ⟨q0, q1, q2, q3, q4⟩ := hB; clear hA ; go_light; go_simp <;> rfl); (try simp only [Act.put, List.setIfInBounds_toArray, List.set_cons_succ, List.set_cons_zero]))
  apply Free.chain_det rfl rfl
  · intro w' hB hA
    refine Free.opRun_call (f := 47) (args := #[.int .i64 xh]) (by clear hB hA; go_simp <;> rfl) ?_
    refine (C1.out w').mono ?_
    rintro e w3 ⟨rfl, hb3⟩
    exact ⟨_, rfl, hb3, rfl⟩
  simp only [Act.put, List.setIfInBounds_toArray, List.set_cons_succ, List.set_cons_zero]
  iterate 4 (apply Free.chain_still (by first | exact Free.wanted_of rfl rfl rfl | rfl) rfl; (intro w' hB hA; obtain ⟨q0, q1, q2, q3, q4⟩ := hB; clear hA ; go_light; go_simp <;> rfl); (try simp only [Act.put, List.setIfInBounds_toArray, List.set_cons_succ, List.set_cons_zero]))
  apply Free.chain_det rfl rfl
  · intro w' hB hA
    refine Free.opRun_call (f := 47) (args := #[.int .i64 xq]) (by clear hB hA; go_simp <;> rfl) ?_
    refine (C2.out w').mono ?_
    rintro e w3 ⟨rfl, hb3⟩
    exact ⟨_, rfl, hb3, rfl⟩
  simp only [Act.put, List.setIfInBounds_toArray, List.set_cons_succ, List.set_cons_zero]
  iterate 4 (apply Free.chain_still (by first | exact Free.wanted_of rfl rfl rfl | rfl) rfl; (intro w' hB hA; obtain ⟨q0, q1, q2, q3, q4⟩ := hB; clear hA ; go_light; go_simp <;> rfl); (try simp only [Act.put, List.setIfInBounds_toArray, List.set_cons_succ, List.set_cons_zero]))
  apply Free.chain_det rfl rfl
  · intro w' hB hA
    refine Free.opRun_call (f := 47) (args := #[.int .i64 xd]) (by clear hB hA; go_simp <;> rfl) ?_
    refine (C3.out w').mono ?_
    rintro e w3 ⟨rfl, hb3⟩
    exact ⟨_, rfl, hb3, rfl⟩
  simp only [Act.put, List.setIfInBounds_toArray, List.set_cons_succ, List.set_cons_zero]
  iterate 5 (apply Free.chain_still (by first | exact Free.wanted_of rfl rfl rfl | rfl) rfl; (intro w' hB hA; obtain ⟨q0, q1, q2, q3, q4⟩ := hB; clear hA ; go_light; go_simp <;> rfl); (try simp only [Act.put, List.setIfInBounds_toArray, List.set_cons_succ, List.set_cons_zero]))
  apply Free.chain_det rfl rfl
  · intro w' hB hA
    refine Free.opRun_call (f := 47) (args := #[.int .i64 (xp.size : Int)]) (by clear hB hA; go_simp <;> rfl) ?_
    refine (C4.out w').mono ?_
    rintro e w3 ⟨rfl, hb3⟩
    exact ⟨_, rfl, hb3, rfl⟩
  simp only [Act.put, List.setIfInBounds_toArray, List.set_cons_succ, List.set_cons_zero]
  iterate 8 (apply Free.chain_still (by first | exact Free.wanted_of rfl rfl rfl | rfl) rfl; (intro w' hB hA; obtain ⟨q0, q1, q2, q3, q4⟩ := hB; clear hA ; go_light; go_simp <;> rfl); (try simp only [Act.put, List.setIfInBounds_toArray, List.set_cons_succ, List.set_cons_zero]))
  apply Free.chain_nil
  intro wz _ hg _
  simp only [List.drop_succ_cons, List.drop_zero]
  have hz := grow_drew2 hg
  have FIN := Lib.hid (HB.out.trans (hz.mono (by simp)))
  clear hg hz HB C1 C2 C3 C4
  go_wp2
  go_ret
  exact ⟨by rw [HC.out]; rfl, FIN.out⟩
end Go.Proofs.YtaaenobckipfkaaDoor

namespace Go.Proofs.YtaaenobckipfkaaDoor
open Go.RowKit Go.Blk Go.Opn

set_option maxRecDepth 100000 in
set_option maxHeartbeats 2000000 in
theorem rdig_any (e0 : E31) (w : World) (ho : e0.Ok) (hp : e0.prev.size ≤ 1000000) (hb : e0.body.size ≤ 1000000) :
    Calls Tryd.prog 22 #[.agg (encE e0).toArray] w fun e w' => e = .returned (.string (dig e0)) ∧ Below w.heap.size w w' := by
  have B0 := (Blk.new w (encE e0) 37)
  have c0 := B0.cellD 0 _ rfl
  have c1 := B0.cellD 1 _ rfl
  have c2 := B0.cellD 2 _ rfl
  have c3 := B0.cellD 3 _ rfl
  have c4 := B0.cellD 4 _ rfl
  have c5 := B0.cellD 5 _ rfl
  have c6 := B0.cellD 6 _ rfl
  have C1 := Lib.hid (fun w => rtext_any e0 w ho (by omega) (by omega))
  have C2 := Lib.hid (fun w => rdec31_any e0.r w ho.r0 ho.r1)
  have C3 := Lib.hid (fun w => rdec31_any e0.s w ho.s0 ho.s1)
  have hs := txS_size ho
  have C4 := Lib.hid (fun w => refsum_any (txS e0) w (by omega))
  have ED : Hid (dig e0 = sumB KC (txS e0)) := rfl
  obtain ⟨dg, edg⟩ : ∃ dg, dg = dig e0 := ⟨_, rfl⟩
  rw [← edg]
  rw [← ED.out, ← edg] at C4
  unfold txS at C4
  obtain ⟨tt, ett⟩ : ∃ tt, tt = txE e0 := ⟨_, rfl⟩
  rw [← ett] at C1 C4
  obtain ⟨xh, xq, xd, xp, xb, xr, xs⟩ := e0
  have hbw := (Below.refl w.heap.size w).alloc (Nat.le_refl _) (.cells (encE ⟨xh, xq, xd, xp, xb, xr, xs⟩).toArray 37)
  have HB := Lib.hid hbw
  have htt : tt.size ≤ 3000000000 := by have := txE_size ho; rw [ett]; simp only at this hp hb; omega
  have hdr := dec_size xr ho.r0 ho.r1
  have hds := dec_size xs ho.s0 ho.s1
  have z1 : ¬ 9223372036854775807 < tt.size + 1 := by omega
  have z2 : ¬ 9223372036854775807 < tt.size + 1 + (dec xr).size := by omega
  have z3 : ¬ 9223372036854775807 < tt.size + 1 + (dec xr).size + 1 := by omega
  have z4 : ¬ 9223372036854775807 < tt.size + 1 + (dec xr).size + 1 + (dec xs).size := by omega
  clear ho hp hb hs ED edg ett B0 hbw
  go_enter Tryd.func22, Tryd.ntmps22
  go_wp2_with fail
  refine Free.wp_region_free 15 [(1, .det (.string tt)), (6, .det (.string (dec xr))), (12, .det (.string (dec xs))), (14, .det (.string dg))] (fun w2 => w2.cell? ⟨w.heap.size, 0, none⟩ = some (.int .i64 xh) ∧ w2.cell? ⟨w.heap.size, 1, none⟩ = some (.int .i64 xq) ∧ w2.cell? ⟨w.heap.size, 2, none⟩ = some (.int .i64 xd) ∧ w2.cell? ⟨w.heap.size, 3, none⟩ = some (.string xp) ∧ w2.cell? ⟨w.heap.size, 4, none⟩ = some (.string xb) ∧ w2.cell? ⟨w.heap.size, 5, none⟩ = some (.int .i64 xr) ∧ w2.cell? ⟨w.heap.size, 6, none⟩ = some (.int .i64 xs)) (by kernel_rfl) (by kernel_rfl) ?_ ⟨c0, c1, c2, c3, c4, c5, c6⟩ (fun _ _ h g => ⟨grow_cell h.1 g, grow_cell h.2.1 g, grow_cell h.2.2.1 g, grow_cell h.2.2.2.1 g, grow_cell h.2.2.2.2.1 g, grow_cell h.2.2.2.2.2.1 g, grow_cell h.2.2.2.2.2.2 g⟩) ?_
  · intro j mk r hf
    simp only [Free.find] at hf
    repeat' split at hf
    all_goals (first | cases hf | skip)
  simp only [List.take_succ_cons, List.take_zero]
  clear c0 c1 c2 c3 c4 c5 c6
  iterate 1 (apply Free.chain_still (by first | exact Free.wanted_of rfl rfl rfl | rfl) rfl; (intro w' hB hA; obtain ⟨q0, q1, q2, q3, q4, q5, q6⟩ := hB; clear hA ; go_light; go_simp <;> rfl); (try simp only [Act.put, List.setIfInBounds_toArray, List.set_cons_succ, List.set_cons_zero]))
  apply Free.chain_det rfl rfl
  · intro w' hB hA
    refine Free.opRun_call (f := 29) (args := #[.agg (encE ⟨xh, xq, xd, xp, xb, xr, xs⟩).toArray]) (by clear hB hA; go_simp <;> rfl) ?_
    refine (C1.out w').mono ?_
    rintro e w3 ⟨rfl, hb3⟩
    exact ⟨_, rfl, hb3, rfl⟩
  simp only [Act.put, List.setIfInBounds_toArray, List.set_cons_succ, List.set_cons_zero]
  iterate 4 (apply Free.chain_still (by first | exact Free.wanted_of rfl rfl rfl | rfl) rfl; (intro w' hB hA; obtain ⟨q0, q1, q2, q3, q4, q5, q6⟩ := hB; clear hA ; go_light; go_simp <;> rfl); (try simp only [Act.put, List.setIfInBounds_toArray, List.set_cons_succ, List.set_cons_zero]))
  apply Free.chain_det rfl rfl
  · intro w' hB hA
    refine Free.opRun_call (f := 47) (args := #[.int .i64 xr]) (by clear hB hA; go_simp <;> rfl) ?_
    refine (C2.out w').mono ?_
    rintro e w3 ⟨rfl, hb3⟩
    exact ⟨_, rfl, hb3, rfl⟩
  simp only [Act.put, List.setIfInBounds_toArray, List.set_cons_succ, List.set_cons_zero]
  iterate 5 (apply Free.chain_still (by first | exact Free.wanted_of rfl rfl rfl | rfl) rfl; (intro w' hB hA; obtain ⟨q0, q1, q2, q3, q4, q5, q6⟩ := hB; clear hA ; go_light; go_simp <;> rfl); (try simp only [Act.put, List.setIfInBounds_toArray, List.set_cons_succ, List.set_cons_zero]))
  apply Free.chain_det rfl rfl
  · intro w' hB hA
    refine Free.opRun_call (f := 47) (args := #[.int .i64 xs]) (by clear hB hA; go_simp <;> rfl) ?_
    refine (C3.out w').mono ?_
    rintro e w3 ⟨rfl, hb3⟩
    exact ⟨_, rfl, hb3, rfl⟩
  simp only [Act.put, List.setIfInBounds_toArray, List.set_cons_succ, List.set_cons_zero]
  iterate 1 (apply Free.chain_still (by first | exact Free.wanted_of rfl rfl rfl | rfl) rfl; (intro w' hB hA; obtain ⟨q0, q1, q2, q3, q4, q5, q6⟩ := hB; clear hA ; go_light; go_simp <;> rfl); (try simp only [Act.put, List.setIfInBounds_toArray, List.set_cons_succ, List.set_cons_zero]))
  apply Free.chain_det rfl rfl
  · intro w' hB hA
    refine Free.opRun_call (f := 46) (args := #[.string (tt ++ ⟨#[32]⟩ ++ dec xr ++ ⟨#[32]⟩ ++ dec xs)]) (by clear hB hA; go_simp <;> rfl) ?_
    refine (C4.out w').mono ?_
    rintro e w3 ⟨rfl, hb3⟩
    exact ⟨_, rfl, hb3, rfl⟩
  simp only [Act.put, List.setIfInBounds_toArray, List.set_cons_succ, List.set_cons_zero]
  apply Free.chain_nil
  intro wz _ hg _
  simp only [List.drop_succ_cons, List.drop_zero]
  have hz := grow_drew2 hg
  have FIN := Lib.hid (HB.out.trans (hz.mono (by simp)))
  clear hg hz HB C1 C2 C3 C4
  go_wp2
  go_ret
  exact ⟨rfl, FIN.out⟩
theorem few_small {l : List E31} {n : Nat} (h : fewB l n = true) : ∀ e ∈ l, e.prev.size ≤ 100 ∧ e.body.size ≤ 2100 := by
  unfold fewB at h
  rw [Bool.and_eq_true, List.all_eq_true] at h
  intro e he
  have := h.2 e he
  unfold smallE at this
  rw [Bool.and_eq_true, decide_eq_true_iff, decide_eq_true_iff] at this
  exact this
end Go.Proofs.YtaaenobckipfkaaDoor
