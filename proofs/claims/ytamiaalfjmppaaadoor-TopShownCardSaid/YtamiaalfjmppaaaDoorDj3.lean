/- The law's leaves. Condition: the variables of digest and strconv hold their numbers; salts of at most 10^9 bytes. -/
import Derived.Test.YtamiaalfjmppaaaDoorDj2
import Derived.Test.YtamiaalfjmppaaaDoorDi6
import Derived.Test.YtamiaalfjmppaaaDoorApl
namespace Go.Proofs.YtamiaalfjmppaaaDoor
open Go.RowKit Go.W32 Go.Blk Go.Sg Go.Opn Go.Di Go.Rf

set_option maxRecDepth 100000 in
theorem exec_fac {o : Oper} {ρ : Operand → Value} {w : World} {a : Operand} {b off : Nat} {x : Fac} (ho : o.op = .load 25 a) (ha : ρ a = .pointer (some ⟨b, off, none⟩)) (hc : ∀ p u, (encF x)[p]? = some u → w.cell? ⟨b, off + p, none⟩ = some u) :
    (execOp ρ o).run Tryd.prog w = .ok (.value (.agg (encF x).toArray)) w := by
  obtain ⟨xr, xa, xl, xh, xf, xs⟩ := x
  have p0 := hc 0 _ rfl
  have p1 := hc 1 _ rfl
  have p2 := hc 2 _ rfl
  have p3 := hc 3 _ rfl
  have p4 := hc 4 _ rfl
  have p5 := hc 5 _ rfl
  simp only [Nat.add_zero] at p0 p1 p2 p3 p4 p5
  clear hc
  unfold execOp
  simp only [ho, ha]
  go_simp <;> rfl
theorem saltA_size {l : List ByteArray} (h : Short l) (i : Nat) : (saltA l i).size ≤ 1000000000 := by
  unfold saltA
  cases hl : l[i]? with
  | none => show (⟨#[]⟩ : ByteArray).size ≤ _; decide
  | some x => exact h x (List.mem_of_getElem? hl)
theorem saltA_200 {l : List ByteArray} (h : ∀ b ∈ l, b.size ≤ 200) (i : Nat) : (saltA l i).size ≤ 200 := by
  unfold saltA
  cases hl : l[i]? with
  | none => show (⟨#[]⟩ : ByteArray).size ≤ _; decide
  | some x => exact h x (List.mem_of_getElem? hl)
/-- The leaves of facts with salts. -/
def leavesA (l : List Fac) (salts : List ByteArray) : List ByteArray := l.mapIdx (fun i x => leafD x (saltA salts i))
theorem leavesA_len (l : List Fac) (salts : List ByteArray) : (leavesA l salts).length = l.length := by unfold leavesA; simp
theorem leavesA_at {l : List Fac} {salts : List ByteArray} {i : Nat} {x : Fac} (h : l[i]? = some x) : (leavesA l salts)[i]? = some (leafD x (saltA salts i)) := by
  unfold leavesA; rw [List.getElem?_mapIdx, h]; rfl
theorem leavesA_short (l : List Fac) (salts : List ByteArray) : Short (leavesA l salts) := fun b hb => by
  obtain ⟨i, hi⟩ := List.mem_iff_getElem?.1 hb
  unfold leavesA at hi
  rw [List.getElem?_mapIdx] at hi
  cases hl : l[i]? with
  | none => rw [hl] at hi; cases hi
  | some x =>
    rw [hl] at hi
    have : b = leafD x (saltA salts i) := (Option.some.inj hi).symm
    rw [this]
    have : (leafD x (saltA salts i)).size = 64 := tagD_size _ _ _
    omega
theorem leavesA_snoc (l : List Fac) (x : Fac) (salts : List ByteArray) : leavesA (l ++ [x]) salts = leavesA l salts ++ [leafD x (saltA salts l.length)] := by
  unfold leavesA; rw [List.mapIdx_concat]
def RLV (w : World) (l : List Fac) (salts : List ByteArray) (o i : Value) (wr : World) : Prop :=
  ∃ k : Nat, k ≤ l.length ∧ i = .int .i64 (k : Int) ∧ wr.ownsRow w.heap.size 9 1 o k ((leavesA (l.take k) salts).map Value.string) ∧ Below w.heap.size w wr
theorem row_slS {w : World} {B n : Nat} {v : Value} {l : List ByteArray} (h : w.ownsRow B 9 1 v n (l.map Value.string)) : ∃ A c, v = .slice A n c ∧ n ≤ c ∧ SL w 1 encS A l := by
  rcases h.2 with ⟨h1, h2⟩ | ⟨g, cap, cur, h1, _, _, h4, _⟩
  · have hl : l.length = n := by simpa using h.1
    refine ⟨none, 0, by rw [h1, h2], by omega, ?_⟩
    have : l = [] := List.length_eq_zero_iff.1 (by omega)
    subst this; exact SL.nil
  · subst h1
    exact ⟨_, _, rfl, h4, sl_own h⟩
set_option maxRecDepth 100000 in
set_option maxHeartbeats 2000000 in
theorem leaves_any (A B : Option Addr) (c d : Nat) (l : List Fac) (salts : List ByteArray) (w : World) (h : SL w 6 encF A l) (h2 : SL w 1 encS B salts) (hl : l.length ≤ 1000) (ho : ∀ x ∈ l, x.Ok) (hsh : Short salts) (hT : HasT w) :
    Calls Tryd.prog 29 #[.slice A l.length c, .slice B salts.length d] w fun e w' => (∃ A' c', l.length ≤ c' ∧ e = .returned (.slice A' l.length c') ∧ SL w' 1 encS A' (leavesA l salts)) ∧ Below w.heap.size w w' := by
  obtain ⟨R, eR⟩ : ∃ R : Ending → World → Prop, R = fun e w' => (∃ A' c', l.length ≤ c' ∧ e = .returned (.slice A' l.length c') ∧ SL w' 1 encS A' (leavesA l salts)) ∧ Below w.heap.size w w' := ⟨_, rfl⟩
  rw [← eR]
  have FIN : Hid (∀ w' A' c', l.length ≤ c' → SL w' 1 encS A' (leavesA l salts) → Below w.heap.size w w' → R (.returned (.slice A' l.length c')) w') := fun w' A' c' a1 a2 a3 => by rw [eR]; exact ⟨⟨A', c', a1, rfl, a2⟩, a3⟩
  have HST : Hid (RLV w l salts (.slice none 0 0) (.int .i64 0) w) := ⟨0, Nat.zero_le _, rfl, by rw [List.take_zero]; exact World.ownsRow_nil _ _ _ _, Below.refl _ _⟩
  have HS := Lib.hid h
  have HS2 := Lib.hid h2
  have HO := Lib.hid ho
  have HT := Lib.hid hT
  have HSH := Lib.hid hsh
  clear h h2 ho hT eR hsh
  go_enter Tryd.func29, Tryd.ntmps29
  go_wp2_with fail
  go_loopw [5, 6] (fun o i wr => RLV w l salts o i wr) (fun _ i _ => l.length - (intOf i).toNat)
  case atStart => exact HST.out
  case round =>
    clear HST
    obtain ⟨k, hk, rfl, hrow, hbr⟩ := hrel
    by_cases hlt : k < l.length
    · obtain ⟨x, hx⟩ : ∃ x, l[k]? = some x := ⟨_, List.getElem?_eq_getElem hlt⟩
      have hxo := HO.out x (List.mem_of_getElem? hx)
      have NX : Hid (leavesA (l.take (k + 1)) salts = leavesA (l.take k) salts ++ [leafD x (saltA salts k)]) := by
        show _ = _
        rw [take_snoc hx, leavesA_snoc, List.length_take, Nat.min_eq_left hk]
      have hsz := saltA_size HSH.out k
      have CS : Hid (∀ w', Below w.heap.size w w' → Calls Tryd.prog 30 #[.slice B salts.length d, .int .i64 (k : Int)] w' fun e w2 => e = .returned (.string (saltA salts k)) ∧ Below w'.heap.size w' w2) := fun w' hb => by
        refine (salt_any B d k salts w' (HS2.out.below hb (Nat.le_refl _))).mono ?_
        rintro e w2 ⟨rfl, rfl⟩
        exact ⟨rfl, Below.refl _ _⟩
      have CL : Hid (∀ w', Below w.heap.size w w' → Calls Tryd.prog 12 #[.agg (encF x).toArray, .string (saltA salts k)] w' fun e w2 => e = .returned (.string (leafD x (saltA salts k))) ∧ Below w'.heap.size w' w2) := fun w' hb => leaf_any x (saltA salts k) w' hxo hsz (HT.out.below hb (Nat.le_refl _))
      obtain ⟨b, off, rfl, _⟩ := HS.out.at_ hx
      have CE : Hid (∀ w', Below w.heap.size w w' → ∀ p u, (encF x)[p]? = some u → w'.cell? ⟨b, off + k * 6 + p, none⟩ = some u) := fun w' hb => by
        obtain ⟨b', off', e1, hc⟩ := (HS.out.below hb (Nat.le_refl _)).at_ hx
        cases e1
        intro p u hu
        have := hc p u hu
        rw [← Nat.add_assoc] at this; exact this
      obtain ⟨st, est⟩ : ∃ st, st = saltA salts k := ⟨_, rfl⟩
      obtain ⟨lf, elf⟩ : ∃ lf, lf = leafD x st := ⟨_, rfl⟩
      rw [← est] at NX CS CL
      rw [← elf] at NX CL
      obtain ⟨out, eout⟩ : ∃ out, out = leavesA (l.take k) salts := ⟨_, rfl⟩
      rw [← eout] at NX hrow
      obtain ⟨Ar, cr, rfl, _, _⟩ := row_slS hrow
      have ki1 : (k : Int) < (l.length : Int) := by omega
      have k00 : (0 : Int) ≤ (k : Int) := by omega
      have HBR := Lib.hid hbr
      have HROW := Lib.hid hrow
      clear hx hxo hsz est elf eout hbr hrow
      go_wp2_with fail
      refine Free.wp_region_free 10 [(7, .det (.string st)), (8, .det (.string lf)), (9, .ind (fun b => .slice (some ⟨b, 0, none⟩) 1 1) (fun b w2 => w2.heap[b]? = some (.cells #[.string lf] 9 (0, 0)) ∧ wr.heap.size ≤ b))] (fun w2 => Below wr.heap.size wr w2) (by kernel_rfl) (by kernel_rfl) ?_ (Below.refl _ _).drew (fun _ _ h g => h.trans (Below.mono g h.size)) ?_
      · intro j mk r hf y w1 w2 hr gr
        simp only [Free.find] at hf
        repeat' split at hf
        all_goals (first | (cases hf; exact ⟨(gr.block _ (Array.getElem?_eq_some_iff.1 hr.1).1).trans hr.1, hr.2⟩) | cases hf)
      simp only [List.take_succ_cons, List.take_zero]
      iterate 4 (apply Free.chain_still (by first | exact Free.wanted_of rfl rfl rfl | rfl) rfl; (intro w' hB hA; obtain qB := hB; clear hA  ; go_light; go_simp <;> rfl); (try simp only [Act.put, List.setIfInBounds_toArray, List.set_cons_succ, List.set_cons_zero]))
      apply Free.chain_still (by first | exact Free.wanted_of rfl rfl rfl | rfl) rfl
      · intro w' hB hA
        exact exec_fac (x := x) rfl rfl (CE.out w' (HBR.out.trans (hB.mono HBR.out.size)))
      simp only [Act.put, List.setIfInBounds_toArray, List.set_cons_succ, List.set_cons_zero]
      iterate 2 (apply Free.chain_still (by first | exact Free.wanted_of rfl rfl rfl | rfl) rfl; (intro w' hB hA; obtain qB := hB; clear hA  ; go_light; go_simp <;> rfl); (try simp only [Act.put, List.setIfInBounds_toArray, List.set_cons_succ, List.set_cons_zero]))
      apply Free.chain_det (by first | exact Free.wanted_of rfl rfl rfl | rfl) rfl
      · intro w' hB hA
        refine Free.opRun_call (f := 30) (args := #[.slice B salts.length d, .int .i64 (k : Int)]) (by clear hB hA; go_simp <;> rfl) ?_
        refine (CS.out w' (HBR.out.trans (hB.mono HBR.out.size))).mono ?_
        rintro e w3 ⟨rfl, hb3⟩
        exact ⟨_, rfl, hb3, rfl⟩
      simp only [Act.put, List.setIfInBounds_toArray, List.set_cons_succ, List.set_cons_zero]
      apply Free.chain_det (by first | exact Free.wanted_of rfl rfl rfl | rfl) rfl
      · intro w' hB hA
        refine Free.opRun_call (f := 12) (args := #[.agg (encF x).toArray, .string st]) (by clear hB hA; go_simp <;> rfl) ?_
        refine (CL.out w' (HBR.out.trans (hB.mono HBR.out.size))).mono ?_
        rintro e w3 ⟨rfl, hb3⟩
        exact ⟨_, rfl, hb3, rfl⟩
      simp only [Act.put, List.setIfInBounds_toArray, List.set_cons_succ, List.set_cons_zero]
      apply Free.chain_ind rfl rfl
      · intro w' hB hA
        refine Free.opRun_of (v := .slice (some ⟨w'.heap.size, 0, none⟩) 1 1) (w' := w'.alloc (.cells #[.string lf] 9)) (by clear hB hA; go_light; go_simp <;> rfl) ⟨Free.Grow.alloc _ _, _, rfl, new_at rfl, hB.size⟩
      intro bb
      simp only [Act.put, List.setIfInBounds_toArray, List.set_cons_succ, List.set_cons_zero]
      apply Free.chain_nil
      intro wy hBz _ hh
      obtain ⟨hbz, hbl⟩ : wy.heap[bb]? = some (.cells #[.string lf] 9 (0, 0)) ∧ wr.heap.size ≤ bb := hh _ List.mem_cons_self
      simp only [List.drop_succ_cons, List.drop_zero]
      have hrow2 := row_below HROW.out hBz
      obtain ⟨i0, hi0, hz0, hz1, hz2⟩ := info_parts infoStr
      have HBW := Lib.hid (HBR.out.trans (hBz.mono HBR.out.size))
      clear hh hBz HROW CS CL CE
      refine wpList_append_own _ rfl (.tmp 13) (.tmp 22) 23 rfl w.heap.size 9 i0 (.string ⟨#[]⟩) 1 16 Tryd.underlying23 hi0 hz0 hz1 hz2 rfl (by decide) (.slice Ar k cr) k (out.map Value.string) rfl hrow2 ⟨bb, 0, none⟩ 1 1 [.string lf] rfl rfl (fun j u hu => ?_) (by simp [Value.oneCell']) (by have : maxLen = 9223372036854775807 := rfl; omega) (by omega) HBW.out.size ?_
      · match j, hu with
        | 0, hu => cases hu; simp [World.cell?, Addr.add, hbz]
      intro v' w5 hown hgr _
      have KEY : Hid (RLV w l salts v' (.int .i64 ((k : Int) + 1)) w5) := ⟨k + 1, by omega, by go_num, by rw [NX.out, List.map_append]; simpa using hown, HBW.out.grown hgr HBW.out.size (fun j e => (hrow2.lt j e).1)⟩
      clear hown hgr hrow2 HBW HBR hbz
      go_wp2_with fail
      refine ⟨KEY.out, ?_⟩
      simp [intOf]; omega
    · obtain rfl : k = l.length := by omega
      rw [List.take_length] at hrow
      obtain ⟨Ar, cr, rfl, hcr, hsl⟩ := row_slS hrow
      have HF := Lib.hid (FIN.out wr Ar cr hcr hsl hbr)
      clear FIN hrow hsl hbr
      go_wp2_with fail
      exact HF.out
end Go.Proofs.YtamiaalfjmppaaaDoor
