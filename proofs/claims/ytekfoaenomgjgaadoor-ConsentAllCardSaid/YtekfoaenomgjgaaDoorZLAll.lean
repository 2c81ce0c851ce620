/- The law ConsentAll: it holds. Condition: the variables of digest and strconv hold their numbers, the letters lie in memory. -/
import Derived.Test.YtekfoaenomgjgaaDoorYF
namespace Go.Proofs.YtekfoaenomgjgaaDoor
open Go.RowKit Go.W32 Go.Blk Go.Cs Go.Lib Go.Opn Go.Mg

theorem unwanted2 {o : Oper} {ops : Array Oper} {a : Act} {j t : Nat} {b b' : Bool} (hg : o.guard = some (j, b')) (hj : (ops[j]?).bind (·.dst) = some t) (ht : a.tmps[t]? = some (.bool b)) (hne : (b == b') = false) : Region.wanted o (yielded ops a.tmps) = false := by
  unfold Region.wanted yielded
  rw [hg]
  simp only [hj, Option.bind_some, ht]
  simpa using hne
theorem unwanted3 {o : Oper} {ops : Array Oper} {a : Act} {j t : Nat} {b' : Bool} (hg : o.guard = some (j, b')) (hj : (ops[j]?).bind (·.dst) = some t) (ht : a.tmps[t]? = some undef) : Region.wanted o (yielded ops a.tmps) = false := by
  unfold Region.wanted yielded
  rw [hg]
  simp only [hj, Option.bind_some, ht]
  rfl
/-- A letter that proposes what an amendment says. -/
def mt (p : Int) (x : Pr × Hd) (r : Rl) : Bool := decide (r.1.kind = 1) && (decide (r.1.party = p) && (decide (r.1.number = x.1.x.number) && (decide (r.1.day = x.1.x.day) && r.1.patch.same x.1.x.patch)))
theorem any_more {α : Type} {f : α → Bool} {l : List α} {k : Nat} {x : α} (hx : l[k]? = some x) : (l.take (k + 1)).any f = ((l.take k).any f || f x) := by
  rw [List.take_add_one, hx, Option.toList_some, List.any_append]
  simp
theorem mt_own {parties p : Int} {l : List Rl} (hp0 : 0 ≤ p) (hp : p < parties) {x : Pr × Hd} (h : x.1 ∈ agreedF DG parties (without l 2 p)) : l.any (mt p x) = true := by
  obtain ⟨r, hr, h1, h2, h3⟩ := all_own DG parties hp0 hp h
  rw [List.any_eq_true]
  refine ⟨r, hr, ?_⟩
  unfold mt
  rw [h3, h1, h2]
  simp only [decide_true, Bool.true_and]
  exact Pat.same_iff.2 rfl
/-- The cells that the law looks at. -/
structure CellsR (w : World) (ba oa bb ob : Nat) (kind party number day an ad : Int) (cs ds : List Value) : Prop where
  c0 : w.cell? ⟨ba, oa, none⟩ = some (.int .i64 kind)
  c1 : w.cell? ⟨ba, oa + 1, none⟩ = some (.int .i64 party)
  c2 : w.cell? ⟨ba, oa + 2, none⟩ = some (.int .i64 number)
  c4 : w.cell? ⟨ba, oa + 4, none⟩ = some (.int .i64 day)
  a0 : w.cell? ⟨bb, ob, none⟩ = some (.int .i64 an)
  a1 : w.cell? ⟨bb, ob + 1, none⟩ = some (.int .i64 ad)
  cs : w.rangeAt ba (oa + 5) cs
  ds : w.rangeAt bb (ob + 3) ds
theorem CellsR.of {w : World} {ba oa bb ob k i : Nat} {l : List Rl} {am : List (Pr × Hd)} {r : Rl} {x : Pr × Hd} (h1 : SL w 25 encLet (some ⟨ba, oa, none⟩) l) (h2 : SL w 22 encAm (some ⟨bb, ob, none⟩) am) (hr : l[k]? = some r) (hx : am[i]? = some x) : CellsR w ba (oa + k * 25) bb (ob + i * 22) r.1.kind r.1.party r.1.number r.1.day x.1.x.number x.1.x.day (encPat r.1.patch r.2) (encPat x.1.x.patch x.2) := by
  have hA := sl_range h1 hr
  have hB := sl_range h2 hx
  refine ⟨?_, hA 1 _ rfl, hA 2 _ rfl, hA 4 _ rfl, ?_, hB 1 _ rfl, fun j v hj => ?_, fun j v hj => ?_⟩
  · have h := hA 0 (.int .i64 r.1.kind) rfl; rwa [Nat.add_zero] at h
  · have h := hB 0 (.int .i64 x.1.x.number) rfl; rwa [Nat.add_zero] at h
  · have h := hA (5 + j) v (let_at hj)
    rw [← Nat.add_assoc] at h; exact h
  · have h := hB (3 + j) v (am_pat hj)
    rw [← Nat.add_assoc] at h; exact h
set_option maxRecDepth 100000 in
set_option maxHeartbeats 4000000 in
theorem all30_any (parties : Int) (A : Option Addr) (c : Nat) (l : List Rl) (raw : Int) (W : World) (hT : HasT W) (hl : LetsW W A l) (hn : l.length ≤ 9223372036854775807) (hr0 : 0 ≤ raw) (hraw : raw ≤ 255) (hpar : parties ≤ 9223372036854775807) :
    Calls Tryd.prog 4 #[.int .i64 parties, .slice A l.length c, .int .u8 raw] W fun e w' => e = .returned (.bool true) ∧ Below W.heap.size W w' := by
  obtain ⟨R, eR⟩ : ∃ R : Ending → World → Prop, R = fun e w' => e = .returned (.bool true) ∧ Below W.heap.size W w' := ⟨_, rfl⟩
  rw [← eR]
  have FIN : Hid (∀ w', Below W.heap.size W w' → R (.returned (.bool true)) w') := Lib.hid fun w' hb => by rw [eR]; exact ⟨rfl, hb⟩
  clear eR
  have HTA : Hid (∀ w, Below W.heap.size W w → HasT w) := Lib.hid fun w hb => hT.below hb (Nat.le_refl _)
  have HLW := Lib.hid hl
  have CH := Lib.hid (head30_any W hT)
  have HN := Lib.hid hn
  clear hT hl hn
  go_enter Tryd.func4, Tryd.ntmps4
  go_wp2_with fail
  refine CH.out.mono ?_
  rintro e w1 ⟨rfl, hb1⟩
  have CSl := Lib.hid (sl_any 30 A c l w1 (HLW.out.sl.below hb1 (Nat.le_refl _)) HN.out (by decide))
  have HB1 := Lib.hid hb1
  clear hb1 CH
  go_wp2_with fail
  refine CSl.out.mono ?_
  rintro e w2 ⟨rfl, hb2⟩
  have HB2 := Lib.hid (HB1.out.trans (hb2.mono HB1.out.size))
  clear hb2 CSl HB1
  obtain ⟨sm, esm⟩ : ∃ sm, sm = smallL 30 l := ⟨_, rfl⟩
  rw [← esm]
  cases sm with
  | false =>
    have HF := Lib.hid (FIN.out w2 HB2.out)
    clear esm
    go_wp2_with fail
    exact HF.out
  | true =>
  have HLA : Hid (∀ w, Below W.heap.size W w → LetsAt w A l) := Lib.hid fun w hb => (HLW.out.ok esm.symm).below hb (Nat.le_refl _)
  have hlen : l.length ≤ 30 := by
    unfold smallL at esm
    have := esm.symm
    simp only [Bool.and_eq_true, decide_eq_true_eq] at this
    exact this.1
  clear esm
  by_cases hp1 : parties < 1
  · have HF := Lib.hid (FIN.out w2 HB2.out)
    clear hlen
    go_wp2_with fail
    exact HF.out
  obtain ⟨p, hp⟩ : ∃ p : Int, p = (raw : Int) % parties := ⟨_, rfl⟩
  have hp0 : 0 ≤ p := by rw [hp]; exact Int.emod_nonneg _ (by omega)
  have hpp : p < parties := by rw [hp]; exact Int.emod_lt_of_pos _ (by omega)
  have HPP := Lib.hid (And.intro hp0 hpp)
  have HLN := Lib.hid hlen
  have hrw : (raw : Int) % parties = p := hp.symm
  have hpz : ¬ parties = 0 := by omega
  clear hp hp0 hpp hlen
  go_wp2_with fail
  rw [hrw]
  clear hrw hpz hr0
  have CWo : Hid (∀ w, Below W.heap.size W w → Calls Tryd.prog 10 #[.slice A l.length c, .int .i64 2, .int .i64 p] w (WoPost w l 2 p)) := Lib.hid fun w hb => wo_any A c l 2 p w (HLA.out w hb).sl (by have := HLN.out; omega)
  refine (CWo.out w2 HB2.out).mono ?_
  rintro e w3 ⟨hb3, A3, c3, rfl, hs3⟩
  have HB3 := Lib.hid (HB2.out.trans (hb3.mono HB2.out.size))
  have hl3 : LetsAt w3 A3 (without l 2 p) := ⟨hs3, fun r hr => (HLA.out w3 HB3.out).pat r (mem_without.1 hr).1, fun r hr => (HLA.out w3 HB3.out).ok r (mem_without.1 hr).1⟩
  have CAg := Lib.hid (ag_any parties A3 c3 (without l 2 p) w3 (HTA.out w3 HB3.out) hl3 (by have := without_len l 2 p; have := HLN.out; omega))
  have HOK := Lib.hid hl3.ok
  clear hb3 hs3 hl3 HB2 CWo
  have HMT : Hid (∀ x : Pr × Hd, x.1 ∈ agreedF DG parties (without l 2 p) → l.any (mt p x) = true) := Lib.hid fun x h => mt_own HPP.out.1 HPP.out.2 h
  generalize without l 2 p = lw at *
  go_wp2_with fail
  refine CAg.out.mono ?_
  rintro e w4 ⟨hb4, A4, c4, am, rfl, k1, k2, k3, k4⟩
  have HS4 := Lib.hid k1
  have HAM : Hid (∀ x ∈ am, AmAt w4 x ∧ l.any (mt p x) = true) := Lib.hid fun x hx => by
    have hm : x.1 ∈ agreedF DG parties lw := by rw [← k3]; exact List.mem_map_of_mem hx
    obtain ⟨_, ⟨q, hq, _, h2, _⟩, _⟩ := agreed_mem DG parties hm
    have := (HOK.out q hq).patch
    exact ⟨⟨k2 x hx, by rw [h2]; exact ⟨this.cl, this.st⟩⟩, HMT.out x hm⟩
  have HB4 := Lib.hid (HB3.out.trans (hb4.mono HB3.out.size))
  have hn4 : am.length ≤ 4000 := k4
  clear hb4 k1 k2 k3 k4 CAg HOK HMT HB3
  go_wp2_with fail
  go_loopw [10] (fun v wr => ∃ i : Nat, v = .int .i64 (i : Int) ∧ i ≤ am.length ∧ Below w4.heap.size w4 wr) (fun v _ => (am.length : Int).toNat - (RowKit.intOf v).toNat)
  case atStart => exact ⟨0, rfl, Nat.zero_le _, Below.refl _ _⟩
  case round =>
    obtain ⟨i, rfl, hi, hbw⟩ := hrel
    rcases Nat.lt_or_eq_of_le hi with hil | hil
    · have hii : (i : Int) < (am.length : Int) := by omega
      have HBI := Lib.hid hbw
      have hln := HLN.out
      clear hbw hi
      generalize wr = wo at *
      go_wp2_with fail
      go_loopw [11, 12] (fun u v wr2 => ∃ (k : Nat) (ow : Bool), u = .bool ow ∧ v = .int .i64 (k : Int) ∧ k ≤ l.length ∧ Hid (∀ x, am[i]? = some x → ow = (l.take k).any (mt p x)) ∧ Below wo.heap.size wo wr2) (fun _ v _ => (l.length : Int).toNat - (RowKit.intOf v).toNat)
      case atStart => exact ⟨0, false, rfl, rfl, Nat.zero_le _, Lib.hid (fun x _ => by simp), Below.refl _ _⟩
      case round =>
        obtain ⟨k, ow, rfl, rfl, hk, how, hbw⟩ := hrel
        rcases Nat.lt_or_eq_of_le hk with hkl | hkl
        · have hki : (k : Int) < (l.length : Int) := by omega
          have hb4 := HBI.out.trans (hbw.mono HBI.out.size)
          have hbW := HB4.out.trans (hb4.mono HB4.out.size)
          obtain ⟨ba, oa, rfl⟩ := sl_addr (HLA.out W (Below.refl _ _)).sl (by rintro rfl; simp at hkl)
          obtain ⟨bb, ob, rfl⟩ := sl_addr HS4.out (by rintro rfl; simp at hil)
          obtain ⟨r, er⟩ : ∃ x, l[k]? = some x := ⟨_, List.getElem?_eq_getElem hkl⟩
          obtain ⟨x, ex⟩ : ∃ x, am[i]? = some x := ⟨_, List.getElem?_eq_getElem hil⟩
          have how2 := how.out x ex
          have HC : Hid (∀ w', Below wr.heap.size wr w' → CellsR w' ba (oa + k * 25) bb (ob + i * 22) r.1.kind r.1.party r.1.number r.1.day x.1.x.number x.1.x.day (encPat r.1.patch r.2) (encPat x.1.x.patch x.2)) := Lib.hid fun w' hb => CellsR.of (HLA.out w' (hbW.trans (hb.mono hbW.size))).sl (HS4.out.below (hb4.trans (hb.mono hb4.size)) (Nat.le_refl _)) er ex
          have CV : Hid (∀ w', Below wr.heap.size wr w' → Calls Tryd.prog 11 #[.agg (encPat r.1.patch r.2).toArray, .agg (encPat x.1.x.patch x.2).toArray] w' fun e w'' => e = .returned (.bool (r.1.patch.same x.1.x.patch)) ∧ Below w'.heap.size w' w'') := Lib.hid fun w' hb => by
            have hL := HLA.out w' (hbW.trans (hb.mono hbW.size))
            have hr := List.mem_of_getElem? er
            have hx := (HAM.out x (List.mem_of_getElem? ex)).1.below (hb4.trans (hb.mono hb4.size)) (Nat.le_refl _)
            have ho := (hL.ok r hr).patch
            exact sm_any _ _ _ _ w' (hL.pat r hr) hx.pat ⟨ho.cl, ho.st⟩ hx.sz
          have EM : Hid (mt p x r = (decide (r.1.kind = 1) && (decide (r.1.party = p) && (decide (r.1.number = x.1.x.number) && (decide (r.1.day = x.1.x.day) && r.1.patch.same x.1.x.patch))))) := Lib.hid rfl
          have HREL : Hid (∀ w' v, Below wr.heap.size wr w' → v = (ow || mt p x r) → ∃ (k' : Nat) (ow' : Bool), Value.bool v = .bool ow' ∧ Value.int .i64 ((k : Int) + 1) = .int .i64 (k' : Int) ∧ k' ≤ l.length ∧ Hid (∀ x, am[i]? = some x → ow' = (l.take k').any (mt p x)) ∧ Below wo.heap.size wo w') := Lib.hid fun w' v hb hv => ⟨k + 1, v, rfl, rfl, hkl, Lib.hid (fun y hy => by
            rw [ex] at hy
            injection hy with hy
            subst hy
            rw [any_more er, ← how2, hv]), hbw.trans (hb.mono hbw.size)⟩
          have HIP := Lib.hid (show (Tryd.prog.info? 32).map (·.size) = some (encPat r.1.patch r.2).length by rw [encPat_len]; kernel_rfl)
          have HIQ := Lib.hid (show (Tryd.prog.info? 32).map (·.size) = some (encPat x.1.x.patch x.2).length by rw [encPat_len]; kernel_rfl)
          clear how how2 er ex hb4 hbW hk hbw
          generalize encPat r.1.patch r.2 = cs at *
          generalize encPat x.1.x.patch x.2 = ds at *
          generalize r.1.patch.same x.1.x.patch = V at *
          generalize r.1.kind = kind at *
          generalize r.1.party = party at *
          generalize r.1.number = number at *
          generalize r.1.day = day at *
          generalize x.1.x.number = an at *
          generalize x.1.x.day = ad at *
          cases ow with
          | true =>
            go_wp2_with fail
            refine Free.wp_region_free 57 [] (fun w2 => Below wr.heap.size wr w2) (by kernel_rfl) (by kernel_rfl) (Free.mono_det (fun j mk r hf => by simp only [Free.find] at hf; repeat' (first | cases hf | split at hf))) (Below.refl _ _).drew (fun _ _ h g => h.trans (Below.mono g h.size)) ?_
            simp only [List.take_succ_cons, List.take_zero]
            iterate 2 (apply Free.chain_still (by first | exact Free.wanted_of rfl rfl rfl | rfl) rfl; (intro w' hB hA; obtain ⟨c0, c1, c2, c4, a0, a1, _, _⟩ := HC.out w' hB; clear hA; go_light; go_simp <;> rfl); (try simp only [Act.put, List.setIfInBounds_toArray, List.set_cons_succ, List.set_cons_zero]))
            iterate 54 (apply Free.chain_skip (by first | exact unwanted2 rfl rfl rfl rfl | exact unwanted3 rfl rfl rfl); simp only [Act.put, List.setIfInBounds_toArray, List.set_cons_succ, List.set_cons_zero])
            iterate 1 (apply Free.chain_still (by first | exact Free.wanted_of rfl rfl rfl | rfl) rfl; (intro w' hB hA; obtain ⟨c0, c1, c2, c4, a0, a1, _, _⟩ := HC.out w' hB; clear hA; go_light; go_simp <;> rfl); (try simp only [Act.put, List.setIfInBounds_toArray, List.set_cons_succ, List.set_cons_zero]))
            apply Free.chain_nil
            intro w6 hw6 _ _
            simp only [List.drop_succ_cons, List.drop_zero]
            have HR := Lib.hid (HREL.out w6 true hw6 (by rw [EM.out]; simp))
            clear hw6 HC CV HREL EM
            go_wp2_with fail
            go_roundw
            case rel => exact HR.out
            case measure => simp [RowKit.intOf]; omega
          | false =>
          by_cases hk1 : kind = 1
          rotate_left
          · have hk1b : (kind == 1) = false := by simpa using hk1
            rw [decide_eq_false hk1] at EM
            clear hk1
            go_wp2_with fail
            refine Free.wp_region_free 57 [] (fun w2 => Below wr.heap.size wr w2) (by kernel_rfl) (by kernel_rfl) (Free.mono_det (fun j mk r hf => by simp only [Free.find] at hf; repeat' (first | cases hf | split at hf))) (Below.refl _ _).drew (fun _ _ h g => h.trans (Below.mono g h.size)) ?_
            simp only [List.take_succ_cons, List.take_zero]
            iterate 9 (apply Free.chain_still (by first | exact Free.wanted_of rfl rfl rfl | rfl) rfl; (intro w' hB hA; obtain ⟨c0, c1, c2, c4, a0, a1, _, _⟩ := HC.out w' hB; clear hA; go_light; go_simp <;> rfl); (try simp only [Act.put, List.setIfInBounds_toArray, List.set_cons_succ, List.set_cons_zero]))
            iterate 7 (apply Free.chain_skip (by exact unwanted2 rfl rfl rfl rfl); simp only [Act.put, List.setIfInBounds_toArray, List.set_cons_succ, List.set_cons_zero])
            iterate 2 (apply Free.chain_still (by first | exact Free.wanted_of rfl rfl rfl | rfl) rfl; (intro w' hB hA; obtain ⟨c0, c1, c2, c4, a0, a1, _, _⟩ := HC.out w' hB; clear hA; go_light; go_simp <;> rfl); (try simp only [Act.put, List.setIfInBounds_toArray, List.set_cons_succ, List.set_cons_zero]))
            iterate 11 (apply Free.chain_skip (by exact unwanted2 rfl rfl rfl rfl); simp only [Act.put, List.setIfInBounds_toArray, List.set_cons_succ, List.set_cons_zero])
            iterate 2 (apply Free.chain_still (by first | exact Free.wanted_of rfl rfl rfl | rfl) rfl; (intro w' hB hA; obtain ⟨c0, c1, c2, c4, a0, a1, _, _⟩ := HC.out w' hB; clear hA; go_light; go_simp <;> rfl); (try simp only [Act.put, List.setIfInBounds_toArray, List.set_cons_succ, List.set_cons_zero]))
            iterate 11 (apply Free.chain_skip (by exact unwanted2 rfl rfl rfl rfl); simp only [Act.put, List.setIfInBounds_toArray, List.set_cons_succ, List.set_cons_zero])
            iterate 2 (apply Free.chain_still (by first | exact Free.wanted_of rfl rfl rfl | rfl) rfl; (intro w' hB hA; obtain ⟨c0, c1, c2, c4, a0, a1, _, _⟩ := HC.out w' hB; clear hA; go_light; go_simp <;> rfl); (try simp only [Act.put, List.setIfInBounds_toArray, List.set_cons_succ, List.set_cons_zero]))
            iterate 11 (apply Free.chain_skip (by exact unwanted2 rfl rfl rfl rfl); simp only [Act.put, List.setIfInBounds_toArray, List.set_cons_succ, List.set_cons_zero])
            iterate 2 (apply Free.chain_still (by first | exact Free.wanted_of rfl rfl rfl | rfl) rfl; (intro w' hB hA; obtain ⟨c0, c1, c2, c4, a0, a1, _, _⟩ := HC.out w' hB; clear hA; go_light; go_simp <;> rfl); (try simp only [Act.put, List.setIfInBounds_toArray, List.set_cons_succ, List.set_cons_zero]))
            apply Free.chain_nil
            intro w6 hw6 _ _
            simp only [List.drop_succ_cons, List.drop_zero]
            have HR := Lib.hid (HREL.out w6 false hw6 (by rw [EM.out]; simp))
            clear hw6 HC CV HREL EM
            go_wp2_with fail
            go_roundw
            case rel => exact HR.out
            case measure => simp [RowKit.intOf]; omega
          subst hk1
          by_cases hk1 : party = p
          rotate_left
          · have hk1b : (party == p) = false := by simpa using hk1
            rw [decide_eq_false hk1] at EM
            clear hk1
            go_wp2_with fail
            refine Free.wp_region_free 57 [] (fun w2 => Below wr.heap.size wr w2) (by kernel_rfl) (by kernel_rfl) (Free.mono_det (fun j mk r hf => by simp only [Free.find] at hf; repeat' (first | cases hf | split at hf))) (Below.refl _ _).drew (fun _ _ h g => h.trans (Below.mono g h.size)) ?_
            simp only [List.take_succ_cons, List.take_zero]
            iterate 18 (apply Free.chain_still (by first | exact Free.wanted_of rfl rfl rfl | rfl) rfl; (intro w' hB hA; obtain ⟨c0, c1, c2, c4, a0, a1, _, _⟩ := HC.out w' hB; clear hA; go_light; go_simp <;> rfl); (try simp only [Act.put, List.setIfInBounds_toArray, List.set_cons_succ, List.set_cons_zero]))
            iterate 11 (apply Free.chain_skip (by exact unwanted2 rfl rfl rfl rfl); simp only [Act.put, List.setIfInBounds_toArray, List.set_cons_succ, List.set_cons_zero])
            iterate 2 (apply Free.chain_still (by first | exact Free.wanted_of rfl rfl rfl | rfl) rfl; (intro w' hB hA; obtain ⟨c0, c1, c2, c4, a0, a1, _, _⟩ := HC.out w' hB; clear hA; go_light; go_simp <;> rfl); (try simp only [Act.put, List.setIfInBounds_toArray, List.set_cons_succ, List.set_cons_zero]))
            iterate 11 (apply Free.chain_skip (by exact unwanted2 rfl rfl rfl rfl); simp only [Act.put, List.setIfInBounds_toArray, List.set_cons_succ, List.set_cons_zero])
            iterate 2 (apply Free.chain_still (by first | exact Free.wanted_of rfl rfl rfl | rfl) rfl; (intro w' hB hA; obtain ⟨c0, c1, c2, c4, a0, a1, _, _⟩ := HC.out w' hB; clear hA; go_light; go_simp <;> rfl); (try simp only [Act.put, List.setIfInBounds_toArray, List.set_cons_succ, List.set_cons_zero]))
            iterate 11 (apply Free.chain_skip (by exact unwanted2 rfl rfl rfl rfl); simp only [Act.put, List.setIfInBounds_toArray, List.set_cons_succ, List.set_cons_zero])
            iterate 2 (apply Free.chain_still (by first | exact Free.wanted_of rfl rfl rfl | rfl) rfl; (intro w' hB hA; obtain ⟨c0, c1, c2, c4, a0, a1, _, _⟩ := HC.out w' hB; clear hA; go_light; go_simp <;> rfl); (try simp only [Act.put, List.setIfInBounds_toArray, List.set_cons_succ, List.set_cons_zero]))
            apply Free.chain_nil
            intro w6 hw6 _ _
            simp only [List.drop_succ_cons, List.drop_zero]
            have HR := Lib.hid (HREL.out w6 false hw6 (by rw [EM.out]; simp))
            clear hw6 HC CV HREL EM
            go_wp2_with fail
            go_roundw
            case rel => exact HR.out
            case measure => simp [RowKit.intOf]; omega
          subst hk1
          by_cases hk1 : number = an
          rotate_left
          · have hk1b : (number == an) = false := by simpa using hk1
            rw [decide_eq_false hk1] at EM
            clear hk1
            go_wp2_with fail
            refine Free.wp_region_free 57 [] (fun w2 => Below wr.heap.size wr w2) (by kernel_rfl) (by kernel_rfl) (Free.mono_det (fun j mk r hf => by simp only [Free.find] at hf; repeat' (first | cases hf | split at hf))) (Below.refl _ _).drew (fun _ _ h g => h.trans (Below.mono g h.size)) ?_
            simp only [List.take_succ_cons, List.take_zero]
            iterate 31 (apply Free.chain_still (by first | exact Free.wanted_of rfl rfl rfl | rfl) rfl; (intro w' hB hA; obtain ⟨c0, c1, c2, c4, a0, a1, _, _⟩ := HC.out w' hB; clear hA; go_light; go_simp <;> rfl); (try simp only [Act.put, List.setIfInBounds_toArray, List.set_cons_succ, List.set_cons_zero]))
            iterate 11 (apply Free.chain_skip (by exact unwanted2 rfl rfl rfl rfl); simp only [Act.put, List.setIfInBounds_toArray, List.set_cons_succ, List.set_cons_zero])
            iterate 2 (apply Free.chain_still (by first | exact Free.wanted_of rfl rfl rfl | rfl) rfl; (intro w' hB hA; obtain ⟨c0, c1, c2, c4, a0, a1, _, _⟩ := HC.out w' hB; clear hA; go_light; go_simp <;> rfl); (try simp only [Act.put, List.setIfInBounds_toArray, List.set_cons_succ, List.set_cons_zero]))
            iterate 11 (apply Free.chain_skip (by exact unwanted2 rfl rfl rfl rfl); simp only [Act.put, List.setIfInBounds_toArray, List.set_cons_succ, List.set_cons_zero])
            iterate 2 (apply Free.chain_still (by first | exact Free.wanted_of rfl rfl rfl | rfl) rfl; (intro w' hB hA; obtain ⟨c0, c1, c2, c4, a0, a1, _, _⟩ := HC.out w' hB; clear hA; go_light; go_simp <;> rfl); (try simp only [Act.put, List.setIfInBounds_toArray, List.set_cons_succ, List.set_cons_zero]))
            apply Free.chain_nil
            intro w6 hw6 _ _
            simp only [List.drop_succ_cons, List.drop_zero]
            have HR := Lib.hid (HREL.out w6 false hw6 (by rw [EM.out]; simp))
            clear hw6 HC CV HREL EM
            go_wp2_with fail
            go_roundw
            case rel => exact HR.out
            case measure => simp [RowKit.intOf]; omega
          subst hk1
          by_cases hk1 : day = ad
          rotate_left
          · have hk1b : (day == ad) = false := by simpa using hk1
            rw [decide_eq_false hk1] at EM
            clear hk1
            go_wp2_with fail
            refine Free.wp_region_free 57 [] (fun w2 => Below wr.heap.size wr w2) (by kernel_rfl) (by kernel_rfl) (Free.mono_det (fun j mk r hf => by simp only [Free.find] at hf; repeat' (first | cases hf | split at hf))) (Below.refl _ _).drew (fun _ _ h g => h.trans (Below.mono g h.size)) ?_
            simp only [List.take_succ_cons, List.take_zero]
            iterate 44 (apply Free.chain_still (by first | exact Free.wanted_of rfl rfl rfl | rfl) rfl; (intro w' hB hA; obtain ⟨c0, c1, c2, c4, a0, a1, _, _⟩ := HC.out w' hB; clear hA; go_light; go_simp <;> rfl); (try simp only [Act.put, List.setIfInBounds_toArray, List.set_cons_succ, List.set_cons_zero]))
            iterate 11 (apply Free.chain_skip (by exact unwanted2 rfl rfl rfl rfl); simp only [Act.put, List.setIfInBounds_toArray, List.set_cons_succ, List.set_cons_zero])
            iterate 2 (apply Free.chain_still (by first | exact Free.wanted_of rfl rfl rfl | rfl) rfl; (intro w' hB hA; obtain ⟨c0, c1, c2, c4, a0, a1, _, _⟩ := HC.out w' hB; clear hA; go_light; go_simp <;> rfl); (try simp only [Act.put, List.setIfInBounds_toArray, List.set_cons_succ, List.set_cons_zero]))
            apply Free.chain_nil
            intro w6 hw6 _ _
            simp only [List.drop_succ_cons, List.drop_zero]
            have HR := Lib.hid (HREL.out w6 false hw6 (by rw [EM.out]; simp))
            clear hw6 HC CV HREL EM
            go_wp2_with fail
            go_roundw
            case rel => exact HR.out
            case measure => simp [RowKit.intOf]; omega
          subst hk1
          go_wp2_with fail
          refine Free.wp_region_free 57 [(54, .det (.bool V))] (fun w2 => Below wr.heap.size wr w2) (by kernel_rfl) (by kernel_rfl) (Free.mono_det (fun j mk r hf => by simp only [Free.find] at hf; repeat' (first | cases hf | split at hf))) (Below.refl _ _).drew (fun _ _ h g => h.trans (Below.mono g h.size)) ?_
          simp only [List.take_succ_cons, List.take_zero]
          iterate 48 (apply Free.chain_still (by first | exact Free.wanted_of rfl rfl rfl | rfl) rfl; (intro w' hB hA; obtain ⟨c0, c1, c2, c4, a0, a1, _, _⟩ := HC.out w' hB; clear hA; go_light; go_simp <;> rfl); (try simp only [Act.put, List.setIfInBounds_toArray, List.set_cons_succ, List.set_cons_zero]))
          apply Free.chain_still (by first | exact Free.wanted_of rfl rfl rfl | rfl) rfl
          · intro w' hB hA
            exact Hk.exec_mid 32 (.tmp 91) rfl ba (oa + k * 25 + 5) rfl cs _ (HC.out _ hB).cs Tryd.underlying32 rfl HIP.out
          simp only [Act.put, List.setIfInBounds_toArray, List.set_cons_succ, List.set_cons_zero]
          iterate 4 (apply Free.chain_still (by first | exact Free.wanted_of rfl rfl rfl | rfl) rfl; (intro w' hB hA; obtain ⟨c0, c1, c2, c4, a0, a1, _, _⟩ := HC.out w' hB; clear hA; go_light; go_simp <;> rfl); (try simp only [Act.put, List.setIfInBounds_toArray, List.set_cons_succ, List.set_cons_zero]))
          apply Free.chain_still (by first | exact Free.wanted_of rfl rfl rfl | rfl) rfl
          · intro w' hB hA
            exact Hk.exec_mid 32 (.tmp 96) rfl bb (ob + i * 22 + 3) rfl ds _ (HC.out _ hB).ds Tryd.underlying32 rfl HIQ.out
          simp only [Act.put, List.setIfInBounds_toArray, List.set_cons_succ, List.set_cons_zero]
          apply Free.chain_det (by first | exact Free.wanted_of rfl rfl rfl | rfl) rfl
          · intro w' hB hA
            refine Free.opRun_call (f := 11) (args := #[.agg cs.toArray, .agg ds.toArray]) (by clear hB hA; go_simp <;> rfl) ?_
            refine (CV.out w' hB).mono ?_
            rintro e w3 ⟨rfl, hb3⟩
            exact ⟨_, rfl, hb3, rfl⟩
          simp only [Act.put, List.setIfInBounds_toArray, List.set_cons_succ, List.set_cons_zero]
          iterate 2 (apply Free.chain_still (by first | exact Free.wanted_of rfl rfl rfl | rfl) rfl; (intro w' hB hA; obtain ⟨c0, c1, c2, c4, a0, a1, _, _⟩ := HC.out w' hB; clear hA; go_light; go_simp <;> rfl); (try simp only [Act.put, List.setIfInBounds_toArray, List.set_cons_succ, List.set_cons_zero]))
          apply Free.chain_nil
          intro w6 hw6 _ _
          simp only [List.drop_succ_cons, List.drop_zero]
          have HR := Lib.hid (HREL.out w6 V hw6 (by rw [EM.out]; simp))
          clear hw6 HC CV HREL EM
          go_wp2_with fail
          go_roundw
          case rel => exact HR.out
          case measure => simp [RowKit.intOf]; omega
        · have hki : ¬ (k : Int) < (l.length : Int) := by omega
          obtain ⟨x, ex⟩ : ∃ x, am[i]? = some x := ⟨_, List.getElem?_eq_getElem hil⟩
          have how2 := how.out x ex
          rw [List.take_of_length_le (by omega), (HAM.out x (List.mem_of_getElem? ex)).2] at how2
          subst how2
          have HBN := Lib.hid (HBI.out.trans (hbw.mono HBI.out.size))
          clear how ex hbw hk
          go_wp2_with fail
          go_roundw
          case rel => exact ⟨i + 1, rfl, hil, HBN.out⟩
          case measure => simp [RowKit.intOf]; omega
    · have hii : ¬ (i : Int) < (am.length : Int) := by omega
      have HB5 := Lib.hid (HB4.out.trans (hbw.mono HB4.out.size))
      clear hbw HAM HS4 hi hil
      go_wp2_with fail
      have CW1 := Lib.hid (wo_any A c l 1 p wr (HLA.out wr HB5.out).sl (by have := HLN.out; omega))
      refine CW1.out.mono ?_
      rintro e w6 ⟨hb6, A6, c6, rfl, hs6⟩
      have HB6 := Lib.hid (HB5.out.trans (hb6.mono HB5.out.size))
      have hl6 : LetsAt w6 A6 (without l 1 p) := ⟨hs6, fun r hr => (HLA.out w6 HB6.out).pat r (mem_without.1 hr).1, fun r hr => (HLA.out w6 HB6.out).ok r (mem_without.1 hr).1⟩
      have CW2 := Lib.hid (wo_any A6 c6 (without l 1 p) 2 p w6 hs6 (by have := without_len l 1 p; have := HLN.out; omega))
      have HL6 : Hid (∀ w, Below w6.heap.size w6 w → LetsAt w A6 (without l 1 p)) := Lib.hid fun w hb => hl6.below hb (Nat.le_refl _)
      have HLE : Hid ((without (without l 1 p) 2 p).length ≤ 30) := Lib.hid (by have := without_len l 1 p; have := without_len (without l 1 p) 2 p; have := HLN.out; omega)
      have HNO : Hid (agreedF DG parties (without (without l 1 p) 2 p) = []) := Lib.hid (all_none DG parties HPP.out.1 HPP.out.2)
      clear hb6 hs6 hl6 CW1 HB5
      generalize without l 1 p = l1 at *
      go_wp2_with fail
      refine CW2.out.mono ?_
      rintro e w7 ⟨hb7, A7, c7, rfl, hs7⟩
      have HB7 := Lib.hid (HB6.out.trans (hb7.mono HB6.out.size))
      have hl7 : LetsAt w7 A7 (without l1 2 p) := ⟨hs7, fun r hr => (HL6.out w7 hb7).pat r (mem_without.1 hr).1, fun r hr => (HL6.out w7 hb7).ok r (mem_without.1 hr).1⟩
      have CG2 := Lib.hid (ag_any parties A7 c7 (without l1 2 p) w7 (HTA.out w7 HB7.out) hl7 (by have := HLE.out; omega))
      clear hb7 hs7 hl7 CW2 HB6 HL6 HLE
      generalize without l1 2 p = l2 at *
      go_wp2_with fail
      refine CG2.out.mono ?_
      rintro e w8 ⟨hb8, A8, c8, bm, rfl, k1, k2, k3, k4⟩
      rw [HNO.out] at k3
      obtain rfl : bm = [] := List.map_eq_nil_iff.1 k3
      have HF := Lib.hid (FIN.out w8 (HB7.out.trans (hb8.mono HB7.out.size)))
      clear hb8 k1 k2 k3 k4 CG2 HNO HB7
      go_wp2_with fail
      exact HF.out
end Go.Proofs.YtekfoaenomgjgaaDoor
