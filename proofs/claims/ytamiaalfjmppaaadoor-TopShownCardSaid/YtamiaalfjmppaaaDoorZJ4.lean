/- The law TopShown, walked. Condition: the variables of digest and of strconv hold their numbers. -/
import Derived.Test.YtamiaalfjmppaaaDoorZJ3
import Derived.Test.YtamiaalfjmppaaaDoorZJ2
namespace Go.Proofs.YtamiaalfjmppaaaDoor
open Go.RowKit Go.Blk Go.Sg Go.Opn Go.Di Go.Apl Go.Rf

def RLs (w : World) (l : List Fac) (salts : List ByteArray) (o m i : Value) (wr : World) : Prop :=
  ∃ k : Nat, k ≤ l.length ∧ i = .int .i64 (k : Int) ∧ m = .int .i64 (maxF (l.take k)) ∧ wr.ownsRow w.heap.size 9 1 o k ((leavesA (l.take k) salts).map Value.string) ∧ (∀ j, j < k → (saltA salts j).size ≤ 100) ∧ Below w.heap.size w wr
def RPs (p : List ByteArray) (i : Value) : Prop := ∃ k : Nat, k ≤ p.length ∧ i = .int .i64 (k : Int) ∧ (∀ j t, j < k → p[j]? = some t → t.size ≤ 100)
theorem root_64 {l : List ByteArray} (h : ∀ b ∈ l, b.size = 64) (h0 : 0 < l.length) (h2 : l.length < 9223372036854775808) : (rootL l).size = 64 := by
  by_cases hl : 2 ≤ l.length
  · rw [rootL_more hl h2]; exact tagD_size _ _ _
  · match l, hl, h0 with
    | [b], _, _ => rw [rootL_one]; exact h b (by simp)
    | _ :: _ :: _, hl, _ => simp at hl
theorem leavesA_64 (l : List Fac) (salts : List ByteArray) : ∀ b ∈ leavesA l salts, b.size = 64 := fun b hb => by
  obtain ⟨i, hi⟩ := List.mem_iff_getElem?.1 hb
  unfold leavesA at hi
  rw [List.getElem?_mapIdx] at hi
  cases hl : l[i]? with
  | none => rw [hl] at hi; cases hi
  | some x =>
    rw [hl] at hi
    have : b = leafD x (saltA salts i) := (Option.some.inj hi).symm
    rw [this]; exact tagD_size _ _ _
theorem leavesA_one (x : Fac) (l : List Fac) (salts : List ByteArray) {k : Nat} (hx : l[k]? = some x) : leavesA (l.take (k + 1)) salts = leavesA (l.take k) salts ++ [leafD x (saltA salts k)] := by
  have hk : k ≤ l.length := Nat.le_of_lt (List.getElem?_eq_some_iff.1 hx).1
  rw [take_snoc hx, leavesA_snoc, List.length_take, Nat.min_eq_left hk]
theorem maxF_mem (l : List Fac) : ∃ y ∈ l ++ [(⟨0, 0, 0, 0, 0, false⟩ : Fac)], maxF l = y.filed := by
  have key : ∀ (l : List Fac) (m : Int) (z : Fac), m = z.filed → ∃ y ∈ l ++ [z], l.foldl (fun m x => max m x.filed) m = y.filed := by
    intro l
    induction l with
    | nil => intro m z h; exact ⟨z, by simp, h⟩
    | cons a l ih =>
      intro m z h
      rw [List.foldl_cons]
      by_cases hm : m ≤ a.filed
      · obtain ⟨y, hy, e⟩ := ih (max m a.filed) a (by omega)
        refine ⟨y, ?_, e⟩
        rcases List.mem_append.1 hy with hy | hy
        · simp [hy]
        · have : y = a := by simpa using hy
          simp [this]
      · obtain ⟨y, hy, e⟩ := ih (max m a.filed) z (by omega)
        refine ⟨y, ?_, e⟩
        rcases List.mem_append.1 hy with hy | hy
        · simp [hy]
        · simp at hy; simp [hy]
  exact key l 0 ⟨0, 0, 0, 0, 0, false⟩ rfl
set_option maxRecDepth 100000 in
set_option maxHeartbeats 8000000 in
theorem shown_law (A B D : Option Addr) (c d f : Nat) (l : List Fac) (salts p : List ByteArray) (secret : Int) (rn : Nat) (x : Fac) (w : World) (h : SL w 6 encF A l) (hln : l.length ≤ 9223372036854775807) (ho : ∀ x ∈ l, x.Ok)
    (hsl : salts.length ≤ 9223372036854775807) (hs : SL w 1 encS B salts) (hx : x.Ok) (hpl : p.length ≤ 9223372036854775807) (hpc : p.length ≤ f) (hp : SL w 1 encS D p) (r1 : rn ≤ 255) (hT : HasT w) :
    Calls Tryd.prog 3 #[.slice A l.length c, .slice B salts.length d, .int .i64 secret, .int .u8 (rn : Int), .agg (encF x).toArray, .slice D p.length f] w fun e w' => e = .returned (.bool true) ∧ Below w.heap.size w w' := by
  obtain ⟨R, eR⟩ : ∃ R : Ending → World → Prop, R = fun e w' => e = .returned (.bool true) ∧ Below w.heap.size w w' := ⟨_, rfl⟩
  rw [← eR]
  have FIN : Hid (∀ w', Below w.heap.size w w' → R (.returned (.bool true)) w') := by intro w' hb; rw [eR]; exact ⟨rfl, hb⟩
  have HS := Lib.hid h
  have HSS := Lib.hid hs
  have HSP := Lib.hid hp
  have HO := Lib.hid ho
  have HX := Lib.hid hx
  have HT := Lib.hid hT
  obtain ⟨V, eV⟩ : ∃ V, V = w.alloc (.cells (encF x).toArray 25) := ⟨_, rfl⟩
  have LV : Hid (Below w.heap.size w V) := by rw [eV]; exact (Below.refl _ _).alloc (Nat.le_refl _) _
  have BV : Hid (∀ w', Below V.heap.size V w' → ∀ p u, (encF x)[p]? = some u → w'.cell? ⟨w.heap.size, 0 + p, none⟩ = some u) := fun w' hb p u hu => by
    have h0 : Blk V w.heap.size (encF x) 25 := by rw [eV]; exact Blk.new w _ _
    rw [Nat.zero_add]
    exact (h0.below hb h0.lt).cellD p u hu
  clear h hs hp ho hx hT eR
  go_enter Tryd.func3, Tryd.ntmps3
  go_wp2_with fail
  rw [← eV]
  refine (kept_any _ (HT.out.below LV.out (Nat.le_refl _))).mono ?_
  rintro e w1 ⟨rfl, bl1⟩
  have HV1 := Lib.hid bl1
  have L1 := Lib.hid (LV.out.trans (bl1.mono LV.out.size))
  clear bl1 eV
  by_cases h0 : l.length = 0
  · have q0 : ((l.length : Int) == 0) = true := by rw [h0]; rfl
    have q1 : (l.length == 0) = true := by rw [h0]; rfl
    have H0 := Lib.hid h0
    clear h0
    go_wp2_with fail
    exact FIN.out _ L1.out
  have q0 : ((l.length : Int) == 0) = false := beq_eq_false_iff_ne.2 (by omega)
  have q1 : (l.length == 0) = false := beq_eq_false_iff_ne.2 h0
  by_cases h8 : 8 < l.length
  · have q2 : decide ((8 : Int) < (l.length : Int)) = true := decide_eq_true (by omega)
    go_wp2_with fail
    exact FIN.out _ L1.out
  have q2 : decide ((8 : Int) < (l.length : Int)) = false := decide_eq_false (by omega)
  by_cases h9 : 8 < salts.length
  · have q3 : decide ((8 : Int) < (salts.length : Int)) = true := decide_eq_true (by omega)
    go_wp2_with fail
    exact FIN.out _ L1.out
  have q3 : decide ((8 : Int) < (salts.length : Int)) = false := decide_eq_false (by omega)
  by_cases h10 : 8 < p.length
  · have q4 : decide ((8 : Int) < (p.length : Int)) = true := decide_eq_true (by omega)
    go_wp2_with fail
    exact FIN.out _ L1.out
  have q4 : decide ((8 : Int) < (p.length : Int)) = false := decide_eq_false (by omega)
  have hl8 : l.length ≤ 8 := by omega
  have hs8 : salts.length ≤ 8 := by omega
  have hp8 : p.length ≤ 8 := by omega
  have H0 := Lib.hid h0
  clear h8 h9 h10 h0
  have HST : Hid (RLs w1 l salts (.slice none 0 0) (.int .i64 0) (.int .i64 0) w1) := ⟨0, Nat.zero_le _, rfl, rfl, by rw [List.take_zero]; exact World.ownsRow_nil _ _ _ _, fun j h => absurd h (Nat.not_lt_zero _), Below.refl _ _⟩
  go_wp2_with fail
  go_loopw [14, 15, 16] (fun o m i wr => RLs w1 l salts o m i wr) (fun _ _ i _ => l.length - (intOf i).toNat)
  case atStart => exact HST.out
  case round =>
    clear HST
    obtain ⟨k, hk, rfl, rfl, hrow, hsz, hbr⟩ := hrel
    by_cases hlt : k < l.length
    · obtain ⟨y, hy⟩ : ∃ y, l[k]? = some y := ⟨_, List.getElem?_eq_getElem hlt⟩
      have hyo := HO.out y (List.mem_of_getElem? hy)
      have HBR := Lib.hid hbr
      have HW := Lib.hid (L1.out.trans (hbr.mono L1.out.size))
      have ki1 : (k : Int) < (l.length : Int) := by omega
      have k00 : (0 : Int) ≤ (k : Int) := by omega
      have NX := Lib.hid (leavesA_one y l salts hy)
      have NM : Hid (maxF (l.take (k + 1)) = max (maxF (l.take k)) y.filed) := by show _ = _; rw [take_snoc hy, maxF_snoc]
      obtain ⟨ba, oa, rfl⟩ : ∃ b off, A = some ⟨b, off, none⟩ := by obtain ⟨b, off, e, _⟩ := HS.out.at_ hy; exact ⟨b, off, e⟩
      have FC : Hid (∀ w', Below w.heap.size w w' → ∀ p u, (encF y)[p]? = some u → w'.cell? ⟨ba, oa + k * 6 + p, none⟩ = some u) := fun w' hb => by
        obtain ⟨b', off', e1, hc⟩ := (HS.out.below hb (Nat.le_refl _)).at_ hy
        cases e1
        intro p u hu
        have := hc p u hu
        rw [← Nat.add_assoc] at this; exact this
      obtain ⟨Ar, cr, rfl, _, _⟩ := row_slS hrow
      have HROW := Lib.hid hrow
      have HSZ := Lib.hid hsz
      obtain ⟨mx, emx⟩ : ∃ mx, mx = maxF (l.take k) := ⟨_, rfl⟩
      rw [← emx] at NM ⊢
      obtain ⟨st, est⟩ : ∃ st, st = saltA salts k := ⟨_, rfl⟩
      rw [← est] at NX
      have EST := Lib.hid est
      obtain ⟨out, eout⟩ : ∃ out, out = leavesA (l.take k) salts := ⟨_, rfl⟩
      rw [← eout] at NX HROW
      clear hrow hsz hbr emx est eout hy
      by_cases hks : k < salts.length
      · obtain ⟨t, ht⟩ : ∃ t, salts[k]? = some t := ⟨_, List.getElem?_eq_getElem hks⟩
        have est : st = t := by rw [EST.out]; unfold saltA; rw [ht]; rfl
        obtain ⟨bs, os, rfl, hcs⟩ := (HSS.out.below HW.out (Nat.le_refl _)).at_ ht
        have c3 := hcs 0 _ rfl
        simp only [Nat.mul_one, Nat.add_zero] at c3
        have ks1 : (k : Int) < (salts.length : Int) := by omega
        subst est
        clear ht hcs
        by_cases h100 : 100 < st.size
        · have q5 : (100 : Int) < (st.size : Int) := by omega
          clear h100
          go_wp2_with fail
          exact FIN.out _ HW.out
        have q5 : ¬ (100 : Int) < (st.size : Int) := by omega
        have CL := Lib.hid (leaf_any y st wr hyo (by omega) (HT.out.below HW.out (Nat.le_refl _)))
        obtain ⟨lf, elf⟩ : ∃ lf, lf = leafD y st := ⟨_, rfl⟩
        rw [← elf] at CL NX
        have H100 := Lib.hid h100
        have d0 := FC.out wr HW.out 0 _ rfl
        have d1 := FC.out wr HW.out 1 _ rfl
        have d2 := FC.out wr HW.out 2 _ rfl
        have d3 := FC.out wr HW.out 3 _ rfl
        have d4 := FC.out wr HW.out 4 _ rfl
        have d5 := FC.out wr HW.out 5 _ rfl
        clear elf h100 hyo
        obtain ⟨yr, ya, yl, yh, yf, ys⟩ := y
        simp only [Nat.add_zero] at d0
        go_wp2_with fail
        refine CL.out.mono ?_
        rintro e w2 ⟨rfl, hb2⟩
        have HW2 := Lib.hid (HW.out.trans (hb2.mono HW.out.size))
        have HB2 := Lib.hid (HBR.out.trans (hb2.mono HBR.out.size))
        have HROW2 := Lib.hid (row_below HROW.out hb2)
        clear hb2 CL d0 d1 d2 d3 d4 d5 HROW
        obtain ⟨i0, hi0, hz0, hz1, hz2⟩ := info_parts infoStr
        have HI := Lib.hid hi0
        have HZ0 := Lib.hid hz0
        have HZ1 := Lib.hid hz1
        have HZ2 := Lib.hid hz2
        clear hi0 hz0 hz1 hz2
        go_wp2_with (at_builtin; refine wpList_append_list (ec := encS) rfl (.tmp 73) (.tmp 80) 23 rfl w1.heap.size 9 i0 _ 16 Tryd.underlying23 HI.out HZ0.out HZ1.out HZ2.out rfl (by decide) encS_len encS_one _ _ _ rfl (row_below HROW2.out ((Below.refl _ _).alloc (Nat.le_refl _) _)) (some ⟨w2.heap.size, 0, none⟩) 1 [lf] rfl (sl_new (l := [lf]) (new_at rfl)) (by have : maxLen = 9223372036854775807 := rfl; simp only [List.length_cons, List.length_nil]; omega) (by simp only [List.length_cons, List.length_nil]; omega) (by have := HB2.out.size; simp; omega) ?_)
        intro v5 w5 hown5 hg5 _
        have hb5 : Below w1.heap.size w1 w5 := (HB2.out.alloc HB2.out.size _).grown hg5 (by have := HB2.out.size; simp; omega) (fun j e => (HROW2.out.lt j e).1)
        have d4 := FC.out w5 (L1.out.trans (hb5.mono L1.out.size)) 4 _ rfl
        have KEY : Hid (RLs w1 l salts v5 (.int .i64 (max mx yf)) (.int .i64 ((k : Int) + 1)) w5) := ⟨k + 1, by omega, by go_num, by rw [NM.out], by rw [NX.out, List.map_append]; exact hown5, fun j hj => by
          by_cases e : j = k
          · subst e; rw [← EST.out]; have := H100.out; omega
          · exact HSZ.out j (by omega), hb5⟩
        clear hown5 hg5 hb5 HROW2 HW2 HB2
        go_wp2_with fail
        refine ⟨KEY.out, ?_⟩
        simp [intOf]; omega
      · have est : st = ⟨#[]⟩ := by rw [EST.out]; unfold saltA; rw [List.getElem?_eq_none (by omega)]; rfl
        have ks1 : ¬ (k : Int) < (salts.length : Int) := by omega
        subst est
        have h100 : ¬ 100 < (⟨#[]⟩ : ByteArray).size := by decide
        have q5 : ¬ (100 : Int) < ((⟨#[]⟩ : ByteArray).size : Int) := by omega
        have CL := Lib.hid (leaf_any y (⟨#[]⟩ : ByteArray) wr hyo (by omega) (HT.out.below HW.out (Nat.le_refl _)))
        obtain ⟨lf, elf⟩ : ∃ lf, lf = leafD y (⟨#[]⟩ : ByteArray) := ⟨_, rfl⟩
        rw [← elf] at CL NX
        have H100 := Lib.hid h100
        have d0 := FC.out wr HW.out 0 _ rfl
        have d1 := FC.out wr HW.out 1 _ rfl
        have d2 := FC.out wr HW.out 2 _ rfl
        have d3 := FC.out wr HW.out 3 _ rfl
        have d4 := FC.out wr HW.out 4 _ rfl
        have d5 := FC.out wr HW.out 5 _ rfl
        clear elf h100 hyo
        obtain ⟨yr, ya, yl, yh, yf, ys⟩ := y
        simp only [Nat.add_zero] at d0
        go_wp2_with fail
        refine CL.out.mono ?_
        rintro e w2 ⟨rfl, hb2⟩
        have HW2 := Lib.hid (HW.out.trans (hb2.mono HW.out.size))
        have HB2 := Lib.hid (HBR.out.trans (hb2.mono HBR.out.size))
        have HROW2 := Lib.hid (row_below HROW.out hb2)
        clear hb2 CL d0 d1 d2 d3 d4 d5 HROW
        obtain ⟨i0, hi0, hz0, hz1, hz2⟩ := info_parts infoStr
        have HI := Lib.hid hi0
        have HZ0 := Lib.hid hz0
        have HZ1 := Lib.hid hz1
        have HZ2 := Lib.hid hz2
        clear hi0 hz0 hz1 hz2
        go_wp2_with (at_builtin; refine wpList_append_list (ec := encS) rfl (.tmp 73) (.tmp 80) 23 rfl w1.heap.size 9 i0 _ 16 Tryd.underlying23 HI.out HZ0.out HZ1.out HZ2.out rfl (by decide) encS_len encS_one _ _ _ rfl (row_below HROW2.out ((Below.refl _ _).alloc (Nat.le_refl _) _)) (some ⟨w2.heap.size, 0, none⟩) 1 [lf] rfl (sl_new (l := [lf]) (new_at rfl)) (by have : maxLen = 9223372036854775807 := rfl; simp only [List.length_cons, List.length_nil]; omega) (by simp only [List.length_cons, List.length_nil]; omega) (by have := HB2.out.size; simp; omega) ?_)
        intro v5 w5 hown5 hg5 _
        have hb5 : Below w1.heap.size w1 w5 := (HB2.out.alloc HB2.out.size _).grown hg5 (by have := HB2.out.size; simp; omega) (fun j e => (HROW2.out.lt j e).1)
        have d4 := FC.out w5 (L1.out.trans (hb5.mono L1.out.size)) 4 _ rfl
        have KEY : Hid (RLs w1 l salts v5 (.int .i64 (max mx yf)) (.int .i64 ((k : Int) + 1)) w5) := ⟨k + 1, by omega, by go_num, by rw [NM.out], by rw [NX.out, List.map_append]; exact hown5, fun j hj => by
          by_cases e : j = k
          · subst e; rw [← EST.out]; have := H100.out; omega
          · exact HSZ.out j (by omega), hb5⟩
        clear hown5 hg5 hb5 HROW2 HW2 HB2
        go_wp2_with fail
        refine ⟨KEY.out, ?_⟩
        simp [intOf]; omega
    · obtain rfl : k = l.length := by omega
      rw [List.take_length] at hrow ⊢
      have HSZ := Lib.hid hsz
      have L2 := Lib.hid (L1.out.trans (hbr.mono L1.out.size))
      have HV2 := Lib.hid (HV1.out.trans (hbr.mono HV1.out.size))
      obtain ⟨Ar, cr, rfl, hcr, hsl2⟩ := row_slS hrow
      have HLV := Lib.hid hsl2
      have LVL := Lib.hid (leavesA_len l salts)
      have LVS := Lib.hid (leavesA_short l salts)
      have LVM := Lib.hid (leavesA_med l salts)
      have LV64 := Lib.hid (leavesA_64 l salts)
      have HCK : Hid (∀ (k : Nat) (x : Fac), l[k]? = some x → checkD (rootOf (leavesA l salts)) (l.length : Int) (k : Int) x (saltA salts k) (pathL (leavesA l salts) k) = true) := fun k x hx => check_leaf (by omega) hx
      have HFD : Hid (∀ (I : Nat) (y : Fac) (s : ByteArray), l[I]? = some y → x ≠ y → s = saltA salts I → checkD (rootOf (leavesA l salts)) (l.length : Int) (I : Int) x s p = true → ∃ (j : Nat) (a b : ByteArray), (txtD (leafT x s) (sidesL I l.length) p.reverse)[j]? = some a ∧ (txtD (leafT y s) (sidesL I l.length) (pathL (leavesA l salts) I).reverse)[j]? = some b ∧ clashB a b = true) := fun I y s hI hne hs hck => by
        subst hs
        exact clash_found HX.out (HO.out y (List.mem_of_getElem? hI)) (by omega) hI (fun e => hne e.1) hck
      obtain ⟨lv, elv⟩ : ∃ lv, lv = leavesA l salts := ⟨_, rfl⟩
      rw [← elv] at HLV LVL LVS LVM LV64 HCK HFD
      have hlt0 : 0 < l.length := by have := H0.out; omega
      have HRT : Hid ((rootL lv).size = 64) := root_64 LV64.out (by rw [LVL.out]; exact hlt0) (by rw [LVL.out]; omega)
      have HRO : Hid (rootOf lv = rootL lv) := rootOf_ne (by rw [LVL.out]; exact hlt0)
      rw [HRO.out] at HCK HFD
      have HAPP : Hid (∀ out, sealGo secret l [] = some out → out.length = l.length ∧ isSec secret ∧ appE out 0 secret (maxF l) (rootL lv) = 0) := fun out ho => shown_app ho (fun e => by rw [e] at hlt0; simp at hlt0) (by omega) (by have := HRT.out; omega)
      obtain ⟨mx, emx⟩ : ∃ mx, mx = maxF l := ⟨_, rfl⟩
      have HMX : Hid (0 ≤ mx ∧ ∃ y ∈ l ++ [⟨0, 0, 0, 0, 0, false⟩], mx = y.filed) := by rw [emx]; exact ⟨(maxF_spec l).1, maxF_mem l⟩
      have HAPP2 := Lib.hid (HAPP.out)
      rw [← emx] at HAPP2 ⊢
      have HST2 : Hid (RPs p (.int .i64 0)) := ⟨0, Nat.zero_le _, rfl, fun j _ h => absurd h (Nat.not_lt_zero _)⟩
      have CR : Hid (∀ w', Below wr.heap.size wr w' → Calls Tryd.prog 16 #[.slice Ar l.length cr] w' fun e w2 => e = .returned (.string (rootL lv)) ∧ Below w'.heap.size w' w2) := fun w' hb => by
        have := root_any lv Ar cr w' (by rw [LVL.out]; exact hcr) (by rw [LVL.out]; omega) (HLV.out.below hb (Nat.le_refl _)) LVS.out (HT.out.below (L2.out.trans (hb.mono L2.out.size)) (Nat.le_refl _))
        rw [LVL.out] at this
        rw [← HRO.out]; exact this
      have CSL := Lib.hid (seal_any A c l secret wr (HS.out.below L2.out (Nat.le_refl _)) (by omega) HO.out (HT.out.below L2.out (Nat.le_refl _)))
      have HCR := Lib.hid hcr
      clear hrow hsz hbr hcr hsl2 elv emx HAPP L1 HV1
      go_wp2_with fail
      go_loop [18] (fun i => RPs p i) (fun i => p.length - (intOf i).toNat)
      case atStart => exact HST2.out
      case round =>
        clear HST2
        obtain ⟨k, hk, rfl, hall⟩ := hrel
        by_cases hlt : k < p.length
        · obtain ⟨t, ht⟩ : ∃ t, p[k]? = some t := ⟨_, List.getElem?_eq_getElem hlt⟩
          obtain ⟨b, off, rfl, hc⟩ := (HSP.out.below L2.out (Nat.le_refl _)).at_ ht
          have c3 := hc 0 _ rfl
          simp only [Nat.mul_one, Nat.add_zero] at c3
          have hki : (k : Int) < (p.length : Int) := by omega
          have k00 : (0 : Int) ≤ (k : Int) := by omega
          have HALL := Lib.hid hall
          have HTT := Lib.hid ht
          clear hall ht hc
          by_cases h100 : 100 < t.size
          · have q5 : (100 : Int) < (t.size : Int) := by omega
            clear h100
            go_wp2_with fail
            exact FIN.out _ L2.out
          · have q5 : ¬ (100 : Int) < (t.size : Int) := by omega
            have H100 := Lib.hid h100
            clear h100
            go_wp2_with fail
            go_round
            case rel => exact ⟨k + 1, by omega, by go_num, fun j u hj hu => by
              by_cases e : j = k
              · subst e; rw [HTT.out] at hu; cases hu; have := H100.out; omega
              · exact HALL.out j u (by omega) hu⟩
            case measure => simp [intOf]; omega
        · obtain rfl : k = p.length := by omega
          have HPM : Hid (∀ t ∈ p, t.size ≤ 100) := fun t ht => by
            obtain ⟨j, hj⟩ := List.mem_iff_getElem?.1 ht
            exact hall j t (List.getElem?_eq_some_iff.1 hj).1 hj
          clear hall
          go_wp2_with fail
          refine CSL.out.mono ?_
          rintro e w3 ⟨bl3, ⟨hn, rfl⟩ | ⟨out, A3, c3, hsome, hc3, rfl, sl3⟩⟩
          · have L3 := Lib.hid (L2.out.trans (bl3.mono L2.out.size))
            clear bl3 hn CSL
            go_wp2_with (go_at_call 14; refine (pub_any _ _).mono ?_; rintro e w' ⟨rfl, rfl⟩)
            exact FIN.out _ L3.out
          obtain ⟨hol, hsec, happ⟩ := HAPP2.out out hsome
          have HFEW := Lib.hid (seal_few secret l [] out hsome few_nil HO.out (by simp; omega))
          have L3 := Lib.hid (L2.out.trans (bl3.mono L2.out.size))
          have HB3 := Lib.hid bl3
          have pe : pubE secret = 0 := by unfold pubE; rw [if_pos hsec]
          obtain ⟨pub, epub⟩ : ∃ pub, pub = pubV secret := ⟨_, rfl⟩
          have CP : Hid (∀ w, Calls Tryd.prog 14 #[.int .i64 secret] w fun e w' => e = .returned (.tuple #[.int .i64 pub, .int .i64 0]) ∧ w = w') := fun w => by
            have := pub_any secret w
            rw [pe, ← epub] at this; exact this
          have hmb : -9223372036854775808 ≤ mx ∧ mx ≤ 9223372036854775807 := by
            obtain ⟨h1, y, hy, e⟩ := HMX.out
            rcases List.mem_append.1 hy with hy | hy
            · have := (HO.out y hy).f0; have := (HO.out y hy).f1; omega
            · have : y = ⟨0, 0, 0, 0, 0, false⟩ := by simpa using hy
              subst this
              simp at e; omega
          have CAP : Hid (∀ w', Below w3.heap.size w3 w' → Calls Tryd.prog 15 #[.slice A3 l.length c3, .int .i64 0, .int .i64 secret, .int .i64 mx, .string (rootL lv)] w' fun e w2 => (∃ b, e = .returned (.tuple #[.slice (some ⟨b, 0, none⟩) (l.length + 1) (l.length + 1), .int .i64 0]) ∧ SL w2 7 encE (some ⟨b, 0, none⟩) (out ++ [appN out 0 secret mx (rootL lv)])) ∧ Below w'.heap.size w' w2) := fun w' hb => by
            have := app_yes A3 c3 out 0 secret mx (rootL lv) w' (sl3.below hb (Nat.le_refl _)) (by omega) hc3 HFEW.out (by decide) (by decide) hmb.1 hmb.2 (by have := HRT.out; omega) (HT.out.below (L3.out.trans (hb.mono L3.out.size)) (Nat.le_refl _)) happ
            rw [hol] at this
            refine this.mono ?_
            rintro e w2 ⟨b, _, h1, h2, h3⟩
            exact ⟨⟨b, h1, h2⟩, h3⟩
          have hsgl : (out ++ [appN out 0 secret mx (rootL lv)]).length = l.length + 1 := by rw [List.length_append, hol]; rfl
          have hsga : (out ++ [appN out 0 secret mx (rootL lv)])[l.length]? = some (appN out 0 secret mx (rootL lv)) := by rw [← hol]; simp
          have hsgb : (appN out 0 secret mx (rootL lv)).body = rootL lv := rfl
          have hsgc : (chk (out ++ [appN out 0 secret mx (rootL lv)]) 0 pub).1 = 0 := by rw [epub]; exact app_chk happ
          have hsgf : Few (out ++ [appN out 0 secret mx (rootL lv)]) := few_app HFEW.out (by omega) (by decide) (by decide) hmb.1 hmb.2 (by have := HRT.out; omega)
          obtain ⟨ne, ene⟩ : ∃ ne, ne = appN out 0 secret mx (rootL lv) := ⟨_, rfl⟩
          rw [← ene] at CAP hsgl hsga hsgb hsgc hsgf
          obtain ⟨sg, esg⟩ : ∃ sg, sg = out ++ [ne] := ⟨_, rfl⟩
          rw [← esg] at CAP hsgl hsga hsgc hsgf
          obtain ⟨rt, ert⟩ : ∃ rt, rt = rootL lv := ⟨_, rfl⟩
          rw [← ert] at CR CAP hsgb HCK HFD HRT
          have CCH : Hid (∀ w' b, Below w3.heap.size w3 w' → SL w' 7 encE (some ⟨b, 0, none⟩) sg → Calls Tryd.prog 17 #[.slice (some ⟨b, 0, none⟩) (l.length + 1) (l.length + 1), .int .i64 0, .int .i64 pub] w' fun e w2 => (∃ at_, e = .returned (.tuple #[.int .i64 0, .int .i64 at_])) ∧ Below w'.heap.size w' w2) := fun w' b hb hs => by
            have := check_any (some ⟨b, 0, none⟩) (l.length + 1) sg 0 pub w' hs (by omega) (by omega) hsgf (HT.out.below (L3.out.trans (hb.mono L3.out.size)) (Nat.le_refl _))
            rw [hsgl] at this
            refine this.mono ?_
            rintro e w2 ⟨h1, h2⟩
            rw [hsgc] at h1
            exact ⟨⟨_, h1⟩, h2⟩
          have HSA := Lib.hid hsga
          have HSB := Lib.hid hsgb
          have ql : ((l.length : Int) + 1 != (l.length : Int) + 1) = false := by simp
          rw [hol]
          clear hol hsec happ bl3 pe epub hmb hsgl hsga hsgb hsgc hsgf ene esg ert hsome hc3 sl3 HFEW HAPP2 HMX CSL HRO
          go_wp2_with (go_at_call 14; refine (CP.out _).mono ?_; rintro e w' ⟨rfl, rfl⟩)
          refine (CR.out _ HB3.out).mono ?_
          rintro e w4 ⟨rfl, hb4⟩
          have HB4 := Lib.hid (HB3.out.trans (hb4.mono HB3.out.size))
          have HC4 := Lib.hid (CAP.out w4 hb4)
          have hb34 := hb4
          clear hb4 CR CAP
          go_wp2_with fail
          refine HC4.out.mono ?_
          rintro e w5 ⟨⟨bsg, rfl, hsg⟩, hb5⟩
          have HB5 := Lib.hid (HB4.out.trans (hb5.mono HB4.out.size))
          have HC5 := Lib.hid (CCH.out w5 bsg (hb34.trans (hb5.mono hb34.size)) hsg)
          have HSG := Lib.hid hsg
          clear hb5 hsg hb34 HC4 CCH
          go_wp2_with fail
          refine HC5.out.mono ?_
          rintro e w6 ⟨⟨at_, rfl⟩, hb6⟩
          have HB6 := Lib.hid (HB5.out.trans (hb6.mono HB5.out.size))
          obtain ⟨b', o', e1, hce⟩ := (HSG.out.below hb6 (Nat.le_refl _)).at_ HSA.out
          cases e1
          have cbd : w6.cell? ⟨bsg, l.length * 7 + 4, none⟩ = some (.string rt) := by
            have h4 := hce 4 (.string ne.body) rfl
            rw [Nat.zero_add, HSB.out] at h4; exact h4
          have L6 := Lib.hid (L2.out.trans (HB6.out.mono L2.out.size))
          have HVV := Lib.hid (HV2.out.trans (HB6.out.mono HV2.out.size))
          have HLV6 := Lib.hid (HLV.out.below HB6.out (Nat.le_refl _))
          have nl1 : (l.length : Int) < (l.length : Int) + 1 := by omega
          have nl0 : (0 : Int) ≤ (l.length : Int) := by omega
          have nl2 : l.length < l.length + 1 := by omega
          clear hb6 hce HC5 HSG HSA HSB HB3 HB4 HB5 HB6 L3 L2 HV2 HLV
          obtain ⟨I, eI⟩ : ∃ I, I = rn % l.length := ⟨_, rfl⟩
          have hI : I < l.length := by rw [eI]; exact Nat.mod_lt _ (by omega)
          have hm : (rn : Int) % (l.length : Int) = (I : Int) := by rw [eI]; omega
          have hm2 : ((rn : Int).tmod (l.length : Int)) = (I : Int) := by rw [Int.tmod_eq_emod_of_nonneg (by omega)]; exact hm
          clear eI
          obtain ⟨y, hy⟩ : ∃ y, l[I]? = some y := ⟨_, List.getElem?_eq_getElem hI⟩
          have hyo := HO.out y (List.mem_of_getElem? hy)
          obtain ⟨ba, oa, rfl⟩ : ∃ b off, A = some ⟨b, off, none⟩ := by obtain ⟨b, off, e, _⟩ := HS.out.at_ hy; exact ⟨b, off, e⟩
          have FC : Hid (∀ w', Below w.heap.size w w' → ∀ p u, (encF y)[p]? = some u → w'.cell? ⟨ba, oa + I * 6 + p, none⟩ = some u) := fun w' hb => by
            obtain ⟨b', off', e1, hc⟩ := (HS.out.below hb (Nat.le_refl _)).at_ hy
            cases e1
            intro p u hu
            have := hc p u hu
            rw [← Nat.add_assoc] at this; exact this
          have HFD2 : Hid (∀ s, x ≠ y → s = saltA salts I → checkD rt (l.length : Int) (I : Int) x s p = true → ∃ (j : Nat) (a b : ByteArray), (txtD (leafT x s) (sidesL I l.length) p.reverse)[j]? = some a ∧ (txtD (leafT y s) (sidesL I l.length) (pathL lv I).reverse)[j]? = some b ∧ clashB a b = true) := fun s => HFD.out I y s hy
          have hck := HCK.out I y hy
          have hsz := HSZ.out I hI
          have hpal := path_len lv I
          rw [LVL.out] at hpal
          have hlev := lev_len l.length I
          have hpas : Med (pathL lv I) := path_med lv I LVM.out (by rw [LVL.out]; omega)
          have CPR : Hid (∀ R : Ending → World → Prop, (∀ w' A2 c2, Below w6.heap.size w6 w' → (pathL lv I).length ≤ c2 → SL w' 1 encS A2 (pathL lv I) → R (.returned (.tuple #[.slice A2 (pathL lv I).length c2, .int .i64 0])) w') → Calls Tryd.prog 18 #[.slice Ar l.length cr, .int .i64 (I : Int)] w6 R) := fun R hR => by
            have := prove_in lv Ar cr I w6 R (by rw [LVL.out]; exact hI) (by rw [LVL.out]; exact HCR.out) (by rw [LVL.out]; omega) HLV6.out LVS.out (HT.out.below L6.out (Nat.le_refl _)) (fun w' A2 c2 a1 a2 a3 => hR w' A2 c2 a1 a2 a3)
            rw [LVL.out] at this
            exact this
          obtain ⟨pa, epa⟩ : ∃ pa, pa = pathL lv I := ⟨_, rfl⟩
          rw [← epa] at HFD2 hck hpal hpas CPR
          have ki1 : (I : Int) < (l.length : Int) := by omega
          have k00 : (0 : Int) ≤ (I : Int) := by omega
          have HY := Lib.hid hy
          clear epa HFD HCK HSZ hy
          by_cases hks : I < salts.length
          · obtain ⟨st, ht⟩ : ∃ t, salts[I]? = some t := ⟨_, List.getElem?_eq_getElem hks⟩
            have est : saltA salts I = st := by unfold saltA; rw [ht]; rfl
            obtain ⟨bs, os, rfl, hcs⟩ := (HSS.out.below L6.out (Nat.le_refl _)).at_ ht
            have c3 := hcs 0 _ rfl
            simp only [Nat.mul_one, Nat.add_zero] at c3
            have ks1 : (I : Int) < (salts.length : Int) := by omega
            rw [est] at hck hsz HFD2
            clear ht hcs est
            have CC : Hid (∀ w' A2 c2, Below w.heap.size w w' → SL w' 1 encS A2 pa → Calls Tryd.prog 19 #[.string rt, .int .i64 (l.length : Int), .int .i64 (I : Int), .agg (encF y).toArray, .string st, .slice A2 pa.length c2] w' fun e w2 => e = .returned (.bool true) ∧ Below w'.heap.size w' w2) := fun w' A2 c2 hb hs => by
              have := check_dis rt (l.length : Int) (I : Int) y st pa A2 c2 w' hyo (by omega) (by omega) hs (fun t ht => by have := hpas t ht; omega) (HT.out.below hb (Nat.le_refl _))
              rw [hck] at this
              exact this
            have CD : Hid (∀ w', Below w.heap.size w w' → Calls Tryd.prog 19 #[.string rt, .int .i64 (l.length : Int), .int .i64 (I : Int), .agg (encF x).toArray, .string st, .slice D p.length f] w' fun e w2 => e = .returned (.bool (checkD rt (l.length : Int) (I : Int) x st p)) ∧ Below w'.heap.size w' w2) := fun w' hb =>
              check_dis rt (l.length : Int) (I : Int) x st p D f w' HX.out (by omega) (by omega) (HSP.out.below hb (Nat.le_refl _)) (fun t ht => by have := HPM.out t ht; omega) (HT.out.below hb (Nat.le_refl _))
            obtain ⟨C, eC⟩ : ∃ C, C = checkD rt (l.length : Int) (I : Int) x st p := ⟨_, rfl⟩
            rw [← eC] at CD
            have EC := Lib.hid eC
            obtain ⟨E, eE⟩ : ∃ E, E = eqF x y := ⟨_, rfl⟩
            have HEQ : Hid (eqF x y = E) := eE.symm
            have HPL : Hid (C = true → p.length = (lev I l.length).length) := fun h => by
              have h1 := EC.out
              rw [h] at h1
              have h1 := h1.symm
              unfold checkD at h1
              rw [Int.toNat_natCast, Int.toNat_natCast, Bool.and_eq_true, Bool.and_eq_true, decide_eq_true_eq, decide_eq_true_eq] at h1
              exact h1.2.1
            have HWX : Hid (C = true → ∀ w', Below w.heap.size w w' → Calls Tryd.prog 20 #[.agg (encF x).toArray, .string st, .int .i64 (I : Int), .int .i64 (l.length : Int), .slice D p.length f] w' (TxPost x st I l.length p w')) := fun h w' hb =>
              way_any x st HX.out (by omega) l.length I p D f w' (by omega) (by omega) hI (HPL.out h) hpc (by omega) (HSP.out.below hb (Nat.le_refl _)) (fun t ht => by have := HPM.out t ht; omega)
            have HWY : Hid (∀ w' A2 c2, pa.length ≤ c2 → SL w' 1 encS A2 pa → Calls Tryd.prog 20 #[.agg (encF y).toArray, .string st, .int .i64 (I : Int), .int .i64 (l.length : Int), .slice A2 pa.length c2] w' (TxPost y st I l.length pa w')) := fun w' A2 c2 hc hs =>
              way_any y st hyo (by omega) l.length I pa A2 c2 w' (by omega) (by omega) hI hpal hc (by omega) hs hpas
            have HT1 : Hid (Short (txtD (leafT x st) (sidesL I l.length) p.reverse)) := txtD_short _ (leafT_size _ st HX.out (by omega)) _ _ (fun t ht => by have := HPM.out t (List.mem_reverse.1 ht); omega)
            have HT2 : Hid (Short (txtD (leafT y st) (sidesL I l.length) pa.reverse)) := txtD_short _ (leafT_size _ st hyo (by omega)) _ _ (fun t ht => hpas t (List.mem_reverse.1 ht))
            have HLA : Hid (C = true → (txtD (leafT x st) (sidesL I l.length) p.reverse).length = p.length + 1) := fun h => by rw [txtD_len _ _ _ (by rw [sides_len, List.length_reverse]; exact (HPL.out h).symm), sides_len, HPL.out h]
            have HLB : Hid ((txtD (leafT y st) (sidesL I l.length) pa.reverse).length = pa.length + 1) := by show _ = _; rw [txtD_len _ _ _ (by rw [sides_len, List.length_reverse, hpal]), sides_len, hpal]
            have HPP : Hid (C = true → p.length = pa.length) := fun h => (HPL.out h).trans hpal.symm
            have HFD3 : Hid (E = false → C = true → ∃ (j : Nat) (a b : ByteArray), (txtD (leafT x st) (sidesL I l.length) p.reverse)[j]? = some a ∧ (txtD (leafT y st) (sidesL I l.length) pa.reverse)[j]? = some b ∧ clashB a b = true) := fun he h => HFD2.out st (fun e => by have := (eqF_iff x y).2 e; rw [HEQ.out, he] at this; cases this) rfl (EC.out.symm.trans h)
            unfold TxPost at HWX HWY
            obtain ⟨ta, eta⟩ : ∃ ta, ta = txtD (leafT x st) (sidesL I l.length) p.reverse := ⟨_, rfl⟩
            obtain ⟨tb, etb⟩ : ∃ tb, tb = txtD (leafT y st) (sidesL I l.length) pa.reverse := ⟨_, rfl⟩
            rw [← eta] at HWX HT1 HLA HFD3
            rw [← etb] at HWY HT2 HLB HFD3
            have HPA8 : Hid (pa.length ≤ 8) := by show _ ≤ _; omega
            clear eC eE HPL HFD2 eta etb hck hsz hpal hlev hpas hyo EC
            go_wp2_with fail
            refine CPR.out _ ?_
            intro w7 A2 c2 hb7 hc2 hs7
            have L7 := Lib.hid (L6.out.trans (hb7.mono L6.out.size))
            have HV7 := Lib.hid (HVV.out.trans (hb7.mono HVV.out.size))
            have HS7 := Lib.hid hs7
            have d0 := FC.out w7 L7.out 0 _ rfl
            have d1 := FC.out w7 L7.out 1 _ rfl
            have d2 := FC.out w7 L7.out 2 _ rfl
            have d3 := FC.out w7 L7.out 3 _ rfl
            have d4 := FC.out w7 L7.out 4 _ rfl
            have d5 := FC.out w7 L7.out 5 _ rfl
            simp only [Nat.add_zero] at d0
            have CC7 := Lib.hid (CC.out w7 A2 c2 L7.out hs7)
            have EY : Hid (encF y = [.int .i64 y.ref, .int .i64 y.act, .int .i64 y.low, .int .i64 y.high, .int .i64 y.filed, .bool y.secret]) := rfl
            clear hb7 hs7 CPR CC cbd hm hm2
            go_wp2_with fail
            refine CC7.out.mono ?_
            rintro e w8 ⟨rfl, hb8⟩
            have L8 := Lib.hid (L7.out.trans (hb8.mono L7.out.size))
            have HV8 := Lib.hid (HV7.out.trans (hb8.mono HV7.out.size))
            have HS8 := Lib.hid (HS7.out.below hb8 (Nat.le_refl _))
            clear hb8 CC7 d0 d1 d2 d3 d4 d5
            go_wp2_with fail
            refine Free.wp_region_free 17 [(14, .det (.bool C))] (fun w2 => Below w8.heap.size w8 w2) (by kernel_rfl) (by kernel_rfl) (Free.mono_det (fun j mk r hf => by simp only [Free.find] at hf; repeat' (first | cases hf | split at hf))) (Below.refl _ _).drew (fun _ _ h g => h.trans (Below.mono g h.size)) ?_
            simp only [List.take_succ_cons, List.take_zero]
            apply Free.chain_still (by first | exact Free.wanted_of rfl rfl rfl | rfl) rfl
            · intro w' hB hA
              exact exec_fac (x := x) rfl rfl (BV.out w' (HV8.out.trans (hB.mono HV8.out.size)))
            simp only [Act.put, List.setIfInBounds_toArray, List.set_cons_succ, List.set_cons_zero]
            iterate 3 (apply Free.chain_still (by first | exact Free.wanted_of rfl rfl rfl | rfl) rfl; (intro w' hB hA; obtain qB := hB; clear hA  ; go_light; go_simp <;> rfl); (try simp only [Act.put, List.setIfInBounds_toArray, List.set_cons_succ, List.set_cons_zero]))
            apply Free.chain_still (by first | exact Free.wanted_of rfl rfl rfl | rfl) rfl
            · intro w' hB hA
              exact exec_fac (x := y) rfl rfl (FC.out w' (L8.out.trans (hB.mono L8.out.size)))
            simp only [Act.put, List.setIfInBounds_toArray, List.set_cons_succ, List.set_cons_zero]
            apply Free.chain_still (by first | exact Free.wanted_of rfl rfl rfl | rfl) rfl
            · intro w' hB hA
              exact exec_eqlF (x := x) (y := y) rfl rfl rfl HEQ.out
            simp only [Act.put, List.setIfInBounds_toArray, List.set_cons_succ, List.set_cons_zero]
            iterate 1 (apply Free.chain_still (by first | exact Free.wanted_of rfl rfl rfl | rfl) rfl; (intro w' hB hA; obtain qB := hB; clear hA  ; go_light; go_simp <;> rfl); (try simp only [Act.put, List.setIfInBounds_toArray, List.set_cons_succ, List.set_cons_zero]))
            cases E with
            | true =>
              iterate 9 (apply Free.chain_skip (by exact unwanted2 rfl rfl rfl rfl); simp only [Act.put, List.setIfInBounds_toArray, List.set_cons_succ, List.set_cons_zero])
              iterate 1 (apply Free.chain_still (by first | exact Free.wanted_of rfl rfl rfl | rfl) rfl; (intro w' hB hA; obtain qB := hB; clear hA  ; go_light; go_simp <;> rfl); (try simp only [Act.put, List.setIfInBounds_toArray, List.set_cons_succ, List.set_cons_zero]))
              apply Free.chain_nil
              intro w9 hBz _ _
              simp only [List.drop_succ_cons, List.drop_zero]
              have L9 := Lib.hid (L8.out.trans (hBz.mono L8.out.size))
              clear hBz HEQ
              go_wp2_with fail
              exact FIN.out _ L9.out
            | false =>
            iterate 4 (apply Free.chain_still (by first | exact Free.wanted_of rfl rfl rfl | rfl) rfl; (intro w' hB hA; obtain qB := hB; clear hA  ; go_light; go_simp <;> rfl); (try simp only [Act.put, List.setIfInBounds_toArray, List.set_cons_succ, List.set_cons_zero]))
            apply Free.chain_still (by first | exact Free.wanted_of rfl rfl rfl | rfl) rfl
            · intro w' hB hA
              exact exec_fac (x := x) rfl rfl (BV.out w' (HV8.out.trans (hB.mono HV8.out.size)))
            simp only [Act.put, List.setIfInBounds_toArray, List.set_cons_succ, List.set_cons_zero]
            iterate 2 (apply Free.chain_still (by first | exact Free.wanted_of rfl rfl rfl | rfl) rfl; (intro w' hB hA; obtain qB := hB; clear hA  ; go_light; go_simp <;> rfl); (try simp only [Act.put, List.setIfInBounds_toArray, List.set_cons_succ, List.set_cons_zero]))
            apply Free.chain_det (by first | exact Free.wanted_of rfl rfl rfl | rfl) rfl
            · intro w' hB hA
              refine Free.opRun_call (f := 19) (args := #[.string rt, .int .i64 (l.length : Int), .int .i64 (I : Int), .agg (encF x).toArray, .string st, .slice D p.length f]) (by clear hB hA; go_simp <;> rfl) ?_
              refine (CD.out w' (L8.out.trans (hB.mono L8.out.size))).mono ?_
              rintro e w3 ⟨rfl, hb3⟩
              exact ⟨_, rfl, hb3, rfl⟩
            simp only [Act.put, List.setIfInBounds_toArray, List.set_cons_succ, List.set_cons_zero]
            iterate 2 (apply Free.chain_still (by first | exact Free.wanted_of rfl rfl rfl | rfl) rfl; (intro w' hB hA; obtain qB := hB; clear hA  ; go_light; go_simp <;> rfl); (try simp only [Act.put, List.setIfInBounds_toArray, List.set_cons_succ, List.set_cons_zero]))
            apply Free.chain_nil
            intro w9 hBz _ _
            simp only [List.drop_succ_cons, List.drop_zero]
            have L9 := Lib.hid (L8.out.trans (hBz.mono L8.out.size))
            have HV9 := Lib.hid (HV8.out.trans (hBz.mono HV8.out.size))
            have HS9 := Lib.hid (HS8.out.below hBz (Nat.le_refl _))
            clear hBz HEQ CD
            cases C with
            | false =>
              go_wp2_with fail
              exact FIN.out _ L9.out
            | true =>
            have CX := Lib.hid (HWX.out rfl)
            have TLA := Lib.hid (HLA.out rfl)
            have hpp := HPP.out rfl
            have HF := Lib.hid (HFD3.out rfl rfl)
            have e0 := BV.out w9 HV9.out 0 _ rfl
            have e1 := BV.out w9 HV9.out 1 _ rfl
            have e2 := BV.out w9 HV9.out 2 _ rfl
            have e3 := BV.out w9 HV9.out 3 _ rfl
            have e4 := BV.out w9 HV9.out 4 _ rfl
            have e5 := BV.out w9 HV9.out 5 _ rfl
            simp only [Nat.add_zero, Nat.zero_add] at e0 e1 e2 e3 e4 e5
            obtain ⟨M, eM⟩ : ∃ M, M = p.length + 1 := ⟨_, rfl⟩
            have CY := Lib.hid (HWY.out)
            rw [← hpp] at HLB
            have hTA := TLA.out
            have hTB := HLB.out
            rw [← eM] at CX hTA hTB
            rw [← hpp, ← eM] at CY
            have TLAH := Lib.hid hTA
            have TLBH := Lib.hid hTB
            have hM9 : M ≤ 9 := by omega
            have HPPH := Lib.hid hpp
            rw [← hpp]
            clear HWX HWY HLA HLB HPP HFD3 TLA hTA hTB eM hpp
            go_wp2_with fail
            refine (CX.out w9 L9.out).mono ?_
            rintro e w10 ⟨⟨v10, rfl, hown10⟩, hb10⟩
            obtain ⟨A10, c10, rfl, hc10, hs10⟩ := row_slS hown10
            have L10 := Lib.hid (L9.out.trans (hb10.mono L9.out.size))
            have HA10 := Lib.hid hs10
            have HS10 := Lib.hid (HS9.out.below hb10 (Nat.le_refl _))
            clear hb10 hs10 hown10 hc10 e0 e1 e2 e3 e4 e5 CX
            have d0 := FC.out w10 L10.out 0 _ rfl
            have d1 := FC.out w10 L10.out 1 _ rfl
            have d2 := FC.out w10 L10.out 2 _ rfl
            have d3 := FC.out w10 L10.out 3 _ rfl
            have d4 := FC.out w10 L10.out 4 _ rfl
            have d5 := FC.out w10 L10.out 5 _ rfl
            simp only [Nat.add_zero] at d0
            have CY10 := Lib.hid (CY.out w10 A2 c2 (by have := HPPH.out; omega) HS10.out)
            go_wp2_with fail
            refine CY10.out.mono ?_
            rintro e w11 ⟨⟨v11, rfl, hown11⟩, hb11⟩
            obtain ⟨A11, c11, rfl, hc11, hs11⟩ := row_slS hown11
            have L11 := Lib.hid (L10.out.trans (hb11.mono L10.out.size))
            have SAX := Lib.hid (HA10.out.below hb11 (Nat.le_refl _))
            have SBX := Lib.hid hs11
            have HST3 : Hid (RCl w11 ta tb M (.int .i64 0) w11) := ⟨0, Nat.zero_le _, rfl, fun j _ _ h => absurd h (Nat.not_lt_zero _), Below.refl _ _⟩
            clear hb11 hs11 hown11 hc11 d0 d1 d2 d3 d4 d5 CY CY10 HA10 HS10 HS9 FC
            go_wp2_with fail
            go_loopw [34] (fun i wr => RCl w11 ta tb M i wr) (fun i _ => M - (intOf i).toNat)
            case atStart => exact HST3.out
            case round =>
              clear HST3
              obtain ⟨k, hk, rfl, hno, hbr⟩ := hrel
              by_cases hlt : k < M
              · obtain ⟨u, hu⟩ : ∃ u, ta[k]? = some u := ⟨_, List.getElem?_eq_getElem (by have := TLAH.out; omega)⟩
                obtain ⟨v, hv⟩ : ∃ v, tb[k]? = some v := ⟨_, List.getElem?_eq_getElem (by have := TLBH.out; omega)⟩
                obtain ⟨b1, o1, rfl, hcl1⟩ := (SAX.out.below hbr (Nat.le_refl _)).at_ hu
                obtain ⟨b2, o2, rfl, hcl2⟩ := (SBX.out.below hbr (Nat.le_refl _)).at_ hv
                have d1 := hcl1 0 _ rfl
                have d2 := hcl2 0 _ rfl
                simp only [Nat.mul_one, Nat.add_zero] at d1 d2
                have CU := Lib.hid (fun w => refsum_any u w (HT1.out u (List.mem_of_getElem? hu)))
                have CV := Lib.hid (fun w => refsum_any v w (HT2.out v (List.mem_of_getElem? hv)))
                have ki2 : (k : Int) < (M : Int) := by omega
                have k01 : (0 : Int) ≤ (k : Int) := by omega
                have HU := Lib.hid hu
                have HV := Lib.hid hv
                have HNO := Lib.hid hno
                have HBR := Lib.hid hbr
                obtain ⟨su, esu⟩ : ∃ su, su = sumB KC u := ⟨_, rfl⟩
                obtain ⟨sv, esv⟩ : ∃ sv, sv = sumB KC v := ⟨_, rfl⟩
                rw [← esu] at CU
                rw [← esv] at CV
                have ESU := Lib.hid esu
                have ESV := Lib.hid esv
                clear hu hv hcl1 hcl2 hno hbr esu esv
                go_wp2_with fail
                refine Free.wp_region_free 22 [(14, .det (.string su)), (19, .det (.string sv))] (fun y => Below wr.heap.size wr y ∧ y.cell? ⟨b1, o1 + k, none⟩ = some (.string u) ∧ y.cell? ⟨b2, o2 + k, none⟩ = some (.string v)) (by kernel_rfl) (by kernel_rfl) (Free.mono_det (fun j mk r hf => by simp only [Free.find] at hf; repeat' (first | cases hf | split at hf))) ⟨(Below.refl _ _).drew, d1, d2⟩ (fun _ _ h g => ⟨h.1.trans (Below.mono g h.1.size), cell_grow h.2.1 g, cell_grow h.2.2 g⟩) ?_
                simp only [List.take_succ_cons, List.take_zero]
                clear d1 d2
                iterate 9 (apply Free.chain_still (by first | exact Free.wanted_of rfl rfl rfl | rfl) rfl; (intro w' hB hA; obtain ⟨qB, r1, r2⟩ := hB; clear hA  qB; go_light; go_simp <;> rfl); (try simp only [Act.put, List.setIfInBounds_toArray, List.set_cons_succ, List.set_cons_zero]))
                by_cases huv : u = v
                · rw [show (!(u.toList == v.toList)) = false by rw [huv]; simp]
                  iterate 1 (apply Free.chain_still (by first | exact Free.wanted_of rfl rfl rfl | rfl) rfl; (intro w' hB hA; obtain ⟨qB, r1, r2⟩ := hB; clear hA  qB; go_light; go_simp <;> rfl); (try simp only [Act.put, List.setIfInBounds_toArray, List.set_cons_succ, List.set_cons_zero]))
                  iterate 11 (apply Free.chain_skip (by exact unwanted2 rfl rfl rfl rfl); simp only [Act.put, List.setIfInBounds_toArray, List.set_cons_succ, List.set_cons_zero])
                  iterate 1 (apply Free.chain_still (by first | exact Free.wanted_of rfl rfl rfl | rfl) rfl; (intro w' hB hA; obtain ⟨qB, r1, r2⟩ := hB; clear hA  qB; go_light; go_simp <;> rfl); (try simp only [Act.put, List.setIfInBounds_toArray, List.set_cons_succ, List.set_cons_zero]))
                  apply Free.chain_nil
                  intro wz hBz _ _
                  simp only [List.drop_succ_cons, List.drop_zero]
                  have hcl : clashB u v = false := by unfold clashB; simp [huv]
                  have KEY : Hid (RCl w11 ta tb M (.int .i64 ((k : Int) + 1)) wz) := ⟨k + 1, by omega, by go_num, fun j x y hj hx hy => by
                    by_cases e : j = k
                    · subst e
                      rw [HU.out] at hx
                      rw [HV.out] at hy
                      cases hx; cases hy; exact hcl
                    · exact HNO.out j x y (by omega) hx hy, HBR.out.trans (hBz.1.mono HBR.out.size)⟩
                  clear hBz hcl huv CU CV
                  go_wp2_with fail
                  refine ⟨KEY.out, ?_⟩
                  simp [intOf]; omega
                · have huv2 : (u.toList == v.toList) = false := by
                    cases hq : (u.toList == v.toList) with
                    | false => rfl
                    | true => exact absurd (tl_eq (by simpa using hq)) huv
                  rw [show (!(u.toList == v.toList)) = true by rw [huv2]; rfl]
                  have HUV := Lib.hid huv
                  clear huv huv2
                  iterate 5 (apply Free.chain_still (by first | exact Free.wanted_of rfl rfl rfl | rfl) rfl; (intro w' hB hA; obtain ⟨qB, r1, r2⟩ := hB; clear hA  qB; go_light; go_simp <;> rfl); (try simp only [Act.put, List.setIfInBounds_toArray, List.set_cons_succ, List.set_cons_zero]))
                  apply Free.chain_det (by first | exact Free.wanted_of rfl rfl rfl | rfl) rfl
                  · intro w' hB hA
                    refine Free.opRun_call (f := 21) (args := #[.string u]) (by clear hB hA; go_simp <;> rfl) ?_
                    refine (CU.out w').mono ?_
                    rintro e w3 ⟨rfl, hb3⟩
                    exact ⟨_, rfl, hb3, rfl⟩
                  simp only [Act.put, List.setIfInBounds_toArray, List.set_cons_succ, List.set_cons_zero]
                  iterate 4 (apply Free.chain_still (by first | exact Free.wanted_of rfl rfl rfl | rfl) rfl; (intro w' hB hA; obtain ⟨qB, r1, r2⟩ := hB; clear hA  qB; go_light; go_simp <;> rfl); (try simp only [Act.put, List.setIfInBounds_toArray, List.set_cons_succ, List.set_cons_zero]))
                  apply Free.chain_det (by first | exact Free.wanted_of rfl rfl rfl | rfl) rfl
                  · intro w' hB hA
                    refine Free.opRun_call (f := 21) (args := #[.string v]) (by clear hB hA; go_simp <;> rfl) ?_
                    refine (CV.out w').mono ?_
                    rintro e w3 ⟨rfl, hb3⟩
                    exact ⟨_, rfl, hb3, rfl⟩
                  simp only [Act.put, List.setIfInBounds_toArray, List.set_cons_succ, List.set_cons_zero]
                  iterate 2 (apply Free.chain_still (by first | exact Free.wanted_of rfl rfl rfl | rfl) rfl; (intro w' hB hA; obtain ⟨qB, r1, r2⟩ := hB; clear hA  qB; go_light; go_simp <;> rfl); (try simp only [Act.put, List.setIfInBounds_toArray, List.set_cons_succ, List.set_cons_zero]))
                  apply Free.chain_nil
                  intro wz hBz _ _
                  simp only [List.drop_succ_cons, List.drop_zero]
                  have LZ := Lib.hid (HBR.out.trans (hBz.1.mono HBR.out.size))
                  clear hBz CU CV
                  by_cases hs : su = sv
                  · rw [show (su.toList == sv.toList) = true by rw [hs]; simp]
                    have L := Lib.hid (L11.out.trans (LZ.out.mono L11.out.size))
                    clear hs
                    go_wp2_with fail
                    exact FIN.out _ L.out
                  · rw [show (su.toList == sv.toList) = false by
                      cases hq : (su.toList == sv.toList) with
                      | false => rfl
                      | true => exact absurd (tl_eq (by simpa using hq)) hs]
                    have hcl : clashB u v = false := by unfold clashB; rw [← ESU.out, ← ESV.out, decide_eq_false hs]; simp
                    have KEY : Hid (RCl w11 ta tb M (.int .i64 ((k : Int) + 1)) wz) := ⟨k + 1, by omega, by go_num, fun j x y hj hx hy => by
                      by_cases e : j = k
                      · subst e
                        rw [HU.out] at hx
                        rw [HV.out] at hy
                        cases hx; cases hy; exact hcl
                      · exact HNO.out j x y (by omega) hx hy, LZ.out⟩
                    clear hs hcl
                    go_wp2_with fail
                    refine ⟨KEY.out, ?_⟩
                    simp [intOf]; omega
              · exfalso
                obtain ⟨j, a, b, ha, hb, hc⟩ := HF.out
                have hj := (List.getElem?_eq_some_iff.1 ha).1
                have := hno j a b (by have := TLAH.out; omega) ha hb
                rw [this] at hc; cases hc
          · have est : saltA salts I = ⟨#[]⟩ := by unfold saltA; rw [List.getElem?_eq_none (by omega)]; rfl
            have ks1 : ¬ (I : Int) < (salts.length : Int) := by omega
            rw [est] at hck hsz HFD2
            clear est
            have CC : Hid (∀ w' A2 c2, Below w.heap.size w w' → SL w' 1 encS A2 pa → Calls Tryd.prog 19 #[.string rt, .int .i64 (l.length : Int), .int .i64 (I : Int), .agg (encF y).toArray, .string (⟨#[]⟩ : ByteArray), .slice A2 pa.length c2] w' fun e w2 => e = .returned (.bool true) ∧ Below w'.heap.size w' w2) := fun w' A2 c2 hb hs => by
              have := check_dis rt (l.length : Int) (I : Int) y (⟨#[]⟩ : ByteArray) pa A2 c2 w' hyo (by omega) (by omega) hs (fun t ht => by have := hpas t ht; omega) (HT.out.below hb (Nat.le_refl _))
              rw [hck] at this
              exact this
            have CD : Hid (∀ w', Below w.heap.size w w' → Calls Tryd.prog 19 #[.string rt, .int .i64 (l.length : Int), .int .i64 (I : Int), .agg (encF x).toArray, .string (⟨#[]⟩ : ByteArray), .slice D p.length f] w' fun e w2 => e = .returned (.bool (checkD rt (l.length : Int) (I : Int) x (⟨#[]⟩ : ByteArray) p)) ∧ Below w'.heap.size w' w2) := fun w' hb =>
              check_dis rt (l.length : Int) (I : Int) x (⟨#[]⟩ : ByteArray) p D f w' HX.out (by omega) (by omega) (HSP.out.below hb (Nat.le_refl _)) (fun t ht => by have := HPM.out t ht; omega) (HT.out.below hb (Nat.le_refl _))
            obtain ⟨C, eC⟩ : ∃ C, C = checkD rt (l.length : Int) (I : Int) x (⟨#[]⟩ : ByteArray) p := ⟨_, rfl⟩
            rw [← eC] at CD
            have EC := Lib.hid eC
            obtain ⟨E, eE⟩ : ∃ E, E = eqF x y := ⟨_, rfl⟩
            have HEQ : Hid (eqF x y = E) := eE.symm
            have HPL : Hid (C = true → p.length = (lev I l.length).length) := fun h => by
              have h1 := EC.out
              rw [h] at h1
              have h1 := h1.symm
              unfold checkD at h1
              rw [Int.toNat_natCast, Int.toNat_natCast, Bool.and_eq_true, Bool.and_eq_true, decide_eq_true_eq, decide_eq_true_eq] at h1
              exact h1.2.1
            have HWX : Hid (C = true → ∀ w', Below w.heap.size w w' → Calls Tryd.prog 20 #[.agg (encF x).toArray, .string (⟨#[]⟩ : ByteArray), .int .i64 (I : Int), .int .i64 (l.length : Int), .slice D p.length f] w' (TxPost x (⟨#[]⟩ : ByteArray) I l.length p w')) := fun h w' hb =>
              way_any x (⟨#[]⟩ : ByteArray) HX.out (by omega) l.length I p D f w' (by omega) (by omega) hI (HPL.out h) hpc (by omega) (HSP.out.below hb (Nat.le_refl _)) (fun t ht => by have := HPM.out t ht; omega)
            have HWY : Hid (∀ w' A2 c2, pa.length ≤ c2 → SL w' 1 encS A2 pa → Calls Tryd.prog 20 #[.agg (encF y).toArray, .string (⟨#[]⟩ : ByteArray), .int .i64 (I : Int), .int .i64 (l.length : Int), .slice A2 pa.length c2] w' (TxPost y (⟨#[]⟩ : ByteArray) I l.length pa w')) := fun w' A2 c2 hc hs =>
              way_any y (⟨#[]⟩ : ByteArray) hyo (by omega) l.length I pa A2 c2 w' (by omega) (by omega) hI hpal hc (by omega) hs hpas
            have HT1 : Hid (Short (txtD (leafT x (⟨#[]⟩ : ByteArray)) (sidesL I l.length) p.reverse)) := txtD_short _ (leafT_size _ (⟨#[]⟩ : ByteArray) HX.out (by omega)) _ _ (fun t ht => by have := HPM.out t (List.mem_reverse.1 ht); omega)
            have HT2 : Hid (Short (txtD (leafT y (⟨#[]⟩ : ByteArray)) (sidesL I l.length) pa.reverse)) := txtD_short _ (leafT_size _ (⟨#[]⟩ : ByteArray) hyo (by omega)) _ _ (fun t ht => hpas t (List.mem_reverse.1 ht))
            have HLA : Hid (C = true → (txtD (leafT x (⟨#[]⟩ : ByteArray)) (sidesL I l.length) p.reverse).length = p.length + 1) := fun h => by rw [txtD_len _ _ _ (by rw [sides_len, List.length_reverse]; exact (HPL.out h).symm), sides_len, HPL.out h]
            have HLB : Hid ((txtD (leafT y (⟨#[]⟩ : ByteArray)) (sidesL I l.length) pa.reverse).length = pa.length + 1) := by show _ = _; rw [txtD_len _ _ _ (by rw [sides_len, List.length_reverse, hpal]), sides_len, hpal]
            have HPP : Hid (C = true → p.length = pa.length) := fun h => (HPL.out h).trans hpal.symm
            have HFD3 : Hid (E = false → C = true → ∃ (j : Nat) (a b : ByteArray), (txtD (leafT x (⟨#[]⟩ : ByteArray)) (sidesL I l.length) p.reverse)[j]? = some a ∧ (txtD (leafT y (⟨#[]⟩ : ByteArray)) (sidesL I l.length) pa.reverse)[j]? = some b ∧ clashB a b = true) := fun he h => HFD2.out (⟨#[]⟩ : ByteArray) (fun e => by have := (eqF_iff x y).2 e; rw [HEQ.out, he] at this; cases this) rfl (EC.out.symm.trans h)
            unfold TxPost at HWX HWY
            obtain ⟨ta, eta⟩ : ∃ ta, ta = txtD (leafT x (⟨#[]⟩ : ByteArray)) (sidesL I l.length) p.reverse := ⟨_, rfl⟩
            obtain ⟨tb, etb⟩ : ∃ tb, tb = txtD (leafT y (⟨#[]⟩ : ByteArray)) (sidesL I l.length) pa.reverse := ⟨_, rfl⟩
            rw [← eta] at HWX HT1 HLA HFD3
            rw [← etb] at HWY HT2 HLB HFD3
            have HPA8 : Hid (pa.length ≤ 8) := by show _ ≤ _; omega
            clear eC eE HPL HFD2 eta etb hck hsz hpal hlev hpas hyo EC
            go_wp2_with fail
            refine CPR.out _ ?_
            intro w7 A2 c2 hb7 hc2 hs7
            have L7 := Lib.hid (L6.out.trans (hb7.mono L6.out.size))
            have HV7 := Lib.hid (HVV.out.trans (hb7.mono HVV.out.size))
            have HS7 := Lib.hid hs7
            have d0 := FC.out w7 L7.out 0 _ rfl
            have d1 := FC.out w7 L7.out 1 _ rfl
            have d2 := FC.out w7 L7.out 2 _ rfl
            have d3 := FC.out w7 L7.out 3 _ rfl
            have d4 := FC.out w7 L7.out 4 _ rfl
            have d5 := FC.out w7 L7.out 5 _ rfl
            simp only [Nat.add_zero] at d0
            have CC7 := Lib.hid (CC.out w7 A2 c2 L7.out hs7)
            have EY : Hid (encF y = [.int .i64 y.ref, .int .i64 y.act, .int .i64 y.low, .int .i64 y.high, .int .i64 y.filed, .bool y.secret]) := rfl
            clear hb7 hs7 CPR CC cbd hm hm2
            go_wp2_with fail
            refine CC7.out.mono ?_
            rintro e w8 ⟨rfl, hb8⟩
            have L8 := Lib.hid (L7.out.trans (hb8.mono L7.out.size))
            have HV8 := Lib.hid (HV7.out.trans (hb8.mono HV7.out.size))
            have HS8 := Lib.hid (HS7.out.below hb8 (Nat.le_refl _))
            clear hb8 CC7 d0 d1 d2 d3 d4 d5
            go_wp2_with fail
            refine Free.wp_region_free 17 [(14, .det (.bool C))] (fun w2 => Below w8.heap.size w8 w2) (by kernel_rfl) (by kernel_rfl) (Free.mono_det (fun j mk r hf => by simp only [Free.find] at hf; repeat' (first | cases hf | split at hf))) (Below.refl _ _).drew (fun _ _ h g => h.trans (Below.mono g h.size)) ?_
            simp only [List.take_succ_cons, List.take_zero]
            apply Free.chain_still (by first | exact Free.wanted_of rfl rfl rfl | rfl) rfl
            · intro w' hB hA
              exact exec_fac (x := x) rfl rfl (BV.out w' (HV8.out.trans (hB.mono HV8.out.size)))
            simp only [Act.put, List.setIfInBounds_toArray, List.set_cons_succ, List.set_cons_zero]
            iterate 3 (apply Free.chain_still (by first | exact Free.wanted_of rfl rfl rfl | rfl) rfl; (intro w' hB hA; obtain qB := hB; clear hA  ; go_light; go_simp <;> rfl); (try simp only [Act.put, List.setIfInBounds_toArray, List.set_cons_succ, List.set_cons_zero]))
            apply Free.chain_still (by first | exact Free.wanted_of rfl rfl rfl | rfl) rfl
            · intro w' hB hA
              exact exec_fac (x := y) rfl rfl (FC.out w' (L8.out.trans (hB.mono L8.out.size)))
            simp only [Act.put, List.setIfInBounds_toArray, List.set_cons_succ, List.set_cons_zero]
            apply Free.chain_still (by first | exact Free.wanted_of rfl rfl rfl | rfl) rfl
            · intro w' hB hA
              exact exec_eqlF (x := x) (y := y) rfl rfl rfl HEQ.out
            simp only [Act.put, List.setIfInBounds_toArray, List.set_cons_succ, List.set_cons_zero]
            iterate 1 (apply Free.chain_still (by first | exact Free.wanted_of rfl rfl rfl | rfl) rfl; (intro w' hB hA; obtain qB := hB; clear hA  ; go_light; go_simp <;> rfl); (try simp only [Act.put, List.setIfInBounds_toArray, List.set_cons_succ, List.set_cons_zero]))
            cases E with
            | true =>
              iterate 9 (apply Free.chain_skip (by exact unwanted2 rfl rfl rfl rfl); simp only [Act.put, List.setIfInBounds_toArray, List.set_cons_succ, List.set_cons_zero])
              iterate 1 (apply Free.chain_still (by first | exact Free.wanted_of rfl rfl rfl | rfl) rfl; (intro w' hB hA; obtain qB := hB; clear hA  ; go_light; go_simp <;> rfl); (try simp only [Act.put, List.setIfInBounds_toArray, List.set_cons_succ, List.set_cons_zero]))
              apply Free.chain_nil
              intro w9 hBz _ _
              simp only [List.drop_succ_cons, List.drop_zero]
              have L9 := Lib.hid (L8.out.trans (hBz.mono L8.out.size))
              clear hBz HEQ
              go_wp2_with fail
              exact FIN.out _ L9.out
            | false =>
            iterate 4 (apply Free.chain_still (by first | exact Free.wanted_of rfl rfl rfl | rfl) rfl; (intro w' hB hA; obtain qB := hB; clear hA  ; go_light; go_simp <;> rfl); (try simp only [Act.put, List.setIfInBounds_toArray, List.set_cons_succ, List.set_cons_zero]))
            apply Free.chain_still (by first | exact Free.wanted_of rfl rfl rfl | rfl) rfl
            · intro w' hB hA
              exact exec_fac (x := x) rfl rfl (BV.out w' (HV8.out.trans (hB.mono HV8.out.size)))
            simp only [Act.put, List.setIfInBounds_toArray, List.set_cons_succ, List.set_cons_zero]
            iterate 2 (apply Free.chain_still (by first | exact Free.wanted_of rfl rfl rfl | rfl) rfl; (intro w' hB hA; obtain qB := hB; clear hA  ; go_light; go_simp <;> rfl); (try simp only [Act.put, List.setIfInBounds_toArray, List.set_cons_succ, List.set_cons_zero]))
            apply Free.chain_det (by first | exact Free.wanted_of rfl rfl rfl | rfl) rfl
            · intro w' hB hA
              refine Free.opRun_call (f := 19) (args := #[.string rt, .int .i64 (l.length : Int), .int .i64 (I : Int), .agg (encF x).toArray, .string (⟨#[]⟩ : ByteArray), .slice D p.length f]) (by clear hB hA; go_simp <;> rfl) ?_
              refine (CD.out w' (L8.out.trans (hB.mono L8.out.size))).mono ?_
              rintro e w3 ⟨rfl, hb3⟩
              exact ⟨_, rfl, hb3, rfl⟩
            simp only [Act.put, List.setIfInBounds_toArray, List.set_cons_succ, List.set_cons_zero]
            iterate 2 (apply Free.chain_still (by first | exact Free.wanted_of rfl rfl rfl | rfl) rfl; (intro w' hB hA; obtain qB := hB; clear hA  ; go_light; go_simp <;> rfl); (try simp only [Act.put, List.setIfInBounds_toArray, List.set_cons_succ, List.set_cons_zero]))
            apply Free.chain_nil
            intro w9 hBz _ _
            simp only [List.drop_succ_cons, List.drop_zero]
            have L9 := Lib.hid (L8.out.trans (hBz.mono L8.out.size))
            have HV9 := Lib.hid (HV8.out.trans (hBz.mono HV8.out.size))
            have HS9 := Lib.hid (HS8.out.below hBz (Nat.le_refl _))
            clear hBz HEQ CD
            cases C with
            | false =>
              go_wp2_with fail
              exact FIN.out _ L9.out
            | true =>
            have CX := Lib.hid (HWX.out rfl)
            have TLA := Lib.hid (HLA.out rfl)
            have hpp := HPP.out rfl
            have HF := Lib.hid (HFD3.out rfl rfl)
            have e0 := BV.out w9 HV9.out 0 _ rfl
            have e1 := BV.out w9 HV9.out 1 _ rfl
            have e2 := BV.out w9 HV9.out 2 _ rfl
            have e3 := BV.out w9 HV9.out 3 _ rfl
            have e4 := BV.out w9 HV9.out 4 _ rfl
            have e5 := BV.out w9 HV9.out 5 _ rfl
            simp only [Nat.add_zero, Nat.zero_add] at e0 e1 e2 e3 e4 e5
            obtain ⟨M, eM⟩ : ∃ M, M = p.length + 1 := ⟨_, rfl⟩
            have CY := Lib.hid (HWY.out)
            rw [← hpp] at HLB
            have hTA := TLA.out
            have hTB := HLB.out
            rw [← eM] at CX hTA hTB
            rw [← hpp, ← eM] at CY
            have TLAH := Lib.hid hTA
            have TLBH := Lib.hid hTB
            have hM9 : M ≤ 9 := by omega
            have HPPH := Lib.hid hpp
            rw [← hpp]
            clear HWX HWY HLA HLB HPP HFD3 TLA hTA hTB eM hpp
            go_wp2_with fail
            refine (CX.out w9 L9.out).mono ?_
            rintro e w10 ⟨⟨v10, rfl, hown10⟩, hb10⟩
            obtain ⟨A10, c10, rfl, hc10, hs10⟩ := row_slS hown10
            have L10 := Lib.hid (L9.out.trans (hb10.mono L9.out.size))
            have HA10 := Lib.hid hs10
            have HS10 := Lib.hid (HS9.out.below hb10 (Nat.le_refl _))
            clear hb10 hs10 hown10 hc10 e0 e1 e2 e3 e4 e5 CX
            have d0 := FC.out w10 L10.out 0 _ rfl
            have d1 := FC.out w10 L10.out 1 _ rfl
            have d2 := FC.out w10 L10.out 2 _ rfl
            have d3 := FC.out w10 L10.out 3 _ rfl
            have d4 := FC.out w10 L10.out 4 _ rfl
            have d5 := FC.out w10 L10.out 5 _ rfl
            simp only [Nat.add_zero] at d0
            have CY10 := Lib.hid (CY.out w10 A2 c2 (by have := HPPH.out; omega) HS10.out)
            go_wp2_with fail
            refine CY10.out.mono ?_
            rintro e w11 ⟨⟨v11, rfl, hown11⟩, hb11⟩
            obtain ⟨A11, c11, rfl, hc11, hs11⟩ := row_slS hown11
            have L11 := Lib.hid (L10.out.trans (hb11.mono L10.out.size))
            have SAX := Lib.hid (HA10.out.below hb11 (Nat.le_refl _))
            have SBX := Lib.hid hs11
            have HST3 : Hid (RCl w11 ta tb M (.int .i64 0) w11) := ⟨0, Nat.zero_le _, rfl, fun j _ _ h => absurd h (Nat.not_lt_zero _), Below.refl _ _⟩
            clear hb11 hs11 hown11 hc11 d0 d1 d2 d3 d4 d5 CY CY10 HA10 HS10 HS9 FC
            go_wp2_with fail
            go_loopw [34] (fun i wr => RCl w11 ta tb M i wr) (fun i _ => M - (intOf i).toNat)
            case atStart => exact HST3.out
            case round =>
              clear HST3
              obtain ⟨k, hk, rfl, hno, hbr⟩ := hrel
              by_cases hlt : k < M
              · obtain ⟨u, hu⟩ : ∃ u, ta[k]? = some u := ⟨_, List.getElem?_eq_getElem (by have := TLAH.out; omega)⟩
                obtain ⟨v, hv⟩ : ∃ v, tb[k]? = some v := ⟨_, List.getElem?_eq_getElem (by have := TLBH.out; omega)⟩
                obtain ⟨b1, o1, rfl, hcl1⟩ := (SAX.out.below hbr (Nat.le_refl _)).at_ hu
                obtain ⟨b2, o2, rfl, hcl2⟩ := (SBX.out.below hbr (Nat.le_refl _)).at_ hv
                have d1 := hcl1 0 _ rfl
                have d2 := hcl2 0 _ rfl
                simp only [Nat.mul_one, Nat.add_zero] at d1 d2
                have CU := Lib.hid (fun w => refsum_any u w (HT1.out u (List.mem_of_getElem? hu)))
                have CV := Lib.hid (fun w => refsum_any v w (HT2.out v (List.mem_of_getElem? hv)))
                have ki2 : (k : Int) < (M : Int) := by omega
                have k01 : (0 : Int) ≤ (k : Int) := by omega
                have HU := Lib.hid hu
                have HV := Lib.hid hv
                have HNO := Lib.hid hno
                have HBR := Lib.hid hbr
                obtain ⟨su, esu⟩ : ∃ su, su = sumB KC u := ⟨_, rfl⟩
                obtain ⟨sv, esv⟩ : ∃ sv, sv = sumB KC v := ⟨_, rfl⟩
                rw [← esu] at CU
                rw [← esv] at CV
                have ESU := Lib.hid esu
                have ESV := Lib.hid esv
                clear hu hv hcl1 hcl2 hno hbr esu esv
                go_wp2_with fail
                refine Free.wp_region_free 22 [(14, .det (.string su)), (19, .det (.string sv))] (fun y => Below wr.heap.size wr y ∧ y.cell? ⟨b1, o1 + k, none⟩ = some (.string u) ∧ y.cell? ⟨b2, o2 + k, none⟩ = some (.string v)) (by kernel_rfl) (by kernel_rfl) (Free.mono_det (fun j mk r hf => by simp only [Free.find] at hf; repeat' (first | cases hf | split at hf))) ⟨(Below.refl _ _).drew, d1, d2⟩ (fun _ _ h g => ⟨h.1.trans (Below.mono g h.1.size), cell_grow h.2.1 g, cell_grow h.2.2 g⟩) ?_
                simp only [List.take_succ_cons, List.take_zero]
                clear d1 d2
                iterate 9 (apply Free.chain_still (by first | exact Free.wanted_of rfl rfl rfl | rfl) rfl; (intro w' hB hA; obtain ⟨qB, r1, r2⟩ := hB; clear hA  qB; go_light; go_simp <;> rfl); (try simp only [Act.put, List.setIfInBounds_toArray, List.set_cons_succ, List.set_cons_zero]))
                by_cases huv : u = v
                · rw [show (!(u.toList == v.toList)) = false by rw [huv]; simp]
                  iterate 1 (apply Free.chain_still (by first | exact Free.wanted_of rfl rfl rfl | rfl) rfl; (intro w' hB hA; obtain ⟨qB, r1, r2⟩ := hB; clear hA  qB; go_light; go_simp <;> rfl); (try simp only [Act.put, List.setIfInBounds_toArray, List.set_cons_succ, List.set_cons_zero]))
                  iterate 11 (apply Free.chain_skip (by exact unwanted2 rfl rfl rfl rfl); simp only [Act.put, List.setIfInBounds_toArray, List.set_cons_succ, List.set_cons_zero])
                  iterate 1 (apply Free.chain_still (by first | exact Free.wanted_of rfl rfl rfl | rfl) rfl; (intro w' hB hA; obtain ⟨qB, r1, r2⟩ := hB; clear hA  qB; go_light; go_simp <;> rfl); (try simp only [Act.put, List.setIfInBounds_toArray, List.set_cons_succ, List.set_cons_zero]))
                  apply Free.chain_nil
                  intro wz hBz _ _
                  simp only [List.drop_succ_cons, List.drop_zero]
                  have hcl : clashB u v = false := by unfold clashB; simp [huv]
                  have KEY : Hid (RCl w11 ta tb M (.int .i64 ((k : Int) + 1)) wz) := ⟨k + 1, by omega, by go_num, fun j x y hj hx hy => by
                    by_cases e : j = k
                    · subst e
                      rw [HU.out] at hx
                      rw [HV.out] at hy
                      cases hx; cases hy; exact hcl
                    · exact HNO.out j x y (by omega) hx hy, HBR.out.trans (hBz.1.mono HBR.out.size)⟩
                  clear hBz hcl huv CU CV
                  go_wp2_with fail
                  refine ⟨KEY.out, ?_⟩
                  simp [intOf]; omega
                · have huv2 : (u.toList == v.toList) = false := by
                    cases hq : (u.toList == v.toList) with
                    | false => rfl
                    | true => exact absurd (tl_eq (by simpa using hq)) huv
                  rw [show (!(u.toList == v.toList)) = true by rw [huv2]; rfl]
                  have HUV := Lib.hid huv
                  clear huv huv2
                  iterate 5 (apply Free.chain_still (by first | exact Free.wanted_of rfl rfl rfl | rfl) rfl; (intro w' hB hA; obtain ⟨qB, r1, r2⟩ := hB; clear hA  qB; go_light; go_simp <;> rfl); (try simp only [Act.put, List.setIfInBounds_toArray, List.set_cons_succ, List.set_cons_zero]))
                  apply Free.chain_det (by first | exact Free.wanted_of rfl rfl rfl | rfl) rfl
                  · intro w' hB hA
                    refine Free.opRun_call (f := 21) (args := #[.string u]) (by clear hB hA; go_simp <;> rfl) ?_
                    refine (CU.out w').mono ?_
                    rintro e w3 ⟨rfl, hb3⟩
                    exact ⟨_, rfl, hb3, rfl⟩
                  simp only [Act.put, List.setIfInBounds_toArray, List.set_cons_succ, List.set_cons_zero]
                  iterate 4 (apply Free.chain_still (by first | exact Free.wanted_of rfl rfl rfl | rfl) rfl; (intro w' hB hA; obtain ⟨qB, r1, r2⟩ := hB; clear hA  qB; go_light; go_simp <;> rfl); (try simp only [Act.put, List.setIfInBounds_toArray, List.set_cons_succ, List.set_cons_zero]))
                  apply Free.chain_det (by first | exact Free.wanted_of rfl rfl rfl | rfl) rfl
                  · intro w' hB hA
                    refine Free.opRun_call (f := 21) (args := #[.string v]) (by clear hB hA; go_simp <;> rfl) ?_
                    refine (CV.out w').mono ?_
                    rintro e w3 ⟨rfl, hb3⟩
                    exact ⟨_, rfl, hb3, rfl⟩
                  simp only [Act.put, List.setIfInBounds_toArray, List.set_cons_succ, List.set_cons_zero]
                  iterate 2 (apply Free.chain_still (by first | exact Free.wanted_of rfl rfl rfl | rfl) rfl; (intro w' hB hA; obtain ⟨qB, r1, r2⟩ := hB; clear hA  qB; go_light; go_simp <;> rfl); (try simp only [Act.put, List.setIfInBounds_toArray, List.set_cons_succ, List.set_cons_zero]))
                  apply Free.chain_nil
                  intro wz hBz _ _
                  simp only [List.drop_succ_cons, List.drop_zero]
                  have LZ := Lib.hid (HBR.out.trans (hBz.1.mono HBR.out.size))
                  clear hBz CU CV
                  by_cases hs : su = sv
                  · rw [show (su.toList == sv.toList) = true by rw [hs]; simp]
                    have L := Lib.hid (L11.out.trans (LZ.out.mono L11.out.size))
                    clear hs
                    go_wp2_with fail
                    exact FIN.out _ L.out
                  · rw [show (su.toList == sv.toList) = false by
                      cases hq : (su.toList == sv.toList) with
                      | false => rfl
                      | true => exact absurd (tl_eq (by simpa using hq)) hs]
                    have hcl : clashB u v = false := by unfold clashB; rw [← ESU.out, ← ESV.out, decide_eq_false hs]; simp
                    have KEY : Hid (RCl w11 ta tb M (.int .i64 ((k : Int) + 1)) wz) := ⟨k + 1, by omega, by go_num, fun j x y hj hx hy => by
                      by_cases e : j = k
                      · subst e
                        rw [HU.out] at hx
                        rw [HV.out] at hy
                        cases hx; cases hy; exact hcl
                      · exact HNO.out j x y (by omega) hx hy, LZ.out⟩
                    clear hs hcl
                    go_wp2_with fail
                    refine ⟨KEY.out, ?_⟩
                    simp [intOf]; omega
              · exfalso
                obtain ⟨j, a, b, ha, hb, hc⟩ := HF.out
                have hj := (List.getElem?_eq_some_iff.1 ha).1
                have := hno j a b (by have := TLAH.out; omega) ha hb
                rw [this] at hc; cases hc
theorem shown_u8 (A B D : Option Addr) (c d f : Nat) (l : List Fac) (salts p : List ByteArray) (secret raw : Int) (x : Fac) (w : World) (h : SL w 6 encF A l) (hln : l.length ≤ 9223372036854775807) (ho : ∀ x ∈ l, x.Ok)
    (hsl : salts.length ≤ 9223372036854775807) (hs : SL w 1 encS B salts) (hx : x.Ok) (hpl : p.length ≤ 9223372036854775807) (hpc : p.length ≤ f) (hp : SL w 1 encS D p) (hr : (Lit.int .u8 raw).wf = true) (hT : HasT w) :
    Calls Tryd.prog 3 #[.slice A l.length c, .slice B salts.length d, .int .i64 secret, .int .u8 raw, .agg (encF x).toArray, .slice D p.length f] w fun e w' => e = .returned (.bool true) ∧ Below w.heap.size w w' := by
  have hb : 0 ≤ raw ∧ raw ≤ 255 := by
    have h1 : And (IntKind.u8.min ≤ raw) (raw ≤ IntKind.u8.max) := by simpa [Lit.wf] using hr
    exact ⟨h1.1, h1.2⟩
  obtain ⟨rn, rfl⟩ : ∃ rn : Nat, raw = (rn : Int) := ⟨raw.toNat, by omega⟩
  exact shown_law A B D c d f l salts p secret rn x w h hln ho hsl hs hx hpl hpc hp (by omega) hT
end Go.Proofs.YtamiaalfjmppaaaDoor
