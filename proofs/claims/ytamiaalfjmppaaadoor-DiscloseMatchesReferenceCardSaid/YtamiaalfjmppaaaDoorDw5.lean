/- The law's texts, whose digests lead from a leaf to the root. Condition: texts of at most 9 * 10^8 bytes; as many elements as there are levels. -/
import Derived.Test.YtamiaalfjmppaaaDoorDw3
namespace Go.Proofs.YtamiaalfjmppaaaDoor
open Go.RowKit Go.Blk Go.Sg Go.Opn Go.Di Go.Apl Go.Rf

theorem own_base {w : World} {B B' n : Nat} {e : TypeId} {sz : Nat} {v : Value} {xs : List Value} (h : w.ownsRow B e sz v n xs) (hB : B' ≤ B) : w.ownsRow B' e sz v n xs := by
  refine ⟨h.1, ?_⟩
  rcases h.2 with h1 | ⟨g, cap, cur, h1, h2, h3⟩
  · exact .inl h1
  · exact .inr ⟨g, cap, cur, h1, Nat.le_trans hB h2, h3⟩
def Med (l : List ByteArray) : Prop := ∀ b ∈ l, b.size ≤ 900000000
theorem nodeT_small (a b : ByteArray) (h1 : a.size ≤ 900000000) (h2 : b.size ≤ 900000000) (h3 : a.size = 64 ∨ b.size = 64) : (nodeT a b).size ≤ 1000000000 := by
  have s1 := dec_size (a.size : Int) (by omega) (by omega)
  have e : (nodeT a b).size = 4 + 1 + (dec (a.size : Int)).size + 1 + a.size + b.size := by unfold nodeT tagT; rw [ba_size, ba_size, ba_size, ba_size, ba_size]; rfl
  omega
attribute [local irreducible] sumB
theorem txtD_small (t : ByteArray) (ht : t.size ≤ 1000000000) : ∀ (bs : List Bool) (qs : List ByteArray), Med qs → ((txtD t bs qs).getLastD ⟨#[]⟩).size ≤ 1000000000
  | [], [], _ => ht
  | [], _ :: _, _ => ht
  | _ :: _, [], _ => ht
  | b :: bs, q :: qs, h => by
    have h1 := h q (by simp)
    rw [txtD_cons, last_snoc]
    have h2 : (sumB KC ((txtD t bs qs).getLastD ⟨#[]⟩)).size = 64 := sumB_size _
    split
    · exact nodeT_small _ _ (by omega) h1 (.inl h2)
    · exact nodeT_small _ _ h1 (by omega) (.inr h2)
theorem rev_last {p : List ByteArray} {q : ByteArray} {k : Nat} (hk : p.length = k + 1) (h : p[k]? = some q) : p.reverse = q :: p.dropLast.reverse := by
  rcases List.eq_nil_or_concat p with rfl | ⟨l, x, rfl⟩
  · simp at hk
  · rw [List.concat_eq_append] at hk h ⊢
    have : l.length = k := by simpa using hk
    subst this
    rw [List.getElem?_concat_length] at h
    cases h
    simp
theorem sl_init {w : World} {A : Option Addr} {l : List ByteArray} (h : SL w 1 encS A l) : SL w 1 encS A l.dropLast := by
  rw [List.dropLast_eq_take]; exact h.take _
theorem lev_pos {i n : Nat} (h : 2 ≤ n) (h2 : n < 9223372036854775808) : 0 < (lev i n).length := by rw [lev_more h h2]; simp
theorem txt_at (t : ByteArray) (bs : List Bool) (qs : List ByteArray) (m : Nat) (h : bs.length = qs.length) (hm : qs.length = m) : (txtD t bs qs)[m]? = some ((txtD t bs qs).getLastD ⟨#[]⟩) := by
  have h1 := txtD_len t bs qs h
  rw [List.getLastD_eq_getLast?, List.getLast?_eq_getElem?, h1, h, hm]
  show _ = some (((txtD t bs qs)[m]?).getD _)
  rw [List.getElem?_eq_getElem (by omega)]; rfl
def TxPost (x : Fac) (s : ByteArray) (i n : Nat) (p : List ByteArray) (w : World) (e : Ending) (w' : World) : Prop :=
  (∃ v, e = .returned v ∧ w'.ownsRow w.heap.size 9 1 v (p.length + 1) ((txtD (leafT x s) (sidesL i n) p.reverse).map Value.string)) ∧ Below w.heap.size w w'
set_option maxRecDepth 100000 in
set_option maxHeartbeats 4000000 in
theorem texts34_any (x : Fac) (s : ByteArray) (hx : x.Ok) (hs : s.size ≤ 900000000) : ∀ (n i : Nat) (p : List ByteArray) (A : Option Addr) (c : Nat) (w : World), 1 ≤ n → n < 4611686018427387904 → i < n → p.length = (lev i n).length → p.length ≤ c → p.length < 1000000 → SL w 1 encS A p → Med p →
    Calls Tryd.prog 31 #[.agg (encF x).toArray, .string s, .int .i64 (i : Int), .int .i64 (n : Int), .slice A p.length c] w (TxPost x s i n p w) := by
  intro n
  induction n using Nat.strongRecOn with
  | _ n ih =>
    intro i p A c w h1 h2 hi hpl hpc hpb hsl hmed
    obtain ⟨R, eR⟩ : ∃ R, R = TxPost x s i n p w := ⟨_, rfl⟩
    rw [← eR]
    have hzl := leafT_size x s hx hs
    by_cases hn : n = 1
    · subst hn
      have hp : p = [] := by rw [lev_small (by decide)] at hpl; exact List.length_eq_zero_iff.1 (by simpa using hpl)
      subst hp
      have FIN : Hid (∀ g w', w'.heap[g]? = some (.cells #[.string (leafT x s)] 9 (0, 0)) → w.heap.size ≤ g → Below w.heap.size w w' → R (.returned (.slice (some ⟨g, 0, none⟩) 1 1)) w') := by
        intro g w' hg hb hbw
        rw [eR]
        refine ⟨⟨_, rfl, ?_⟩, hbw⟩
        rw [sides_small (by decide)]
        exact ⟨rfl, .inr ⟨g, 1, _, rfl, hb, hg, Nat.le_refl _, by decide, rfl, rfl⟩⟩
      have CL := Lib.hid (fun w => leaftext_any x s w hx (by omega))
      obtain ⟨lt, elt⟩ : ∃ lt, lt = leafT x s := ⟨_, rfl⟩
      rw [← elt] at FIN CL
      clear ih hpl hsl hmed eR hzl elt h2 hx
      obtain ⟨xr, xa, xl, xh, xf, xs⟩ := x
      rw [show encF ⟨xr, xa, xl, xh, xf, xs⟩ = [.int .i64 xr, .int .i64 xa, .int .i64 xl, .int .i64 xh, .int .i64 xf, .bool xs] from rfl] at CL ⊢
      go_enter Tryd.func31, Tryd.ntmps31
      go_wp2_with fail
      refine (CL.out _).mono ?_
      rintro e w1 ⟨rfl, hb⟩
      have L1 : Hid (Below w.heap.size w w1) := (((Below.refl _ w).alloc (Nat.le_refl _) _).trans (hb.mono (by simp)))
      clear hb
      have HF : Hid (R (.returned (.slice (some ⟨w1.heap.size, 0, none⟩) 1 1)) (w1.alloc (.cells #[.string lt] 9))) := FIN.out _ _ (new_at rfl) L1.out.size (L1.out.alloc L1.out.size _)
      go_wp2_with fail
      exact HF.out
    · have h3 : 2 ≤ n := by omega
      obtain ⟨k1, k2, _, _⟩ := half_facts n h3 (by omega)
      have k0 := half_pos n
      have hp0 := lev_pos (i := i) h3 (by omega)
      obtain ⟨m, em⟩ : ∃ m, p.length = m + 1 := ⟨p.length - 1, by omega⟩
      obtain ⟨q, hq⟩ : ∃ q, p[m]? = some q := ⟨_, List.getElem?_eq_getElem (by omega)⟩
      have hqz := hmed q (List.mem_of_getElem? hq)
      have hrev := rev_last em hq
      have hdl : p.dropLast.length = m := by rw [List.length_dropLast]; omega
      have hmd : Med p.dropLast := fun b hb => hmed b ((List.dropLast_sublist p).subset hb)
      have HSP := Lib.hid (fun w => split_any n w h3 h2)
      obtain ⟨b, off, rfl, hc⟩ := hsl.at_ hq
      have c3 := hc 0 _ rfl
      simp only [Nat.mul_one, Nat.add_zero] at c3
      by_cases hik : i < half n
      · have hll : (lev i n).length = (lev i (half n)).length + 1 := by rw [lev_more h3 (by omega), if_pos hik]; rfl
        have CALL : Hid (∀ w', SL w' 1 encS (some ⟨b, off, none⟩) p → Calls Tryd.prog 31 #[.agg (encF x).toArray, .string s, .int .i64 (i : Int), .int .i64 ((half n : Nat) : Int), .slice (some ⟨b, off, none⟩) m c] w' fun e w2 => (∃ v, e = .returned v ∧ w2.ownsRow w'.heap.size 9 1 v p.length ((txtD (leafT x s) (sidesL i (half n)) p.dropLast.reverse).map Value.string)) ∧ Below w'.heap.size w' w2) := fun w' hs => by
          have h0 := ih (half n) (by omega) i p.dropLast (some ⟨b, off, none⟩) c w' (by omega) (by omega) (by omega) (by rw [hdl]; omega) (by omega) (by omega) (sl_init hs) hmd
          unfold TxPost at h0
          rw [hdl, ← em] at h0
          skip
          exact h0
        have hlast := txt_at (leafT x s) (sidesL i (half n)) p.dropLast.reverse m (by rw [sides_len, List.length_reverse, hdl]; omega) (by rw [List.length_reverse, hdl])
        have hlz := txtD_small (leafT x s) hzl (sidesL i (half n)) p.dropLast.reverse (fun t ht => hmd t (List.mem_reverse.1 ht))
        have hTX : txtD (leafT x s) (sidesL i n) p.reverse = txtD (leafT x s) (sidesL i (half n)) p.dropLast.reverse ++ [nodeT (sumB KC ((txtD (leafT x s) (sidesL i (half n)) p.dropLast.reverse).getLastD ⟨#[]⟩)) q] := by
          rw [hrev, sides_more h3 (by omega), txtD_cons]
          rw [decide_eq_true hik, if_pos hik, if_pos rfl]
        obtain ⟨tx, etx⟩ : ∃ tx, tx = txtD (leafT x s) (sidesL i (half n)) p.dropLast.reverse := ⟨_, rfl⟩
        rw [← etx] at CALL hlast hlz hTX
        obtain ⟨lst, elst⟩ : ∃ lst, lst = tx.getLastD ⟨#[]⟩ := ⟨_, rfl⟩
        rw [← elst] at hlast hlz hTX
        have hsz : (sumB KC lst).size = 64 := sumB_size _
        have CSM := Lib.hid (fun w => refsum_any lst w hlz)
        have CNT := Lib.hid (fun w => nodetext_any (sumB KC lst) q w (by omega) (by omega))
        obtain ⟨sm, esm⟩ : ∃ sm, sm = sumB KC lst := ⟨_, rfl⟩
        rw [← esm] at CSM CNT hTX
        obtain ⟨nt, ent⟩ : ∃ nt, nt = nodeT sm q := ⟨_, rfl⟩
        rw [← ent] at CNT hTX
        have FIN : Hid (∀ v' w', w'.ownsRow w.heap.size 9 1 v' (p.length + 1) (tx.map Value.string ++ [.string nt]) → Below w.heap.size w w' → R (.returned v') w') := fun v' w' h hb => by
          rw [eR]
          refine ⟨⟨v', rfl, ?_⟩, hb⟩
          rw [hTX, List.map_append]; exact h
        obtain ⟨kk, ekk⟩ : ∃ kk, kk = half n := ⟨_, rfl⟩
        rw [← ekk] at HSP CALL hik k0 k1 k2
        have LST := Lib.hid hlast
        have SLP := Lib.hid hsl
        have j0 : (0 : Int) ≤ (p.length : Int) - 1 := by omega
        have j0' : (1 : Int) ≤ (p.length : Int) := by omega
        have j1 : (p.length : Int) - 1 < (p.length : Int) := by omega
        have j2 : ((p.length : Int) - 1).toNat = m := by omega
        have j3 : (p.length : Int) - 1 ≤ (c : Int) := by omega
        have hmp : m < p.length := by omega
        have hn1 : ((n : Int) == 1) = false := beq_eq_false_iff_ne.2 (by omega)
        have hlt1 : (i : Int) < (kk : Int) := by omega
        clear ih hpl hmed eR hzl hlast hlz hTX etx elst hsz esm ent ekk hq hrev hdl hmd hsl em hn hp0 hx
        obtain ⟨xr, xa, xl, xh, xf, xs⟩ := x
        obtain ⟨V, eV⟩ : ∃ V, V = w.alloc (.cells (encF ⟨xr, xa, xl, xh, xf, xs⟩).toArray 25) := ⟨_, rfl⟩
        have HB1 : Hid (Below w.heap.size w V) := by rw [eV]; exact (Below.refl _ w).alloc (Nat.le_refl _) _
        have hbk : Blk V w.heap.size (encF ⟨xr, xa, xl, xh, xf, xs⟩) 25 := by rw [eV]; exact Blk.new w _ _
        have EV : Hid (w.alloc (.cells #[.int .i64 xr, .int .i64 xa, .int .i64 xl, .int .i64 xh, .int .i64 xf, .bool xs] 25) = V) := eV.symm
        have e0 := hbk.cellD 0 _ rfl
        have e1 := hbk.cellD 1 _ rfl
        have e2 := hbk.cellD 2 _ rfl
        have e3 := hbk.cellD 3 _ rfl
        have e4 := hbk.cellD 4 _ rfl
        have e5 := hbk.cellD 5 _ rfl
        have c3' : V.cell? ⟨b, off + m, none⟩ = some (.string q) := (HB1.out.cell (p := ⟨b, off + m, none⟩) (World.block_lt_of_cell? w _ c3)).trans c3
        have SLV := Lib.hid (SLP.out.below HB1.out (Nat.le_refl _))
        clear eV hbk c3 SLP
        show Calls Tryd.prog 31 #[.agg #[.int .i64 xr, .int .i64 xa, .int .i64 xl, .int .i64 xh, .int .i64 xf, .bool xs], .string s, .int .i64 (i : Int), .int .i64 (n : Int), .slice (some ⟨b, off, none⟩) p.length c] w R
        go_enter Tryd.func31, Tryd.ntmps31
        go_wp2_with fail
        rw [EV.out]
        refine (HSP.out _).mono ?_
        rintro e w' ⟨rfl, rfl⟩
        go_wp2_with fail
        refine (CALL.out _ SLV.out).mono ?_
        rintro e w2 ⟨⟨v1, rfl, hown⟩, hb2⟩
        have HB2 := Lib.hid (HB1.out.trans (hb2.mono HB1.out.size))
        obtain ⟨A1, c1, rfl, hc1, hsl⟩ := row_slS hown
        obtain ⟨b1, o1, rfl, hcl⟩ := hsl.at_ LST.out
        have c5 := hcl 0 _ rfl
        simp only [Nat.mul_one, Nat.add_zero] at c5
        have HOWN := Lib.hid (own_base hown HB1.out.size)
        clear hb2 hsl hcl hown e0 e1 e2 e3 e4 e5 c3'
        go_wp2_with fail
        refine (CSM.out _).mono ?_
        rintro e w3 ⟨rfl, hb3⟩
        have HB3 := Lib.hid (HB2.out.trans (hb3.mono HB2.out.size))
        have HOWN3 := Lib.hid (row_below HOWN.out hb3)
        clear hb3 c5
        go_wp2_with fail
        refine (CNT.out _).mono ?_
        rintro e w4 ⟨rfl, hb4⟩
        have HB4 := Lib.hid (HB3.out.trans (hb4.mono HB3.out.size))
        have HOWN4 := Lib.hid (row_below HOWN3.out hb4)
        clear hb4
        obtain ⟨i0, hi0, hz0, hz1, hz2⟩ := info_parts infoStr
        have HI := Lib.hid hi0
        have HZ0 := Lib.hid hz0
        have HZ1 := Lib.hid hz1
        have HZ2 := Lib.hid hz2
        clear hi0 hz0 hz1 hz2
        go_wp2_with (at_builtin; refine wpList_append_list (ec := encS) rfl (.tmp 44) (.tmp 54) 23 rfl w.heap.size 9 i0 _ 16 Tryd.underlying23 HI.out HZ0.out HZ1.out HZ2.out rfl (by decide) encS_len encS_one _ _ _ rfl (row_below HOWN4.out ((Below.refl _ _).alloc (Nat.le_refl _) _)) (some ⟨w4.heap.size, 0, none⟩) 1 [nt] rfl (sl_new (l := [nt]) (new_at rfl)) (by have : maxLen = 9223372036854775807 := rfl; simp only [List.length_cons, List.length_nil]; omega) (by simp only [List.length_cons, List.length_nil]; omega) (by have := HB4.out.size; simp; omega) ?_)
        intro v5 w5 hown5 hg5 _
        have hb5 : Below w.heap.size w w5 := (HB4.out.alloc HB4.out.size _).grown hg5 (by have := HB4.out.size; simp; omega) (fun j e => (HOWN4.out.lt j e).1)
        have HF := Lib.hid (FIN.out v5 w5 hown5 hb5)
        clear hown5 hg5 hb5
        go_wp2_with fail
        exact HF.out
      · have hll : (lev i n).length = (lev (i - half n) (n - half n)).length + 1 := by rw [lev_more h3 (by omega), if_neg hik]; rfl
        have CALL : Hid (∀ w', SL w' 1 encS (some ⟨b, off, none⟩) p → Calls Tryd.prog 31 #[.agg (encF x).toArray, .string s, .int .i64 ((i : Int) - ((half n : Nat) : Int)), .int .i64 ((n : Int) - ((half n : Nat) : Int)), .slice (some ⟨b, off, none⟩) m c] w' fun e w2 => (∃ v, e = .returned v ∧ w2.ownsRow w'.heap.size 9 1 v p.length ((txtD (leafT x s) (sidesL (i - half n) (n - half n)) p.dropLast.reverse).map Value.string)) ∧ Below w'.heap.size w' w2) := fun w' hs => by
          have h0 := ih (n - half n) (by omega) (i - half n) p.dropLast (some ⟨b, off, none⟩) c w' (by omega) (by omega) (by omega) (by rw [hdl]; omega) (by omega) (by omega) (sl_init hs) hmd
          unfold TxPost at h0
          rw [hdl, ← em] at h0
          rw [show ((i - half n : Nat) : Int) = (i : Int) - ((half n : Nat) : Int) by omega, show ((n - half n : Nat) : Int) = (n : Int) - ((half n : Nat) : Int) by omega] at h0
          exact h0
        have hlast := txt_at (leafT x s) (sidesL (i - half n) (n - half n)) p.dropLast.reverse m (by rw [sides_len, List.length_reverse, hdl]; omega) (by rw [List.length_reverse, hdl])
        have hlz := txtD_small (leafT x s) hzl (sidesL (i - half n) (n - half n)) p.dropLast.reverse (fun t ht => hmd t (List.mem_reverse.1 ht))
        have hTX : txtD (leafT x s) (sidesL i n) p.reverse = txtD (leafT x s) (sidesL (i - half n) (n - half n)) p.dropLast.reverse ++ [nodeT q (sumB KC ((txtD (leafT x s) (sidesL (i - half n) (n - half n)) p.dropLast.reverse).getLastD ⟨#[]⟩))] := by
          rw [hrev, sides_more h3 (by omega), txtD_cons]
          rw [decide_eq_false hik, if_neg hik, if_neg (by decide)]
        obtain ⟨tx, etx⟩ : ∃ tx, tx = txtD (leafT x s) (sidesL (i - half n) (n - half n)) p.dropLast.reverse := ⟨_, rfl⟩
        rw [← etx] at CALL hlast hlz hTX
        obtain ⟨lst, elst⟩ : ∃ lst, lst = tx.getLastD ⟨#[]⟩ := ⟨_, rfl⟩
        rw [← elst] at hlast hlz hTX
        have hsz : (sumB KC lst).size = 64 := sumB_size _
        have CSM := Lib.hid (fun w => refsum_any lst w hlz)
        have CNT := Lib.hid (fun w => nodetext_any q (sumB KC lst) w (by omega) (by omega))
        obtain ⟨sm, esm⟩ : ∃ sm, sm = sumB KC lst := ⟨_, rfl⟩
        rw [← esm] at CSM CNT hTX
        obtain ⟨nt, ent⟩ : ∃ nt, nt = nodeT q sm := ⟨_, rfl⟩
        rw [← ent] at CNT hTX
        have FIN : Hid (∀ v' w', w'.ownsRow w.heap.size 9 1 v' (p.length + 1) (tx.map Value.string ++ [.string nt]) → Below w.heap.size w w' → R (.returned v') w') := fun v' w' h hb => by
          rw [eR]
          refine ⟨⟨v', rfl, ?_⟩, hb⟩
          rw [hTX, List.map_append]; exact h
        obtain ⟨kk, ekk⟩ : ∃ kk, kk = half n := ⟨_, rfl⟩
        rw [← ekk] at HSP CALL hik k0 k1 k2
        have LST := Lib.hid hlast
        have SLP := Lib.hid hsl
        have j0 : (0 : Int) ≤ (p.length : Int) - 1 := by omega
        have j0' : (1 : Int) ≤ (p.length : Int) := by omega
        have j1 : (p.length : Int) - 1 < (p.length : Int) := by omega
        have j2 : ((p.length : Int) - 1).toNat = m := by omega
        have j3 : (p.length : Int) - 1 ≤ (c : Int) := by omega
        have hmp : m < p.length := by omega
        have hn1 : ((n : Int) == 1) = false := beq_eq_false_iff_ne.2 (by omega)
        have hlt1 : ¬ (i : Int) < (kk : Int) := by omega
        clear ih hpl hmed eR hzl hlast hlz hTX etx elst hsz esm ent ekk hq hrev hdl hmd hsl em hn hp0 hx
        obtain ⟨xr, xa, xl, xh, xf, xs⟩ := x
        obtain ⟨V, eV⟩ : ∃ V, V = w.alloc (.cells (encF ⟨xr, xa, xl, xh, xf, xs⟩).toArray 25) := ⟨_, rfl⟩
        have HB1 : Hid (Below w.heap.size w V) := by rw [eV]; exact (Below.refl _ w).alloc (Nat.le_refl _) _
        have hbk : Blk V w.heap.size (encF ⟨xr, xa, xl, xh, xf, xs⟩) 25 := by rw [eV]; exact Blk.new w _ _
        have EV : Hid (w.alloc (.cells #[.int .i64 xr, .int .i64 xa, .int .i64 xl, .int .i64 xh, .int .i64 xf, .bool xs] 25) = V) := eV.symm
        have e0 := hbk.cellD 0 _ rfl
        have e1 := hbk.cellD 1 _ rfl
        have e2 := hbk.cellD 2 _ rfl
        have e3 := hbk.cellD 3 _ rfl
        have e4 := hbk.cellD 4 _ rfl
        have e5 := hbk.cellD 5 _ rfl
        have c3' : V.cell? ⟨b, off + m, none⟩ = some (.string q) := (HB1.out.cell (p := ⟨b, off + m, none⟩) (World.block_lt_of_cell? w _ c3)).trans c3
        have SLV := Lib.hid (SLP.out.below HB1.out (Nat.le_refl _))
        clear eV hbk c3 SLP
        show Calls Tryd.prog 31 #[.agg #[.int .i64 xr, .int .i64 xa, .int .i64 xl, .int .i64 xh, .int .i64 xf, .bool xs], .string s, .int .i64 (i : Int), .int .i64 (n : Int), .slice (some ⟨b, off, none⟩) p.length c] w R
        go_enter Tryd.func31, Tryd.ntmps31
        go_wp2_with fail
        rw [EV.out]
        refine (HSP.out _).mono ?_
        rintro e w' ⟨rfl, rfl⟩
        go_wp2_with fail
        refine (CALL.out _ SLV.out).mono ?_
        rintro e w2 ⟨⟨v1, rfl, hown⟩, hb2⟩
        have HB2 := Lib.hid (HB1.out.trans (hb2.mono HB1.out.size))
        obtain ⟨A1, c1, rfl, hc1, hsl⟩ := row_slS hown
        obtain ⟨b1, o1, rfl, hcl⟩ := hsl.at_ LST.out
        have c5 := hcl 0 _ rfl
        simp only [Nat.mul_one, Nat.add_zero] at c5
        have HOWN := Lib.hid (own_base hown HB1.out.size)
        clear hb2 hsl hcl hown e0 e1 e2 e3 e4 e5 c3'
        go_wp2_with fail
        refine (CSM.out _).mono ?_
        rintro e w3 ⟨rfl, hb3⟩
        have HB3 := Lib.hid (HB2.out.trans (hb3.mono HB2.out.size))
        have HOWN3 := Lib.hid (row_below HOWN.out hb3)
        clear hb3 c5
        go_wp2_with fail
        refine (CNT.out _).mono ?_
        rintro e w4 ⟨rfl, hb4⟩
        have HB4 := Lib.hid (HB3.out.trans (hb4.mono HB3.out.size))
        have HOWN4 := Lib.hid (row_below HOWN3.out hb4)
        clear hb4
        obtain ⟨i0, hi0, hz0, hz1, hz2⟩ := info_parts infoStr
        have HI := Lib.hid hi0
        have HZ0 := Lib.hid hz0
        have HZ1 := Lib.hid hz1
        have HZ2 := Lib.hid hz2
        clear hi0 hz0 hz1 hz2
        go_wp2_with (at_builtin; refine wpList_append_list (ec := encS) rfl (.tmp 66) (.tmp 76) 23 rfl w.heap.size 9 i0 _ 16 Tryd.underlying23 HI.out HZ0.out HZ1.out HZ2.out rfl (by decide) encS_len encS_one _ _ _ rfl (row_below HOWN4.out ((Below.refl _ _).alloc (Nat.le_refl _) _)) (some ⟨w4.heap.size, 0, none⟩) 1 [nt] rfl (sl_new (l := [nt]) (new_at rfl)) (by have : maxLen = 9223372036854775807 := rfl; simp only [List.length_cons, List.length_nil]; omega) (by simp only [List.length_cons, List.length_nil]; omega) (by have := HB4.out.size; simp; omega) ?_)
        intro v5 w5 hown5 hg5 _
        have hb5 : Below w.heap.size w w5 := (HB4.out.alloc HB4.out.size _).grown hg5 (by have := HB4.out.size; simp; omega) (fun j e => (HOWN4.out.lt j e).1)
        have HF := Lib.hid (FIN.out v5 w5 hown5 hb5)
        clear hown5 hg5 hb5
        go_wp2_with fail
        exact HF.out
end Go.Proofs.YtamiaalfjmppaaaDoor
