/- Package journal: store, also where the power fails. Condition: the disk is on. Package journal: store, walked. Condition: the disk is on. Package journal: commit, also where the power fails. Condition: the variable of strconv holds its numbers. Package journal: what Append does under try, also where the power fails. Condition: the disk is on; the variable of strconv holds its numbers. Package journal: what Compact does under try, also where the power fails. Condition: the disk is on; the variable of strconv holds its numbers. Package journal: try. No condition. Package journal: try around a change of the journal. No condition. Package journal: try around Compact's change. No condition. -/
import Derived.Test.YthfjaaigncjhlaaGreatDoorJoK
import Derived.Test.YthfjaaigncjhlaaGreatDoorDk7
import Derived.Test.YthfjaaigncjhlaaGreatDoorJo7
import Derived.Test.YthfjaaigncjhlaaGreatDoorRf
import Derived.Defers
import Derived.Recover
namespace Go.Proofs.YthfjaaigncjhlaaGreatDoor
open Go.RowKit Go.Blk Go.Jn Go.Dk Go.Mp Go.Rf Go.Shelf
attribute [local go_sem] Oper.semAt_some

/-- What became of a disk, and that all else is as it was. -/
def DkTo (w : World) (b bs bm n : Nat) (pv : Value) (d : DD) (w' : World) : Prop :=
  ∃ bm' pv', DiskAt w' b bs bm' pv' d n ∧ Keep (Fp b bs bm pv) w w' ∧ (bm' = bm ∨ w.heap.size ≤ bm') ∧ (∀ k, pv'.ownBlock = some k → pv.ownBlock = some k ∨ w.heap.size ≤ k)
section
variable {w w1 w2 : World} {b bs bm bm1 n : Nat} {pv pv1 : Value} {d : DD}
theorem DkTo.after (k : Keep (Fp b bs bm pv) w w1) (h1 : bm1 = bm ∨ w.heap.size ≤ bm1) (h2 : ∀ k, pv1.ownBlock = some k → pv.ownBlock = some k ∨ w.heap.size ≤ k) (h : DkTo w1 b bs bm1 n pv1 d w2) : DkTo w b bs bm n pv d w2 := by
  obtain ⟨bm', pv', a1, a2, a3, a4⟩ := h
  refine ⟨bm', pv', a1, k.trans a2 (fun i hi f => fp_more h1 h2 i hi f), ?_, fun j hj => ?_⟩
  · rcases a3 with rfl | h
    · exact h1
    · exact .inr (Nat.le_trans k.size h)
  · rcases a4 j hj with h | h
    · exact h2 j h
    · exact .inr (Nat.le_trans k.size h)
end
/-- Bytes in a block that a conversion has made. -/
def BytF (W : World) (g : Nat) (l : List UInt8) : Prop := ∃ (rest : List Value) (m : Nat), W.heap[g]? = some (.cells (l.map C8 ++ rest).toArray 5 (m, m + 1)) ∧ m = l.length + rest.length
section
variable {W W' : World} {g : Nat} {l : List UInt8}
theorem BytF.cell (h : BytF W g l) (i : Nat) (hi : i < l.length) : W.cell? ⟨g, i, none⟩ = some (C8 l[i]) := by
  obtain ⟨r, m, h1, _⟩ := h
  simp only [World.cell?, h1]
  simp [hi, List.getElem?_append_left]
theorem BytF.frozen (h : BytF W g l) (i : Nat) (hi : i < l.length) : W.frozen? ⟨g, i, none⟩ = false := by
  obtain ⟨r, m, h1, h2⟩ := h
  simp [World.frozen?, h1]; omega
theorem BytF.set (h : BytF W g l) (i : Nat) (hi : i < l.length) (x : UInt8) : BytF (W.setCell ⟨g, i, none⟩ (C8 x)) g (l.set i x) := by
  obtain ⟨r, m, h1, h2⟩ := h
  refine ⟨r, m, ?_, by simpa using h2⟩
  simp only [World.setCell, Array.getElem?_modify, if_true, h1, Option.map_some]
  congr 2
  simp [hi]
theorem BytF.keep (h : BytF W g l) (hk : W'.heap[g]? = W.heap[g]?) : BytF W' g l := by
  obtain ⟨r, m, h1, h2⟩ := h
  exact ⟨r, m, hk.trans h1, h2⟩
theorem BytF.lt (h : BytF W g l) : g < W.heap.size := by
  obtain ⟨r, m, h1, _⟩ := h
  exact (Array.getElem?_eq_some_iff.1 h1).1
end
theorem bytF_new (W : World) (x : List UInt8) : ∃ cap, BytF (W.drew.alloc (.cells (bytesRow (tx x) (grownCap W (tx x).size 0 5)) 5 ((bytesRow (tx x) (grownCap W (tx x).size 0 5)).size, (bytesRow (tx x) (grownCap W (tx x).size 0 5)).size + 1))) W.heap.size x ∧ cap = grownCap W (tx x).size 0 5 := by
  refine ⟨_, ⟨List.replicate (grownCap W (tx x).size 0 5 - (tx x).size) (.int .u8 0), (bytesRow (tx x) (grownCap W (tx x).size 0 5)).size, ?_, ?_⟩, rfl⟩
  · show (W.heap.push _)[W.heap.size]? = _
    rw [Array.getElem?_push_size]
    congr 2
    simp [bytesRow, tx, C8]
  · simp [bytesRow, tx]
/-- A sector's bytes, of which the first i have been gone over. -/
def patT (t : List UInt8) (start off : Nat) (text : List UInt8) (i : Nat) : List UInt8 := (patch t start off text).take i ++ t.drop i
theorem patT_len (t : List UInt8) (start off : Nat) (text : List UInt8) (i : Nat) : (patT t start off text i).length = t.length := by
  unfold patT
  rw [List.length_append, List.length_take, List.length_drop, patch_len]; omega
theorem patT_zero (t : List UInt8) (start off : Nat) (text : List UInt8) : patT t start off text 0 = t := by unfold patT; simp
theorem patT_all (t : List UInt8) (start off : Nat) (text : List UInt8) (i : Nat) (h : t.length ≤ i) : patT t start off text i = patch t start off text := by
  unfold patT
  rw [List.take_of_length_le (by rw [patch_len]; exact h), List.drop_eq_nil_of_le h, List.append_nil]
theorem patT_at (t : List UInt8) (start off : Nat) (text : List UInt8) (i p : Nat) (hp : p < t.length) : (patT t start off text i)[p]? = if p < i then (patch t start off text)[p]? else t[p]? := by
  unfold patT
  by_cases h : p < i
  · rw [if_pos h, List.getElem?_append_left (by rw [List.length_take, patch_len]; omega), List.getElem?_take, if_pos h]
  · rw [if_neg h, List.getElem?_append_right (by rw [List.length_take, patch_len]; omega), List.length_take, patch_len, List.getElem?_drop]
    congr 1; omega
theorem patT_in {t : List UInt8} {start off : Nat} {text : List UInt8} {i : Nat} {c : UInt8} (hi : i < t.length) (h1 : off ≤ start + i) (hc : text[start + i - off]? = some c) : patT t start off text (i + 1) = (patT t start off text i).set i c := by
  have h2 : start + i - off < text.length := (List.getElem?_eq_some_iff.1 hc).1
  apply List.ext_getElem?
  intro p
  by_cases hp : p < t.length
  · rw [patT_at _ _ _ _ _ _ hp]
    by_cases e : p = i
    · subst e
      rw [if_pos (by omega), patch_at _ _ _ _ _ hp, if_pos (by omega), hc, List.getElem?_set_self (by rw [patT_len]; exact hp)]
    · rw [List.getElem?_set_ne (by omega), patT_at _ _ _ _ _ _ hp]
      by_cases h : p < i
      · rw [if_pos (by omega), if_pos h]
      · rw [if_neg (by omega), if_neg h]
  · rw [List.getElem?_eq_none (by rw [patT_len]; omega), List.getElem?_eq_none (by rw [List.length_set, patT_len]; omega)]
theorem patT_out {t : List UInt8} {start off : Nat} {text : List UInt8} {i : Nat} (hi : i < t.length) (h : ¬ (off ≤ start + i ∧ start + i < off + text.length)) : patT t start off text (i + 1) = patT t start off text i := by
  apply List.ext_getElem?
  intro p
  by_cases hp : p < t.length
  · rw [patT_at _ _ _ _ _ _ hp, patT_at _ _ _ _ _ _ hp]
    by_cases e : p = i
    · subst e
      rw [if_pos (by omega), if_neg (by omega), patch_at _ _ _ _ _ hp, if_neg h]
    · by_cases h : p < i
      · rw [if_pos (by omega), if_pos h]
      · rw [if_neg (by omega), if_neg h]
  · rw [List.getElem?_eq_none (by rw [patT_len]; omega), List.getElem?_eq_none (by rw [patT_len]; omega)]
/-- What a round of store keeps. -/
def SI (w : World) (b bs bm n : Nat) (pv : Value) (base off : Nat) (text : List UInt8) (half jb q : Nat) (d : DD) (pre : List Nat) (W : World) : Prop :=
  ∃ dc pv', (∀ rest, storeGo n base off text (pre ++ rest) d = storeGo n base off text rest dc) ∧ dc.on = true ∧ dc.pend.length ≤ d.pend.length + pre.length ∧
    DiskAt W b bs bm pv' dc n ∧ Keep (Fp b bs bm pv) w W ∧ (∀ k, pv'.ownBlock = some k → pv.ownBlock = some k ∨ w.heap.size ≤ k) ∧
    Blk W w.heap.size [.pointer (some ⟨jb, 0, none⟩)] 29 ∧ Blk W (w.heap.size + 1) [.int .i64 (off : Int)] 3 ∧ Blk W (w.heap.size + 2) [.string (tx text)] 9 ∧
    Blk W (q + 3) [.int .i64 (text.length : Int)] 3 ∧ Blk W (q + 2) [.int .i64 (off : Int)] 3 ∧ Blk W (q + 1) [.int .i64 (half : Int)] 3 ∧ Blk W q [.pointer (some ⟨jb, 0, none⟩)] 29
theorem disk_own {X Y : World} {b bs bm n B : Nat} {pv : Value} {d : DD} {row : Option Nat} (h : DiskAt X b bs bm pv d n) (hg : X.grownBy Y row) (hr : ∀ r, row = some r → B ≤ r ∧ ∃ o : Obj, X.heap[r]? = some o ∧ o.isCells = false) (hB : bm < B) : DiskAt Y b bs bm pv d n := by
  have hne : ∀ k c t fz, X.heap[k]? = some (Obj.cells c t fz) → Y.heap[k]? = X.heap[k]? := fun k c t fz hk => hg.block k (Array.getElem?_eq_some_iff.1 hk).1 (fun e => by
    obtain ⟨_, o, ho, hc⟩ := hr k e.symm
    rw [hk] at ho; cases ho; cases hc)
  refine ⟨h.ok, h.blk.keepB (hne b _ _ _ h.blk), h.st.keepB (hne bs _ _ _ h.st), row_keep h.row (fun k e => ?_), h.map.keep (hg.block bm h.map.lt (fun e => by have := (hr bm e.symm).1; omega))⟩
  rcases h.row.2 with ⟨rfl, _⟩ | ⟨g, cap, cur, rfl, _, hh, _⟩
  · simp [Value.ownBlock] at e
  · have hgk : g = k := by simpa [Value.ownBlock] using e
    subst hgk
    exact hne g _ _ _ hh
theorem SI_own (w : World) (b bs bm n : Nat) (pv : Value) (base off : Nat) (text : List UInt8) (half jb q : Nat) (d : DD) (B : Nat) (hB : w.heap.size ≤ B) (hbm : bm < w.heap.size) : OwnFrom B (SI w b bs bm n pv base off text half jb q d) := by
  intro s X Y row h hg hr
  obtain ⟨dc, pv', h1, h2, h3, h4, h5, h6, h7⟩ := h
  have hb : ∀ k cs t, Blk X k cs t → Blk Y k cs t := fun k cs t hk => (hg.block k hk.lt (fun e => by
    obtain ⟨_, o, ho, hc⟩ := hr k e.symm
    rw [show X.heap[k]? = _ from hk] at ho; cases ho; cases hc)).trans hk
  exact ⟨dc, pv', h1, h2, h3, disk_own h4 hg hr (by omega), h5.grown hg (fun k e hk => by have := (hr k e).1; omega), h6, hb _ _ _ h7.1, hb _ _ _ h7.2.1, hb _ _ _ h7.2.2.1, hb _ _ _ h7.2.2.2.1, hb _ _ _ h7.2.2.2.2.1, hb _ _ _ h7.2.2.2.2.2.1, hb _ _ _ h7.2.2.2.2.2.2⟩
/-- What store ends in. -/
def StPost (w : World) (b bs bm n : Nat) (pv : Value) (r : DD × Int) (e : Ending) (w' : World) : Prop :=
  DkTo w b bs bm n pv r.1 w' ∧ ((r.2 = 0 ∧ e = .returned (.tuple #[])) ∨ (r.2 ≠ 0 ∧ e = .panicked (bad r.2)))
end Go.Proofs.YthfjaaigncjhlaaGreatDoor

namespace Go.Proofs.YthfjaaigncjhlaaGreatDoor
open Go.RowKit Go.Blk Go.Jn Go.Dk Go.Mp Go.Rf Go.Shelf
attribute [local go_sem] Oper.semAt_some
theorem write_on {n s : Nat} {d : DD} {t : List UInt8} (hon : d.on = true) (hs : s < n) (ht : t.length = 32) (h : (DD.write n d (s : Int) t).2 = 0) : (DD.write n d (s : Int) t).1.on = true ∧ (DD.write n d (s : Int) t).1.pend.length = d.pend.length + 1 := by
  rcases write_ok (n := n) (d := d) (s := s) hon hs ht with ⟨hw, _⟩ | ⟨hw, _⟩
  · rw [hw]
    have ht := Go.Jn.tick_st (d.push (s : Int) t)
    refine ⟨ht.1.trans hon, ?_⟩
    show (d.push (s : Int) t).tick.pend.length = _
    rw [ht.2.2.1]
    show (d.pend ++ [_]).length = _
    simp
  · rw [hw] at h; exact absurd h (by show ¬ ((21 : Int) = 0); decide)
theorem tx_get (l : List UInt8) (j : Nat) (h : j < (tx l).size) (h2 : j < l.length) : (tx l)[j]'h = l[j]'h2 := rfl
section
variable {W W3 W4 : World} {b bs bm n B : Nat} {pv' : Value} {dc : DD}
theorem st_keep (hS : DiskAt W b bs bm pv' dc n) (hb : Below W.heap.size W W3) (hk : Keep (Fp b bs bm pv') W3 W4) (hbm : bm < B) :
    KeepsFrom B W W4 ∧ Keep (Fp b bs bm pv') W W4 := by
  have hK : Keep (Fp b bs bm pv') W W4 := Keep.trans (F := Fp b bs bm pv') (Keep.of_below hb) hk (fun _ _ f => f)
  refine ⟨⟨hK.size, fun k o hk1 ho hc => ?_⟩, hK⟩
  have hlt := (Array.getElem?_eq_some_iff.1 ho).1
  refine (hK.block k hlt ?_).trans ho
  rintro (rfl | rfl | rfl | e)
  · rw [show W.heap[k]? = _ from hS.blk] at ho; cases ho; cases hc
  · rw [show W.heap[k]? = _ from hS.st] at ho; cases ho; cases hc
  · omega
  · rcases hS.row.2 with ⟨rfl, _⟩ | ⟨g, cap, cur, rfl, _, hh, _⟩
    · simp [Value.ownBlock] at e
    · have hgk : g = k := by simpa [Value.ownBlock] using e
      subst hgk
      rw [hh] at ho; cases ho; cases hc
theorem blk_to {x : Nat} {cs : List Value} {T : TypeId} (hS : DiskAt W b bs bm pv' dc n) (hK : Keep (Fp b bs bm pv') W W4) (h : Blk W x cs T) (h1 : T ≠ 54) (h2 : T ≠ 5) (h3 : T ≠ 95) : Blk W4 x cs T :=
  h.keepB (hK.block x h.lt (notFp hS h h1 h2 h3))
end
section
variable {W w : World} {b bs bm n D : Nat} {pv pv' : Value} {dc : DD}
theorem notFp_deferred {x : Option (List Deferred)} (h : DiskAt W b bs bm pv' dc n) (hD : W.heap[D]? = some (.deferred x)) : ¬ Fp b bs bm pv' D := by
  rintro (rfl | rfl | rfl | e)
  · rw [show W.heap[D]? = _ from h.blk] at hD; cases hD
  · rw [show W.heap[D]? = _ from h.st] at hD; cases hD
  · obtain ⟨es, c, hm, _⟩ := h.map
    rw [hm] at hD; cases hD
  · rcases h.row.2 with ⟨rfl, _⟩ | ⟨g, cap, cur, rfl, _, hh, _⟩
    · simp [Value.ownBlock] at e
    · have hgk : g = D := by simpa [Value.ownBlock] using e
      subst hgk
      rw [hh] at hD; cases hD
theorem DkTo.put {x : Option (List Deferred)} (h : DkTo w b bs bm n pv dc W) (hD : W.heap[D]? = some (.deferred x)) (hw : w.heap.size ≤ D) (o : Obj := .deferred none) : DkTo w b bs bm n pv dc (W.putObj D o) := by
  obtain ⟨bm', pv', h1, h2, h3, h4⟩ := h
  have hk : Keep (fun k => k = D) W (W.putObj D o) := (Keep.refl _ W).grown (grownBy_putObj' W D o) (fun k e _ => by cases e; rfl)
  exact ⟨bm', pv', h1.keep hk (fun k hf e => notFp_deferred h1 hD (e ▸ hf)), h2.grown (grownBy_putObj' W D o) (fun k e hk => by cases e; omega), h3, h4⟩
end
theorem exec_conv {P : Program} {o : Oper} {ρ : Operand → Value} {w : World} {src dst e : TypeId} {x : Operand} {g cap : Nat} {l : List UInt8} (ho : o.op = .convert src dst x) (hx : ρ x = .slice (some ⟨g, 0, none⟩) l.length cap) (hs : P.underlying src = some (.slice e)) (he : P.underlying e = some (.int .u8)) (hd : P.underlying dst = some .string)
    (hc : ∀ j (hj : j < l.length), w.cell? ⟨g, j, none⟩ = some (C8 l[j])) : (execOp ρ o).run P w = .ok (.value (.string ⟨l.toArray⟩)) w := by
  have := run_convert_bytes_back (P := P) w src dst e ⟨g, 0, none⟩ cap l hs he hd (fun j hj => by rw [addr_add, Nat.zero_add]; exact hc j hj)
  unfold execOp
  simp only [ho, hx, Sem.run_bind, this, Result.andThen_ok, Sem.run_pure]
set_option maxRecDepth 100000 in
set_option maxHeartbeats 400000 in
theorem store_any {w : World} {jb b bs bm n a half off : Nat} {pv rv : Value} {br : Bool} {v : Nat × Nat × Nat} {d : DD} {text : List UInt8} (hd : DiskAt w b bs bm pv d n) (hon : text ≠ [] → d.on = true) (hn : 4 ≤ n) (hj : Blk w jb (cellsJ v a ((n - 2) / 2) b rv br) 63)
    (hh : half ≤ 1) (hroom : off + text.length ≤ 32 * ((n - 2) / 2)) (hpend : d.pend.length ≤ 900000) :
    Calls Tryz.prog 45 #[.pointer (some ⟨jb, 0, none⟩), .int .i64 (half : Int), .int .i64 (off : Int), .string (tx text)] w (StPost w b bs bm n pv (storeD n (2 + half * ((n - 2) / 2)) off text d)) := by
  have hn2 := hd.ok.n2
  obtain ⟨R, eR⟩ : ∃ R, R = StPost w b bs bm n pv (storeD n (2 + half * ((n - 2) / 2)) off text d) := ⟨_, rfl⟩
  rw [← eR]
  obtain ⟨size, es⟩ : ∃ size, size = (n - 2) / 2 := ⟨_, rfl⟩
  rw [← es] at hj hroom eR
  have hhs : half * size ≤ size := by
    have : half = 0 ∨ half = 1 := by omega
    rcases this with rfl | rfl <;> simp
  have HJ := Lib.hid hj
  have HJK := Lib.hid (fun (W : World) (pv' : Value) (hk : Keep (Fp b bs bm pv) w W) => hj.keepB (hk.block jb hj.lt (notFp hd hj (by decide) (by decide) (by decide))))
  have hbm : bm < w.heap.size := hd.map.lt
  have hjb : jb < w.heap.size := hj.lt
  by_cases ht : text = []
  · have F : Hid (∀ w', Below w.heap.size w w' → R (.returned (.tuple #[])) w') := fun w' hb => by
      rw [eR]
      unfold storeD
      rw [if_pos ht]
      exact ⟨⟨bm, pv, hd.below hb, Keep.of_below hb, .inl rfl, fun _ h => .inl h⟩, .inl ⟨rfl, rfl⟩⟩
    have q1 : ((tx text).toList == ([] : List UInt8)) = true := by rw [ht, ByteArray.toList_eq, tx_data]; rfl
    have q2 : (tx text).toList.isEmpty = true := by rw [ht, ByteArray.toList_eq, tx_data]; rfl
    have HBV : Hid (Below w.heap.size w (((w.alloc (.cells #[.pointer (some ⟨jb, 0, none⟩)] 29)).alloc (.cells #[.int .i64 (off : Int)] 3)).alloc (.cells #[.string (tx text)] 9))) := (((Below.refl _ w).alloc (Nat.le_refl _) _).alloc (by simp) _).alloc (by simp; omega) _
    obtain ⟨x, ex⟩ : ∃ x, x = tx text := ⟨_, rfl⟩
    rw [← ex] at HBV q1 q2 ⊢
    clear eR ex ht hd hj
    go_enter Tryz.func45, Tryz.ntmps45
    go_wp2_with fail
    first
      | exact F.out _ HBV.out
      | exact bodyPost_ret (results_none rfl _ _ _) rfl (F.out _ HBV.out)
  · have hne : (tx text).toList ≠ [] := by rw [ByteArray.toList_eq, tx_data]; exact ht
    have q1 : ((tx text).toList == ([] : List UInt8)) = false := by
      cases h : (tx text).toList with
      | nil => exact absurd h hne
      | cons _ _ => rfl
    have q2 : (tx text).toList.isEmpty = false := by
      cases h : (tx text).toList with
      | nil => exact absurd h hne
      | cons _ _ => rfl
    have q3 : ((tx text).toList = []) = False := eq_false hne
    have htl := tx_size text
    obtain ⟨x, ex⟩ : ∃ x, x = tx text := ⟨_, rfl⟩
    rw [← ex] at q1 q2 q3 htl ⊢
    have EX := Lib.hid ex
    have ER := Lib.hid eR
    have HD := Lib.hid hd
    have HT := Lib.hid ht
    clear hne ex eR hd ht hj
    have hmf : ∀ (fn : Fn) (first cap : Array Value) (w : World), (Instr.makeFunc fn first cap).run Tryz.prog w = .ok (.func fn first cap) w := fun _ _ _ _ => rfl
    refine calls_at 4 Tryz.func45 rfl ?_
    simp only [Tryz.ntmps45, List.size_toArray, List.length_cons, List.length_nil, Nat.reduceAdd, Nat.reduceSub, Array.replicate_succ, Array.replicate_zero, List.push_toArray, List.append_toArray, List.nil_append, List.cons_append]
    refine wpAt_seq (wpAt_of_wp ?_)
    go_wp2_with fail
    refine wpAt_seq (wpAt_of_wp ?_)
    go_wp2_with fail
    refine wpAt_seq (wpAt_seq (wpAt_of_wp ?_))
    go_wp2_with fail
    first
      | refine (sectors_any jb half off text.length).mono ?_
      | (rw [htl]; refine (sectors_any jb half off text.length).mono ?_)
    rintro e w' ⟨rfl, hw'⟩
    have HI0 : Hid (SI w b bs bm n pv (2 + half * size) off text half jb (w.heap.size + 3) d [] w') := by
      have hb3 : Below w.heap.size w (((w.alloc (.cells #[.pointer (some ⟨jb, 0, none⟩)] 29)).alloc (.cells #[.int .i64 (off : Int)] 3)).alloc (.cells #[.string x] 9)) := (((Below.refl _ w).alloc (Nat.le_refl _) _).alloc (by simp) _).alloc (by simp; omega) _
      have hb : Below w.heap.size w w' := by
        rw [hw']
        exact (((hb3.alloc (by simp; omega) _).alloc (by simp; omega) _).alloc (by simp; omega) _).alloc (by simp; omega) _
      refine ⟨d, pv, fun _ => rfl, hon HT.out, by simp, HD.out.below hb, Keep.of_below hb, fun _ h => .inl h, ?_⟩
      rw [hw']
      refine ⟨?_, ?_, ?_, ?_, ?_, ?_, ?_⟩
      · exact old_at (old_at (old_at (old_at (old_at (old_at (new_at rfl))))))
      · exact old_at (old_at (old_at (old_at (old_at (new_at (by simp))))))
      · rw [← EX.out]; exact old_at (old_at (old_at (old_at (new_at (by simp)))))
      · exact new_at (by simp)
      · exact old_at (new_at (by simp))
      · exact old_at (old_at (new_at (by simp)))
      · exact old_at (old_at (old_at (new_at (by simp))))
    have hsz : w'.heap.size = w.heap.size + 7 := by rw [hw']; simp
    clear hw'
    go_wp2_with fail
    have hq : ∃ q, q = w.heap.size + 1 + 1 + 1 := ⟨_, rfl⟩
    obtain ⟨q, eq⟩ := hq
    rw [show w.heap.size + 3 = w.heap.size + 1 + 1 + 1 from rfl, ← eq] at HI0
    rw [← eq]
    have hqq : q = w.heap.size + 3 := eq
    clear eq
    have HSA : Hid (SecAt w' (q + 3) (q + 2) (q + 1) q jb text.length off half size) := by
      obtain ⟨dc, pv', _, _, _, _, h5, _, _, _, _, h10, h11, h12, h13⟩ := HI0.out
      exact ⟨h10.cellD 0 _ rfl, h11.cellD 0 _ rfl, h12.cellD 0 _ rfl, h13.cellD 0 _ rfl, (HJK.out w' pv' h5).cellD 4 _ rfl⟩
    obtain ⟨base, eb⟩ : ∃ base, base = 2 + half * size := ⟨_, rfl⟩
    have EB := Lib.hid eb
    rw [← eb] at HI0 ER
    have hbase : base + size ≤ n := by omega
    clear eb
    refine wpAt_block ?_
    refine wp_rangeP (α := Nat) (n := 4) (encs := encK base) (F := FI q jb) (gf := 76) rfl (enters_of Tryz.func76 (by kernel_rfl) rfl) (fun k hk => ⟨by omega, by omega, by omega, by omega, by omega⟩)
      (EB.out ▸ sectors_seq 3 (q + 3) (q + 2) (q + 1) q jb (by decide) (FI q jb) half off text.length size (fun h => h.1 rfl) (fun h => h.2.1 rfl) (fun h => h.2.2.1 rfl) (fun h => h.2.2.2.1 rfl) (fun h => h.2.2.2.2 rfl) hh (by omega) (by omega) (by omega) w' HSA.out) (fun _ => rfl)
      (SI w b bs bm n pv base off text half jb q d) (fun ch W => (storeGo n base off text (ksOf off text.length) d).2 ≠ 0 ∧ ch = bad (storeGo n base off text (ksOf off text.length) d).2 ∧ DkTo w b bs bm n pv (storeGo n base off text (ksOf off text.length) d).1 W) (SI_own w b bs bm n pv base off text half jb q d _ (by omega) hbm) HI0.out ?a1 ?assign ?body ?done ?panic
    case assign =>
      intro l x W K hK
      gi_wp2
      exact hK
    case body =>
      clear HI0 HSA
      go_light
      rintro l pre k W hSI hNx
      obtain ⟨dc, pv', h1, h2, h3, h4, h5, h6, b0, b1, b2, b3, b4, b5, b6⟩ := hSI
      obtain ⟨rest, hks⟩ := hNx
      have hk : k < (off + text.length + 31) / 32 ∧ off / 32 ≤ k := by
        have : k ∈ ksOf off text.length := by rw [← hks]; simp
        unfold ksOf at this
        rw [List.mem_range'_1] at this
        omega
      have hpre : pre.length ≤ 4000 := by
        have h1 : (ksOf off text.length).length = _ := List.length_range'
        have h2 := congrArg List.length hks
        rw [h1] at h2
        simp at h2; omega
      obtain ⟨s, hse⟩ : ∃ s : Nat, s = base + k := ⟨_, rfl⟩
      obtain ⟨z, hze⟩ : ∃ z : Nat, z = 32 * k := ⟨_, rfl⟩
      have es : (s : Int) = (base : Int) + (k : Int) := by omega
      have ez : (z : Int) = 32 * (k : Int) := by omega
      have hsn : s < n := by omega
      have hz1 : z ≤ 100000 := by omega
      have hon2 : off ≤ 100000 := by omega
      obtain ⟨t, et⟩ : ∃ t, t = sec (eff dc) s := ⟨_, rfl⟩
      have htl32 : t.length = 32 := by rw [et]; exact sec_len (by rw [eff_len h4.ok]; omega)
      have hjW := HJK.out W pv' h5
      have RD := Lib.hid (jread_on (jb := jb) (w := W) (hjW.cellD 5 _ rfl) h4 h2 s hsn)
      rw [← et] at RD
      have EQN : Hid (storeGo n base off text (ksOf off text.length) d = if (DD.write n dc (s : Int) (patch t z off text)).2 = 0 then storeGo n base off text rest (DD.write n dc (s : Int) (patch t z off text)).1 else DD.write n dc (s : Int) (patch t z off text)) := by
        show _ = _
        rw [← hks, List.append_assoc, h1, List.singleton_append]
        have hr := read_eff h4.ok h2 hsn
        rw [hse] at hr et
        show (if _ then _ else _) = _
        rw [hr, if_pos rfl, hse, hze, et]
      have EQ2 : Hid (∀ rest, storeGo n base off text ((pre ++ [k]) ++ rest) d = if (DD.write n dc (s : Int) (patch t z off text)).2 = 0 then storeGo n base off text rest (DD.write n dc (s : Int) (patch t z off text)).1 else DD.write n dc (s : Int) (patch t z off text)) := fun rest => by
        rw [List.append_assoc, h1, List.singleton_append]
        have hr := read_eff h4.ok h2 hsn
        rw [hse] at hr et
        show (if _ then _ else _) = _
        rw [hr, if_pos rfl, hse, hze, et]
      have H2 := Lib.hid h2
      have H3 : Hid (dc.pend.length ≤ d.pend.length + pre.length ∧ dc.pend.length < 1000000) := ⟨h3, by omega⟩
      have H4 := Lib.hid h4
      have H5 := Lib.hid h5
      have H6 := Lib.hid h6
      have HB := Lib.hid (And.intro b0 (And.intro b1 (And.intro b2 (And.intro b3 (And.intro b4 (And.intro b5 b6))))))
      have HSZ : Hid (w.heap.size + 7 ≤ W.heap.size) := by
        have := b3.lt
        show _ ≤ _
        omega
      have HJW := Lib.hid hjW
      have c0 := b0.cellD 0 _ rfl
      have c1 := b1.cellD 0 _ rfl
      have c2 := b2.cellD 0 _ rfl
      rw [← EX.out] at c2
      obtain ⟨y, ey⟩ : ∃ y, y = tx t := ⟨_, rfl⟩
      have hys : y.size = 32 := by rw [ey, tx_size, htl32]
      obtain ⟨cap, hcap⟩ : ∃ cap, cap = grownCap W y.size 0 5 := ⟨_, rfl⟩
      have hcv := run_bytes_of_string (P := Tryz.prog) W 9 50 5 y Tryz.underlying9 Tryz.underlying50 Tryz.underlying5
      obtain ⟨W2, eW2⟩ : ∃ W2, W2 = W.drew.alloc (.cells (bytesRow y (grownCap W y.size 0 5)) 5 ((bytesRow y (grownCap W y.size 0 5)).size, (bytesRow y (grownCap W y.size 0 5)).size + 1)) := ⟨_, rfl⟩
      have HBY : Hid (BytF W2 W.heap.size t) := by
        rw [eW2, ey]
        exact (bytF_new W t).choose_spec.1
      have HB2 : Hid (Below W.heap.size W W2) := by rw [eW2]; exact (drewN_below W 1).alloc (Nat.le_refl _) _
      rw [← eW2, ← hcap, hys] at hcv
      rw [← ey] at RD
      rw [← es, ← ez]
      have HSX := Lib.hid hse
      have HZX := Lib.hid hze
      have HKS := Lib.hid hks
      clear h1 h2 h3 h4 h5 h6 b0 b1 b2 b3 b4 b5 b6 hks hk hse hze es ez hjW ey eW2 hcap et hys
      gi_wp2
      refine ⟨trivial, Free.calls_in ?_⟩
      refine RD.out.mono ?_
      rintro e w2 ⟨rfl, rfl⟩
      gi_wp2
      have e1 : W2.cell? ⟨w.heap.size + 1, 0, none⟩ = some (.int .i64 (off : Int)) := cell_grw c1 HB2.out
      have e2 : W2.cell? ⟨w.heap.size + 1 + 1, 0, none⟩ = some (.string x) := cell_grw c2 HB2.out
      have E1 := Lib.hid e1
      have E2 := Lib.hid e2
      have HST : Hid (BytF W2 W.heap.size (patT t z off text 0) ∧ Keep (fun k => k = W.heap.size) W2 W2) := ⟨by rw [patT_zero]; exact HBY.out, Keep.refl _ _⟩
      clear c0 c1 c2 e1 e2 hcv RD
      gi_loopw [29] (fun vi wr => ∃ i : Nat, vi = .int .i64 (i : Int) ∧ i ≤ 32 ∧ BytF wr W.heap.size (patT t z off text i) ∧ Keep (fun k => k = W.heap.size) W2 wr) (fun vi _ => 32 - (intOf vi).toNat)
      case atStart => exact ⟨0, rfl, by decide, HST.out.1, HST.out.2⟩
      case round =>
        clear HST
        obtain ⟨i, rfl, hi, hby, hk⟩ := hrel
        have d1 := keep_cell E1.out hk (by show ¬ w.heap.size + 1 = W.heap.size; have := HSZ.out; omega)
        have d2 := keep_cell E2.out hk (by show ¬ w.heap.size + 1 + 1 = W.heap.size; have := HSZ.out; omega)
        have BY := Lib.hid hby
        have HK := Lib.hid hk
        clear hby hk
        by_cases hlt : i < 32
        · have t1 : decide ((i : Int) < 32) = true := decide_eq_true (by omega)
          by_cases ha : off ≤ z + i ∧ z + i < off + text.length
          · have t2 : decide ((0 : Int) ≤ (z : Int) + (i : Int) - (off : Int)) = true := decide_eq_true (by omega)
            have t3 : decide ((z : Int) + (i : Int) - (off : Int) < (text.length : Int)) = true := decide_eq_true (by omega)
            have hxs : (z : Int) + (i : Int) - (off : Int) < (x.size : Int) := by rw [htl]; omega
            have bd := BY.out.cell i (by rw [patT_len, htl32]; exact hlt)
            have bf := BY.out.frozen i (by rw [patT_len, htl32]; exact hlt)
            have FX : Hid (∀ v, v = C8 (text[z + i - off]'(by omega)) → BytF (wr.setCell ⟨W.heap.size, i, none⟩ v) W.heap.size (patT t z off text (i + 1))) := fun v hv => by
              rw [hv, patT_in (t := t) (start := z) (off := off) (text := text) (by rw [htl32]; exact hlt) ha.1 (List.getElem?_eq_getElem (by omega))]
              exact BY.out.set i (by rw [patT_len, htl32]; exact hlt) _
            have EV : Hid (∀ h, Value.int .u8 (((x[z + i - off]'h).toNat : Nat) : Int) = C8 (text[z + i - off]'(by omega))) := fun h => by
              have e1 : x[z + i - off]'h = text[z + i - off]'(by omega) := by
                have := EX.out
                subst this
                exact tx_get _ _ _ _
              rw [e1]; rfl
            gi_wp2
            exact ⟨⟨i + 1, by simp, by omega, FX.out _ (EV.out _), HK.out.setCell (p := ⟨W.heap.size, i, none⟩) (fun _ => rfl) _⟩, by simp [intOf]; omega⟩
          · by_cases ha1 : off ≤ z + i
            · have t2 : decide ((0 : Int) ≤ (z : Int) + (i : Int) - (off : Int)) = true := decide_eq_true (by omega)
              have t3 : decide ((z : Int) + (i : Int) - (off : Int) < (text.length : Int)) = false := decide_eq_false (by omega)
              have BY2 : Hid (BytF wr W.heap.size (patT t z off text (i + 1))) := by
                show BytF _ _ _
                rw [patT_out (by rw [htl32]; exact hlt) ha]; exact BY.out
              gi_wp2
              exact ⟨⟨i + 1, by simp, by omega, BY2.out, HK.out⟩, by simp [intOf]; omega⟩
            · have t2 : decide ((0 : Int) ≤ (z : Int) + (i : Int) - (off : Int)) = false := decide_eq_false (by omega)
              have BY2 : Hid (BytF wr W.heap.size (patT t z off text (i + 1))) := by
                show BytF _ _ _
                rw [patT_out (by rw [htl32]; exact hlt) ha]; exact BY.out
              gi_wp2
              exact ⟨⟨i + 1, by simp, by omega, BY2.out, HK.out⟩, by simp [intOf]; omega⟩
        · have t1 : decide ((i : Int) < 32) = false := decide_eq_false (by omega)
          have HPA : Hid (BytF wr W.heap.size (patch t z off text)) := by
            have := BY.out
            rw [patT_all _ _ _ _ _ (by omega)] at this
            exact this
          have HBW : Hid (Below W.heap.size W wr) := HB2.out.trans (HK.out.below (fun k e => by rw [e]; exact Nat.le_refl _) HB2.out.size)
          have g0 : wr.cell? ⟨w.heap.size, 0, none⟩ = some (.pointer (some ⟨jb, 0, none⟩)) := cell_grw (HB.out.1.cellD 0 _ rfl) HBW.out
          have g1 : wr.cell? ⟨jb, 5, none⟩ = some (.pointer (some ⟨b, 0, none⟩)) := cell_grw (HJW.out.cellD 5 _ rfl) HBW.out
          have hpl : (patch t z off text).length = 32 := by rw [patch_len, htl32]
          obtain ⟨pt, ept⟩ : ∃ pt, pt = patch t z off text := ⟨_, rfl⟩
          rw [← ept] at HPA hpl
          clear BY HK d1 d2
          gi_wp2
          refine Free.wpIn_region_freeT (.inr ⟨l, rfl⟩) 7 [] (fun y => Below wr.heap.size wr y ∧ y.cell? ⟨w.heap.size, 0, none⟩ = some (.pointer (some ⟨jb, 0, none⟩)) ∧ y.cell? ⟨jb, 5, none⟩ = some (.pointer (some ⟨b, 0, none⟩)) ∧ BytF y W.heap.size pt) (by kernel_rfl) (by kernel_rfl) (by kernel_rfl) (Free.mono_det (fun j mk r hf => by cases hf)) ⟨(Below.refl _ _).drew, g0, g1, HPA.out.keep rfl⟩
            (fun _ _ h g => ⟨h.1.trans (Below.mono g h.1.size), cell_grw h.2.1 g, cell_grw h.2.2.1 g, h.2.2.2.keep (g.block _ h.2.2.2.lt)⟩) ?_
          simp only [List.take_succ_cons, List.take_zero]
          clear g0 g1
          iterate 6 (apply Free.chain_still (by first | exact Free.wanted_of rfl rfl rfl | rfl) rfl; (intro w' hB hA; obtain ⟨qB, q0, q1, qY⟩ := hB; clear hA  qB qY; go_light; go_simp <;> rfl); (try simp only [Act.put, List.setIfInBounds_toArray, List.set_cons_succ, List.set_cons_zero]))
          apply Free.chain_still (by first | exact Free.wanted_of rfl rfl rfl | rfl) rfl
          · intro w' hB hA
            exact exec_conv (l := pt) (cap := cap) rfl (by rw [hpl]; rfl) Tryz.underlying50 Tryz.underlying5 Tryz.underlying9 (fun j hj => hB.2.2.2.cell j hj)
          simp only [Act.put, List.setIfInBounds_toArray, List.set_cons_succ, List.set_cons_zero]
          apply Free.chain_nil
          intro wz hBz _ _
          simp only [List.drop_succ_cons, List.drop_zero]
          have HBZ := Lib.hid (HBW.out.trans (hBz.1.mono HBW.out.size))
          clear hBz HPA
          have WR := Lib.hid (write_any2 (H4.out.below HBZ.out) (s : Int) (tx pt) H3.out.2)
          rw [tx_data] at WR
          have HRW : Hid (DD.write n dc (s : Int) pt = DD.write n dc (s : Int) (patch t z off text)) := by show _ = _; rw [ept]
          have EW := Lib.hid (write_on (n := n) (d := dc) (s := s) (t := pt) H2.out hsn hpl)
          obtain ⟨r, er⟩ : ∃ r, r = DD.write n dc (s : Int) pt := ⟨_, rfl⟩
          rw [← er] at WR HRW EW
          have EN := EQN.out
          rw [← HRW.out] at EN
          have EN2 := EQ2.out
          rw [← HRW.out] at EN2
          have EN := Lib.hid EN
          have EN2 := Lib.hid EN2
          clear EQN EQ2 HRW ept er
          obtain ⟨r1, c⟩ := r
          dsimp only at WR EW EN EN2
          obtain ⟨yt, eyt⟩ : ∃ yt : ByteArray, yt = ⟨pt.toArray⟩ := ⟨_, rfl⟩
          have WR : Hid (Calls Tryz.prog 23 #[.pointer (some ⟨b, 0, none⟩), .int .i64 (s : Int), .string yt] wz (DkPost2 wz b bs bm n pv' r1 (.int .i64 c))) := by rw [eyt]; exact WR.out
          rw [← eyt]
          clear eyt
          gi_wp2
          refine ⟨trivial, Free.calls_in ?_⟩
          refine WR.out.mono ?_
          rintro e w5 ⟨rfl, bm5, pv5, h5, k5, hb5, hp5, hm5⟩
          obtain ⟨kf, kk⟩ := st_keep (B := w'.heap.size) H4.out HBZ.out k5 (by omega)
          have HK5 : Hid (Keep (Fp b bs bm pv) w w5) := H5.out.trans kk (fun j hj f => fp_more (.inl rfl) H6.out j hj f)
          have HP5 : Hid (∀ j, pv5.ownBlock = some j → pv.ownBlock = some j ∨ w.heap.size ≤ j) := fun j hj => by
            rcases hp5 j hj with h | h
            · exact H6.out j h
            · have h1 := HBZ.out.size
              have h2 := HSZ.out
              exact .inr (by omega)
          by_cases hc0 : c = 0
          · subst hc0
            obtain rfl := hm5 rfl
            have FIN : Hid (KeepsFrom w'.heap.size W w5 ∧ Keep (FI q jb) W w5 ∧ SI w b bs bm5 n pv base off text half jb q d (pre ++ [k]) w5) := by
              obtain ⟨b0, b1, b2, b3, b4, b5, b6⟩ := HB.out
              have n3 := blk_to H4.out kk b3 (by decide) (by decide) (by decide)
              have n4 := blk_to H4.out kk b4 (by decide) (by decide) (by decide)
              have n5 := blk_to H4.out kk b5 (by decide) (by decide) (by decide)
              have n6 := blk_to H4.out kk b6 (by decide) (by decide) (by decide)
              have nj := blk_to H4.out kk HJW.out (by decide) (by decide) (by decide)
              refine ⟨kf, ⟨kk.os, kk.tape, kk.output, kk.size, fun j hj hF => ?_⟩, ?_⟩
              · have : j = q + 3 ∨ j = q + 2 ∨ j = q + 1 ∨ j = q ∨ j = jb := by unfold FI at hF; omega
                rcases this with rfl | rfl | rfl | rfl | rfl
                · exact n3.trans b3.symm
                · exact n4.trans b4.symm
                · exact n5.trans b5.symm
                · exact n6.trans b6.symm
                · exact nj.trans HJW.out.symm
              · obtain ⟨e1, e2⟩ := EW.out rfl
                refine ⟨r1, pv5, fun rest => by rw [EN2, if_pos rfl], e1, by rw [e2, List.length_append]; have := H3.out.1; simp; omega, h5, HK5.out, HP5.out, blk_to H4.out kk b0 (by decide) (by decide) (by decide), blk_to H4.out kk b1 (by decide) (by decide) (by decide), blk_to H4.out kk b2 (by decide) (by decide) (by decide), n3, n4, n5, n6⟩
            clear h5 k5 hb5 hp5 hm5 kf kk HK5 HP5 WR EN EN2
            gi_wp2
            refine ⟨trivial, Free.calls_in ?_⟩
            refine (check_ok _).mono ?_
            rintro e w6 ⟨rfl, rfl⟩
            gi_wp2
            exact FIN.out
          · have hcb : (c == 0) = false := by simpa using hc0
            have EN3 : Hid (storeGo n base off text (ksOf off text.length) d = (r1, c)) := by
              have := EN
              rw [if_neg hc0] at this
              exact this
            have FIN : Hid (KeepsFrom w'.heap.size W w5 ∧ (storeGo n base off text (ksOf off text.length) d).2 ≠ 0 ∧ bad c = bad (storeGo n base off text (ksOf off text.length) d).2 ∧ DkTo w b bs bm n pv (storeGo n base off text (ksOf off text.length) d).1 w5) := by
              rw [EN3.out]
              refine ⟨kf, hc0, rfl, bm5, pv5, h5, HK5.out, ?_, HP5.out⟩
              have h1 := HBZ.out.size
              have h2 := HSZ.out
              exact hb5.imp id (fun h => by omega)
            clear h5 k5 hb5 hp5 hm5 kf kk HK5 HP5 WR EN EN2 EN3
            gi_wp2
            refine ⟨trivial, Free.calls_in ?_⟩
            refine (check_bad c _ hcb).mono ?_
            rintro e w6 ⟨rfl, rfl⟩
            gi_wp2
            exact ⟨FIN.out.1, rfl, FIN.out.2⟩
    case panic =>
      intro D ch W hD hp hmk
      obtain ⟨h1, rfl, h3⟩ := hp
      refine ⟨by simp, .inl ⟨D, _, rfl, run_takeDeferred hmk, ?_⟩⟩
      show R _ _
      rw [ER.out]
      have e1 : storeD n base off text d = storeGo n base off text (ksOf off text.length) d := by unfold storeD; rw [if_neg HT.out]
      rw [e1]
      exact ⟨h3.put hmk (by omega), .inr ⟨h1, rfl⟩⟩
    case done =>
      clear HI0 HSA
      go_light
      rintro D xs W hD hxs hSI hmk
      obtain ⟨dc, pv', h1, h2, h3, h4, h5, h6, b0, b1, b2, b3, b4, b5, b6⟩ := hSI
      have hl : ¬ text.length = 0 := fun e => HT.out (List.length_eq_zero_iff.1 e)
      rw [if_neg hl] at hxs
      have EQ : Hid (storeD n base off text d = dc.sync) := by
        show _ = _
        unfold storeD
        rw [if_neg HT.out, ← hxs]
        have := h1 []
        rw [List.append_nil] at this
        exact this
      have SY := Lib.hid (sync_any h4)
      have c0 := b0.cellD 0 _ rfl
      have c1 := (HJK.out W pv' h5).cellD 5 _ rfl
      have FIN : Hid (∀ w5 e, DkPost W b bs bm n pv' dc.sync.1 (.int .i64 dc.sync.2) e w5 → DkTo w b bs bm n pv (storeD n base off text d).1 w5 ∧ w5.heap[D]? = some (.deferred (some []))) := fun w5 e hp => by
        obtain ⟨_, bm5, pv5, k1, k2, k3, k4⟩ := hp
        rw [EQ.out]
        refine ⟨DkTo.after h5 (.inl rfl) h6 ⟨bm5, pv5, k1, k2, k3, k4⟩, ?_⟩
        exact (k2.block D (Array.getElem?_eq_some_iff.1 hmk).1 (notFp_deferred h4 hmk)).trans hmk
      have FR : Hid (∀ w5, DkTo w b bs bm n pv (storeD n base off text d).1 w5 → (storeD n base off text d).2 = 0 → R (.returned (.tuple #[])) w5) := fun w5 h e => by rw [ER.out]; exact ⟨h, .inl ⟨e, rfl⟩⟩
      have FQ : Hid (∀ w5, DkTo w b bs bm n pv (storeD n base off text d).1 w5 → (storeD n base off text d).2 ≠ 0 → R (.panicked (bad (storeD n base off text d).2)) w5) := fun w5 h e => by rw [ER.out]; exact ⟨h, .inr ⟨e, rfl⟩⟩
      rw [← EQ.out] at SY FIN
      obtain ⟨r, er⟩ : ∃ r, r = storeD n base off text d := ⟨_, rfl⟩
      rw [← er] at SY FIN FR FQ
      clear h1 h2 h3 h4 h5 h6 b0 b1 b2 b3 b4 b5 b6 EQ er ER
      obtain ⟨r1, c⟩ := r
      have SY : Hid (Calls Tryz.prog 26 #[.pointer (some ⟨b, 0, none⟩)] W (DkPost W b bs bm n pv' r1 (.int .i64 c))) := SY.out
      refine wpAt_of_wp (n := 4) ?_
      go_wp2_with fail
      refine SY.out.mono ?_
      intro e w5 hp
      obtain rfl := hp.1
      obtain ⟨f1, f2⟩ := FIN.out w5 _ hp
      have F1 := Lib.hid f1
      have F2 := Lib.hid f2
      clear hp f1 f2 FIN
      by_cases hc0 : c = 0
      · have G := Lib.hid (FR.out _ (F1.out.put F2.out (by omega)) hc0)
        subst hc0
        go_wp2_with fail
        refine (check_ok _).mono ?_
        rintro e w6 ⟨rfl, rfl⟩
        go_wp2_with fail
        refine ⟨by simp, .inl ⟨D, _, rfl, run_takeDeferred F2.out, ?_⟩⟩
        exact ⟨_, results_none rfl _ _ _, G.out⟩
      · have hcb : (c == 0) = false := by simpa using hc0
        have G := Lib.hid (FQ.out _ (F1.out.put F2.out (by omega)) hc0)
        go_wp2_with fail
        refine (check_bad c _ hcb).mono ?_
        rintro e w6 ⟨rfl, rfl⟩
        go_wp2_with fail
        refine ⟨by simp, .inl ⟨D, _, rfl, run_takeDeferred F2.out, ?_⟩⟩
        exact G.out
end Go.Proofs.YthfjaaigncjhlaaGreatDoor

namespace Go.Proofs.YthfjaaigncjhlaaGreatDoor
open Go.RowKit Go.Blk Go.Jn Go.Dk Go.Mp Go.Rf Go.Shelf

section
variable {w w1 w2 : World} {b bs bm n : Nat} {pv : Value} {d d0 : DD}
theorem DkTo.refl (h : DiskAt w b bs bm pv d n) : DkTo w b bs bm n pv d w := ⟨bm, pv, h, Keep.refl _ _, .inl rfl, fun _ h => .inl h⟩
theorem DkTo.below (h : DkTo w b bs bm n pv d w1) (hb : Below w1.heap.size w1 w2) : DkTo w b bs bm n pv d w2 := by
  obtain ⟨bm', pv', h1, h2, h3, h4⟩ := h
  exact ⟨bm', pv', h1.below hb, h2.trans (G := fun _ => False) (Keep.of_below hb) (fun _ _ f => f.elim), h3, h4⟩
theorem DkTo.blk {x : Nat} {cs : List Value} {T : TypeId} (hd : DiskAt w b bs bm pv d0 n) (h : DkTo w b bs bm n pv d w1) (hx : Blk w x cs T) (h1 : T ≠ 54) (h2 : T ≠ 5) (h3 : T ≠ 95) : Blk w1 x cs T := by
  obtain ⟨bm', pv', _, k, _, _⟩ := h
  exact hx.keepB (k.block x hx.lt (notFp hd hx h1 h2 h3))
theorem DkTo.size (h : DkTo w b bs bm n pv d w1) : w.heap.size ≤ w1.heap.size := by obtain ⟨bm', pv', _, k, _, _⟩ := h; exact k.size
theorem dk_write (h : DkTo w b bs bm n pv d w1) (s : Int) (t : ByteArray) (hf : d.pend.length < 1000000) : Calls Tryz.prog 23 #[.pointer (some ⟨b, 0, none⟩), .int .i64 s, .string t] w1 fun e w' => e = .returned (.int .i64 (DD.write n d s t.data.toList).2) ∧ DkTo w b bs bm n pv (DD.write n d s t.data.toList).1 w' := by
  obtain ⟨bm', pv', h1, h2, h3, h4⟩ := h
  exact (write_any h1 s t hf).mono fun e w' hp => ⟨hp.1, DkTo.after h2 h3 h4 hp.2⟩
theorem dk_sync (h : DkTo w b bs bm n pv d w1) : Calls Tryz.prog 26 #[.pointer (some ⟨b, 0, none⟩)] w1 fun e w' => e = .returned (.int .i64 d.sync.2) ∧ DkTo w b bs bm n pv d.sync.1 w' := by
  obtain ⟨bm', pv', h1, h2, h3, h4⟩ := h
  exact (sync_any h1).mono fun e w' hp => ⟨hp.1, DkTo.after h2 h3 h4 hp.2⟩
end
/-- A world behind one where the variable holds its numbers; the disk's blocks are younger than that one. -/
structure En (w0 w : World) (b bs bm : Nat) (pv : Value) : Prop where
  t : HasT w0
  bl : Below w0.heap.size w0 w
  f : ∀ k, Fp b bs bm pv k → w0.heap.size ≤ k
section
variable {w0 w w1 : World} {b bs bm n : Nat} {pv : Value} {d : DD}
theorem En.h (e : En w0 w b bs bm pv) : HasT w := e.t.below e.bl (Nat.le_refl _)
theorem En.to (e : En w0 w b bs bm pv) (h : DkTo w b bs bm n pv d w1) : HasT w1 := by
  obtain ⟨bm', pv', _, k, _, _⟩ := h
  exact e.t.below (e.bl.trans (k.below e.f e.bl.size)) (Nat.le_refl _)
theorem En.grow (e : En w0 w b bs bm pv) (hb : Below w.heap.size w w1) : En w0 w1 b bs bm pv := ⟨e.t, e.bl.trans (hb.mono e.bl.size), e.f⟩
end
def CmPost (w : World) (jb b bs bm n a size half len : Nat) (pv rv : Value) (br : Bool) (v : Nat × Nat × Nat) (r : DD × Int) (e : Ending) (w' : World) : Prop :=
  (r.2 = 0 ∧ e = .returned (.tuple #[]) ∧ (∃ bm' pv', DiskAt w' b bs bm' pv' r.1 n ∧ Keep (fun k => k = jb ∨ Fp b bs bm pv k) w w' ∧ (bm' = bm ∨ w.heap.size ≤ bm') ∧ (∀ k, pv'.ownBlock = some k → pv.ownBlock = some k ∨ w.heap.size ≤ k)) ∧
      Blk w' jb (cellsJ (v.1 + 1, half, len) (1 - a) size b rv br) 63) ∨
    (r.2 ≠ 0 ∧ e = .panicked (bad r.2) ∧ DkTo w b bs bm n pv r.1 w')
theorem sync_few {d : DD} (h : d.sync.2 = 0) : d.sync.1.pend = [] := by
  unfold DD.sync at h ⊢
  split
  · rename_i h2
    rw [if_pos h2] at h
    split
    · rename_i h3
      rw [if_pos h3] at h
      exact absurd h (by show ¬ ((21 : Int) = 0); decide)
    · rfl
  · rename_i h2
    rw [if_neg h2] at h
    exact absurd h (by show ¬ ((21 : Int) = 0); decide)
set_option maxRecDepth 100000 in
set_option maxHeartbeats 400000 in
theorem commit_any {w0 w : World} {jb b bs bm n a half len : Nat} {pv rv : Value} {br : Bool} {v : Nat × Nat × Nat} {d : DD} (hd : DiskAt w b bs bm pv d n) (hj : Blk w jb (cellsJ v a ((n - 2) / 2) b rv br) 63)
    (ha : a ≤ 1) (hh : half ≤ 1) (hl : len ≤ 999999) (hnum : v.1 < 999999999) (hfew : d.pend.length < 1000000) (hE : En w0 w b bs bm pv) :
    Calls Tryz.prog 46 #[.pointer (some ⟨jb, 0, none⟩), .int .i64 (half : Int), .int .i64 (len : Int)] w (CmPost w jb b bs bm n a ((n - 2) / 2) half len pv rv br v (commitD n a v.1 half len d)) := by
  have hn2 := hd.ok.n2
  obtain ⟨num, h0, l0⟩ := v
  dsimp only at hnum ⊢
  obtain ⟨size, es⟩ : ∃ size, size = (n - 2) / 2 := ⟨_, rfl⟩
  rw [← es] at hj ⊢
  obtain ⟨R, eR⟩ : ∃ R, R = CmPost w jb b bs bm n a size half len pv rv br (num, h0, l0) (commitD n a num half len d) := ⟨_, rfl⟩
  rw [← eR]
  obtain ⟨s, hse⟩ : ∃ s, s = 1 - a := ⟨_, rfl⟩
  have hsi : (1 : Int) - (a : Int) = (s : Int) := by omega
  have ES := Lib.hid hse
  have HD := Lib.hid hd
  have HE := Lib.hid hE
  have HJ := Lib.hid hj
  have ER := Lib.hid eR
  have c3 := hj.cellD 3 _ rfl
  have c5 := hj.cellD 5 _ rfl
  have BB := Lib.hid (fun w => blank_any w)
  obtain ⟨bl, ebl⟩ : ∃ bl, bl = tx (List.replicate 32 0) := ⟨_, rfl⟩
  rw [← ebl] at BB
  have EBL : Hid (bl.data.toList = blankL) := by show _ = _; rw [ebl, tx_data]; rfl
  have hval : (Tryz.prog.info? 61).map (·.size) = some 3 := by kernel_rfl
  have TX := Lib.hid (fun w hT => text_any (num + 1) half len w (by omega) hh hl hT)
  obtain ⟨tv, etv⟩ : ∃ tv, tv = tx (vt (num + 1) half len) := ⟨_, rfl⟩
  rw [← etv] at TX
  have ETV : Hid ((tv ++ tv).data.toList = vt (num + 1) half len ++ vt (num + 1) half len) := by show _ = _; rw [etv, tx_append, tx_data]
  have htv : tv.size ≤ 1000 := by rw [etv, tx_size, vt_len (by omega) hh hl]; decide
  obtain ⟨vv, evv⟩ : ∃ vv, vv = vt (num + 1) half len ++ vt (num + 1) half len := ⟨_, rfl⟩
  rw [← evv] at ETV
  obtain ⟨p1, e1⟩ : ∃ p1, p1 = DD.write n d (s : Int) blankL := ⟨_, rfl⟩
  obtain ⟨p2, e2⟩ : ∃ p2, p2 = p1.1.sync := ⟨_, rfl⟩
  obtain ⟨p3, e3⟩ : ∃ p3, p3 = DD.write n p2.1 (s : Int) vv := ⟨_, rfl⟩
  obtain ⟨p4, e4⟩ : ∃ p4, p4 = p3.1.sync := ⟨_, rfl⟩
  have hput : ∀ (d : DD) (t : List UInt8), putD n s t d = if (DD.write n d (s : Int) t).2 = 0 then (DD.write n d (s : Int) t).1.sync else DD.write n d (s : Int) t := fun _ _ => rfl
  have hcm : commitD n a num half len d = if (putD n s blankL d).2 = 0 then putD n s vv (putD n s blankL d).1 else putD n s blankL d := by rw [evv, hse]; rfl
  have FB1 : Hid (p1.2 ≠ 0 → ∀ w', DkTo w b bs bm n pv p1.1 w' → R (.panicked (bad p1.2)) w') := fun h w' hw => by
    rw [eR, hcm, hput, ← e1, if_neg h, if_neg h]; exact .inr ⟨h, rfl, hw⟩
  have FB2 : Hid (p1.2 = 0 → p2.2 ≠ 0 → ∀ w', DkTo w b bs bm n pv p2.1 w' → R (.panicked (bad p2.2)) w') := fun h1 h w' hw => by
    rw [eR, hcm, hput, ← e1, if_pos h1, ← e2, if_neg h]; exact .inr ⟨h, rfl, hw⟩
  have FB3 : Hid (p1.2 = 0 → p2.2 = 0 → p3.2 ≠ 0 → ∀ w', DkTo w b bs bm n pv p3.1 w' → R (.panicked (bad p3.2)) w') := fun h1 h2 h w' hw => by
    rw [eR, hcm, hput, ← e1, if_pos h1, ← e2, if_pos h2, hput, ← e3, if_neg h]; exact .inr ⟨h, rfl, hw⟩
  have FB4 : Hid (p1.2 = 0 → p2.2 = 0 → p3.2 = 0 → p4.2 ≠ 0 → ∀ w', DkTo w b bs bm n pv p4.1 w' → R (.panicked (bad p4.2)) w') := fun h1 h2 h3 h w' hw => by
    rw [eR, hcm, hput, ← e1, if_pos h1, ← e2, if_pos h2, hput, ← e3, if_pos h3, ← e4]; exact .inr ⟨h, rfl, hw⟩
  have FF : Hid (p1.2 = 0 → p2.2 = 0 → p3.2 = 0 → p4.2 = 0 → ∀ w', (∃ bm' pv', DiskAt w' b bs bm' pv' p4.1 n ∧ Keep (fun k => k = jb ∨ Fp b bs bm pv k) w w' ∧ (bm' = bm ∨ w.heap.size ≤ bm') ∧ (∀ k, pv'.ownBlock = some k → pv.ownBlock = some k ∨ w.heap.size ≤ k)) →
      Blk w' jb (cellsJ (num + 1, half, len) s size b rv br) 63 → R (.returned (.tuple #[])) w') := fun h1 h2 h3 h4 w' hw hb => by
    rw [eR, hcm, hput, ← e1, if_pos h1, ← e2, if_pos h2, hput, ← e3, if_pos h3, ← e4]; rw [hse] at hb; exact .inl ⟨h4, rfl, hw, hb⟩
  have W1 := Lib.hid (fun (w1 : World) (h : DkTo w b bs bm n pv d w1) => dk_write h (s : Int) bl hfew)
  have hf2 : p2.2 = 0 → p2.1.pend.length < 1000000 := fun h => by rw [e2] at h ⊢; rw [sync_few h]; decide
  have W3 := Lib.hid (fun (h0 : p2.2 = 0) (wB : World) (bmB : Nat) (pvB : Value) (w1 : World) (h : DkTo wB b bs bmB n pvB p2.1 w1) => dk_write h (s : Int) (tv ++ tv) (hf2 h0))
  have S2 := Lib.hid (fun (w1 : World) (h : DkTo w b bs bm n pv p1.1 w1) => dk_sync h)
  have S4 := Lib.hid (fun (wB : World) (bmB : Nat) (pvB : Value) (w1 : World) (h : DkTo wB b bs bmB n pvB p3.1 w1) => dk_sync h)
  rw [EBL.out, ← e1] at W1
  rw [ETV.out, ← e3] at W3
  rw [← e2] at S2
  rw [← e4] at S4
  have D0 := Lib.hid (DkTo.refl hd)
  clear es hse hd hE hj eR ebl e1 e2 e3 e4 hput hcm evv etv ER hf2
  obtain ⟨d1, k1⟩ := p1
  obtain ⟨d2, k2⟩ := p2
  obtain ⟨d3, k3⟩ := p3
  obtain ⟨d4, k4⟩ := p4
  dsimp only at FB1 FB2 FB3 FB4 FF W1 W3 S2 S4
  go_enter Tryz.func46, Tryz.ntmps46
  go_wp2_with fail
  refine Free.wp_region_free 6 [(5, .det (.string bl))] (fun y => Below w.heap.size w y ∧ y.cell? ⟨jb, 5, none⟩ = some (.pointer (some ⟨b, 0, none⟩))) (by kernel_rfl) (by kernel_rfl) (Free.mono_det (fun j mk r hf => by simp only [Free.find] at hf; repeat' (first | cases hf | split at hf))) ⟨(Below.refl _ _).drew, c5⟩
    (fun _ _ h g => ⟨h.1.trans (Below.mono g h.1.size), cell_grw h.2 g⟩) ?_
  simp only [List.take_succ_cons, List.take_zero]
  iterate 5 (apply Free.chain_still (by first | exact Free.wanted_of rfl rfl rfl | rfl) rfl; (intro w' hB hA; obtain ⟨qB, q1⟩ := hB; clear hA  qB; go_light; go_simp <;> rfl); (try simp only [Act.put, List.setIfInBounds_toArray, List.set_cons_succ, List.set_cons_zero]))
  apply Free.chain_det (by first | exact Free.wanted_of rfl rfl rfl | rfl) rfl
  · intro w' hB hA
    refine Free.opRun_call (f := 64) (args := #[]) (by clear hB hA; go_simp <;> rfl) ?_
    refine (BB.out w').mono ?_
    rintro e w3 ⟨rfl, hb3⟩
    exact ⟨_, rfl, hb3, rfl⟩
  simp only [Act.put, List.setIfInBounds_toArray, List.set_cons_succ, List.set_cons_zero]
  apply Free.chain_nil
  intro w1 hB1 _ _
  simp only [List.drop_succ_cons, List.drop_zero]
  have D1 := Lib.hid (D0.out.below hB1.1)
  clear hB1 c3 c5 BB
  go_wp2_with fail
  refine (W1.out _ D1.out).mono ?_
  rintro e w2 ⟨rfl, hd2⟩
  have D2 := Lib.hid hd2
  clear hd2 D1 W1
  by_cases z1 : k1 = 0
  case neg =>
    have hcb : (k1 == 0) = false := by simpa using z1
    have G := Lib.hid (FB1.out z1 _ D2.out)
    go_wp2_with fail
    refine (check_bad k1 _ hcb).mono ?_
    rintro e w3 ⟨rfl, rfl⟩
    go_wp2_with fail
    first
      | exact G.out
      | exact ⟨rfl, G.out⟩
  have G2 := Lib.hid (FB2.out z1)
  have G3 := Lib.hid (FB3.out z1)
  have G4 := Lib.hid (FB4.out z1)
  have GF := Lib.hid (FF.out z1)
  clear FB1 FB2 FB3 FB4 FF
  subst z1
  have c5 := (D2.out.blk HD.out HJ.out (by decide) (by decide) (by decide)).cellD 5 _ rfl
  go_wp2_with fail
  refine (check_ok _).mono ?_
  rintro e w3 ⟨rfl, rfl⟩
  go_wp2_with fail
  refine (S2.out _ D2.out).mono ?_
  rintro e w3 ⟨rfl, hd3⟩
  have D3 := Lib.hid hd3
  clear hd3 S2 D2 c5
  by_cases z2 : k2 = 0
  case neg =>
    have hcb : (k2 == 0) = false := by simpa using z2
    have G := Lib.hid (G2.out z2 _ D3.out)
    go_wp2_with fail
    refine (check_bad k2 _ hcb).mono ?_
    rintro e w4 ⟨rfl, rfl⟩
    go_wp2_with fail
    first
      | exact G.out
      | exact ⟨rfl, G.out⟩
  have I3 := Lib.hid (G3.out z2)
  have I4 := Lib.hid (G4.out z2)
  have IF := Lib.hid (GF.out z2)
  have X3 := Lib.hid (W3.out z2)
  clear G2 G3 G4 GF W3
  subst z2
  have c0 := (D3.out.blk HD.out HJ.out (by decide) (by decide) (by decide)).cellD 0 _ rfl
  have c5 := (D3.out.blk HD.out HJ.out (by decide) (by decide) (by decide)).cellD 5 _ rfl
  dsimp only at c0
  go_wp2_with fail
  refine (check_ok _).mono ?_
  rintro e w4 ⟨rfl, rfl⟩
  go_wp2_with fail
  obtain ⟨bm3, pv3, u1, u2, u3, u4⟩ := D3.out
  obtain ⟨V, eV⟩ : ∃ V, V = w3.alloc (.cells #[.int .i64 ((num : Int) + 1), .int .i64 (half : Int), .int .i64 (len : Int)] 61) := ⟨_, rfl⟩
  have HBV : Hid (Below w3.heap.size w3 V) := by rw [eV]; exact (Below.refl _ w3).alloc (Nat.le_refl _) _
  have kV : Hid (Blk V w3.heap.size [.int .i64 ((num : Int) + 1), .int .i64 (half : Int), .int .i64 (len : Int)] 61) := by rw [eV]; exact Blk.new w3 _ _
  rw [← eV]
  have DV := Lib.hid (u1.below HBV.out)
  have UV : Hid (Keep (Fp b bs bm pv) w V ∧ (bm3 = bm ∨ w.heap.size ≤ bm3) ∧ (∀ k, pv3.ownBlock = some k → pv.ownBlock = some k ∨ w.heap.size ≤ k)) := ⟨u2.trans (G := fun _ => False) (Keep.of_below HBV.out) (fun _ _ f => f.elim), u3, u4⟩
  have D4 := Lib.hid (DkTo.refl DV.out)
  have TW := Lib.hid (fun (d : DD) (w' : World) (h : DkTo V b bs bm3 n pv3 d w') => DkTo.after UV.out.1 UV.out.2.1 UV.out.2.2 h)
  have HJV := Lib.hid (HJ.out.keepB (UV.out.1.block jb HJ.out.lt (notFp HD.out HJ.out (by decide) (by decide) (by decide))))
  have k0 := kV.out.cellD 0 _ rfl
  have k1 := kV.out.cellD 1 _ rfl
  have k2 := kV.out.cellD 2 _ rfl
  have c6 := HJV.out.cellD 5 _ rfl
  clear u1 u2 u3 u4 c0 c5 eV
  have hcat : (9223372036854775807 < tv.size + tv.size) = False := eq_false (by omega)
  refine Free.wp_region_free 10 [(6, .det (.string tv)), (8, .det (.string tv))] (fun y => Below V.heap.size V y ∧ y.cell? ⟨jb, 5, none⟩ = some (.pointer (some ⟨b, 0, none⟩)) ∧ y.cell? ⟨w3.heap.size, 0, none⟩ = some (.int .i64 ((num : Int) + 1)) ∧ y.cell? ⟨w3.heap.size, 1, none⟩ = some (.int .i64 (half : Int)) ∧ y.cell? ⟨w3.heap.size, 2, none⟩ = some (.int .i64 (len : Int))) (by kernel_rfl) (by kernel_rfl) (Free.mono_det (fun j mk r hf => by simp only [Free.find] at hf; repeat' (first | cases hf | split at hf))) ⟨(Below.refl _ _).drew, c6, k0, k1, k2⟩
    (fun _ _ h g => ⟨h.1.trans (Below.mono g h.1.size), cell_grw h.2.1 g, cell_grw h.2.2.1 g, cell_grw h.2.2.2.1 g, cell_grw h.2.2.2.2 g⟩) ?_
  simp only [List.take_succ_cons, List.take_zero]
  iterate 6 (apply Free.chain_still (by first | exact Free.wanted_of rfl rfl rfl | rfl) rfl; (intro w' hB hA; obtain ⟨qB, q1, q2, q3, q4⟩ := hB; clear hA  qB; go_light; go_simp <;> rfl); (try simp only [Act.put, List.setIfInBounds_toArray, List.set_cons_succ, List.set_cons_zero]))
  apply Free.chain_det (by first | exact Free.wanted_of rfl rfl rfl | rfl) rfl
  · intro w' hB hA
    refine Free.opRun_call (f := 71) (args := #[.agg #[.int .i64 ((num : Int) + 1), .int .i64 (half : Int), .int .i64 (len : Int)]]) (by clear hB hA; go_simp <;> rfl) ?_
    refine ((TX.out w' (HE.out.to (TW.out _ _ (D4.out.below hB.1))))).mono ?_
    rintro e w3 ⟨rfl, hb3⟩
    exact ⟨_, rfl, hb3, rfl⟩
  simp only [Act.put, List.setIfInBounds_toArray, List.set_cons_succ, List.set_cons_zero]
  iterate 1 (apply Free.chain_still (by first | exact Free.wanted_of rfl rfl rfl | rfl) rfl; (intro w' hB hA; obtain ⟨qB, q1, q2, q3, q4⟩ := hB; clear hA  qB; go_light; go_simp <;> rfl); (try simp only [Act.put, List.setIfInBounds_toArray, List.set_cons_succ, List.set_cons_zero]))
  apply Free.chain_det (by first | exact Free.wanted_of rfl rfl rfl | rfl) rfl
  · intro w' hB hA
    refine Free.opRun_call (f := 71) (args := #[.agg #[.int .i64 ((num : Int) + 1), .int .i64 (half : Int), .int .i64 (len : Int)]]) (by clear hB hA; go_simp <;> rfl) ?_
    refine ((TX.out w' (HE.out.to (TW.out _ _ (D4.out.below hB.1))))).mono ?_
    rintro e w3 ⟨rfl, hb3⟩
    exact ⟨_, rfl, hb3, rfl⟩
  simp only [Act.put, List.setIfInBounds_toArray, List.set_cons_succ, List.set_cons_zero]
  iterate 1 (apply Free.chain_still (by first | exact Free.wanted_of rfl rfl rfl | rfl) rfl; (intro w' hB hA; obtain ⟨qB, q1, q2, q3, q4⟩ := hB; clear hA  qB; go_light; go_simp <;> rfl); (try simp only [Act.put, List.setIfInBounds_toArray, List.set_cons_succ, List.set_cons_zero]))
  apply Free.chain_nil
  intro w5 hB5 _ _
  simp only [List.drop_succ_cons, List.drop_zero]
  have HB5 := Lib.hid hB5.1
  have D5 := Lib.hid (D4.out.below hB5.1)
  clear hB5 k0 k1 k2 c6
  go_wp2_with fail
  refine (X3.out _ _ _ _ D5.out).mono ?_
  rintro e w6 ⟨rfl, hd6⟩
  have D6 := Lib.hid hd6
  clear hd6 X3
  by_cases z3 : k3 = 0
  case neg =>
    have hcb : (k3 == 0) = false := by simpa using z3
    have G := Lib.hid (I3.out z3 _ (TW.out _ _ D6.out))
    go_wp2_with fail
    refine (check_bad k3 _ hcb).mono ?_
    rintro e w7 ⟨rfl, rfl⟩
    go_wp2_with fail
    first
      | exact G.out
      | exact ⟨rfl, G.out⟩
  have L4 := Lib.hid (I4.out z3)
  have LF := Lib.hid (IF.out z3)
  clear I3 I4 IF
  subst z3
  have c5 := (D6.out.blk DV.out HJV.out (by decide) (by decide) (by decide)).cellD 5 _ rfl
  go_wp2_with fail
  refine (check_ok _).mono ?_
  rintro e w7 ⟨rfl, rfl⟩
  go_wp2_with fail
  refine (S4.out _ _ _ _ D6.out).mono ?_
  rintro e w7 ⟨rfl, hd7⟩
  have D7 := Lib.hid hd7
  clear hd7 S4 D6 c5
  by_cases z4 : k4 = 0
  case neg =>
    have hcb : (k4 == 0) = false := by simpa using z4
    have G := Lib.hid (L4.out z4 _ (TW.out _ _ D7.out))
    go_wp2_with fail
    refine (check_bad k4 _ hcb).mono ?_
    rintro e w8 ⟨rfl, rfl⟩
    go_wp2_with fail
    first
      | exact G.out
      | exact ⟨rfl, G.out⟩
  have MF := Lib.hid (LF.out z4)
  clear L4 LF
  subst z4
  have hv7 := D7.out.blk DV.out kV.out (by decide) (by decide) (by decide)
  have hj7 := D7.out.blk DV.out HJV.out (by decide) (by decide) (by decide)
  have v0 := hv7.cellD 0 _ rfl
  have v1 := hv7.cellD 1 _ rfl
  have v2 := hv7.cellD 2 _ rfl
  have j0 := hj7.cellD 0 _ rfl
  have j1 := hj7.cellD 1 _ rfl
  have j2 := hj7.cellD 2 _ rfl
  have j3 := hj7.cellD 3 _ rfl
  have f0 := hj7.frozen 0
  have f1 := hj7.frozen 1
  have f2 := hj7.frozen 2
  have f3 := hj7.frozen 3
  have HV7 := Lib.hid hv7
  have HJ7 := Lib.hid hj7
  have hne : w3.heap.size ≠ jb := by have := HJ.out.lt; have := D3.out.size; omega
  have FIN : Hid (R (.returned (.tuple #[])) ((w7.setCells jb 0 [.int .i64 ((num : Int) + 1), .int .i64 (half : Int), .int .i64 (len : Int)]).setCell ⟨jb, 3, none⟩ (.int .i64 (s : Int)))) := by
    refine MF.out _ ?_ (by have := (set3 HJ7.out (.int .i64 ((num : Int) + 1)) (.int .i64 (half : Int)) (.int .i64 (len : Int))).set 3 (.int .i64 (s : Int)); exact this)
    obtain ⟨bm7, pv7, u1, u2, u3, u4⟩ := TW.out _ _ D7.out
    have kk : Keep (fun k => k = jb) w7 ((w7.setCells jb 0 [.int .i64 ((num : Int) + 1), .int .i64 (half : Int), .int .i64 (len : Int)]).setCell ⟨jb, 3, none⟩ (.int .i64 (s : Int))) := (keep_set3 (F := fun k => k = jb) (Keep.refl _ w7) (fun _ => rfl) _ _ _).setCell (p := ⟨jb, 3, none⟩) (fun _ => rfl) _
    exact ⟨bm7, pv7, u1.keep kk (fun k hf e => notFp u1 HJ7.out (by decide) (by decide) (by decide) (e ▸ hf)), (u2.mono (fun k _ h => .inr h)).trans kk (fun k _ e => .inl e), u3, u4⟩
  clear hv7 hj7 MF
  go_wp2_with fail
  refine (check_ok _).mono ?_
  rintro e w8 ⟨rfl, rfl⟩
  go_wp2_with fail
  first
    | exact FIN.out
    | exact bodyPost_ret (results_none rfl _ _ _) rfl FIN.out
    | exact ⟨_, rfl, rfl, FIN.out⟩
    | exact ⟨_, rfl, FIN.out⟩
end Go.Proofs.YthfjaaigncjhlaaGreatDoor

namespace Go.Jn
open Go Go.Dk
theorem sync_none {d : DD} (h : d.sync.2 = 0) : d.sync.1.pend = [] := by
  unfold DD.sync at h ⊢
  split
  · rename_i h2
    rw [if_pos h2] at h
    split
    · rename_i h3
      rw [if_pos h3] at h
      exact absurd h (by show ¬ ((21 : Int) = 0); decide)
    · rfl
  · rename_i h2
    rw [if_neg h2] at h
    exact absurd h (by show ¬ ((21 : Int) = 0); decide)
theorem storeGo_none {n base off : Nat} {text : List UInt8} : ∀ (ks : List Nat) (d : DD), (storeGo n base off text ks d).2 = 0 → (storeGo n base off text ks d).1.pend = []
  | [], d, h => sync_none h
  | k :: r, d, h => by
    unfold storeGo at h ⊢
    split
    · rename_i h1
      rw [if_pos h1] at h
      split
      · rename_i h2
        rw [if_pos h2] at h
        exact storeGo_none r _ h
      · rename_i h2
        rw [if_neg h2] at h
        exact absurd h h2
    · rename_i h1
      rw [if_neg h1] at h
      exact absurd h h1
theorem storeD_few {n base off : Nat} {text : List UInt8} {d : DD} (h : (storeD n base off text d).2 = 0) (hd : d.pend.length < 1000000) : (storeD n base off text d).1.pend.length < 1000000 := by
  unfold storeD at h ⊢
  split
  · exact hd
  · rename_i h1
    rw [if_neg h1] at h
    rw [storeGo_none _ _ h]; decide
end Go.Jn
namespace Go.Proofs.YthfjaaigncjhlaaGreatDoor
open Go.RowKit Go.Blk Go.Jn Go.Dk Go.Mp Go.Rf Go.Shelf

section
variable {w0 w w1 w2 w3 w4 : World} {jb b bs bm bm1 n a size half len : Nat} {pv pv1 rv : Value} {br : Bool} {v : Nat × Nat × Nat} {r : DD × Int} {e : Ending} {d : DD}
theorem DkTo.from_below (hb : Below w.heap.size w w1) (h : DkTo w1 b bs bm n pv d w2) : DkTo w b bs bm n pv d w2 := DkTo.after (Keep.of_below hb) (.inl rfl) (fun _ h => .inl h) h
theorem CmPost.base (k : Keep (Fp b bs bm pv) w w3) (h1 : bm1 = bm ∨ w.heap.size ≤ bm1) (h2 : ∀ k, pv1.ownBlock = some k → pv.ownBlock = some k ∨ w.heap.size ≤ k) (h : CmPost w3 jb b bs bm1 n a size half len pv1 rv br v r e w4) : CmPost w jb b bs bm n a size half len pv rv br v r e w4 := by
  rcases h with ⟨c1, c2, ⟨bm', pv', u1, u2, u3, u4⟩, c4⟩ | ⟨c1, c2, c3⟩
  · refine .inl ⟨c1, c2, ⟨bm', pv', u1, (k.mono (fun _ _ h => .inr h)).trans u2 (fun i hi f => f.imp id (fun f => fp_more h1 h2 i hi f)), ?_, fun j hj => ?_⟩, c4⟩
    · rcases u3 with rfl | h
      · exact h1
      · exact .inr (Nat.le_trans k.size h)
    · rcases u4 j hj with h | h
      · exact h2 j h
      · exact .inr (Nat.le_trans k.size h)
  · exact .inr ⟨c1, c2, DkTo.after k h1 h2 c3⟩
theorem En.next (h : En w0 w b bs bm pv) (k : Keep (Fp b bs bm pv) w w1) (h1 : bm1 = bm ∨ w.heap.size ≤ bm1) (h2 : ∀ k, pv1.ownBlock = some k → pv.ownBlock = some k ∨ w.heap.size ≤ k) : En w0 w1 b bs bm1 pv1 := by
  have hs := h.bl.size
  refine ⟨h.t, h.bl.trans (k.below h.f hs), ?_⟩
  rintro j (rfl | rfl | rfl | e)
  · exact h.f _ (.inl rfl)
  · exact h.f _ (.inr (.inl rfl))
  · rcases h1 with rfl | h1
    · exact h.f _ (.inr (.inr (.inl rfl)))
    · omega
  · rcases h2 j e with h' | h'
    · exact h.f _ (.inr (.inr (.inr h')))
    · omega
end
set_option maxRecDepth 100000 in
set_option maxHeartbeats 400000 in
theorem app1_any {w0 w : World} {jb bj bt b bs bm n a : Nat} {pv rv : Value} {br : Bool} {v : Nat × Nat × Nat} {d : DD} {text : List UInt8} (hd : DiskAt w b bs bm pv d n) (hon : d.on = true) (hn : 4 ≤ n) (hj : Blk w jb (cellsJ v a ((n - 2) / 2) b rv br) 63)
    (hb1 : Blk w bj [.pointer (some ⟨jb, 0, none⟩)] 29) (hb2 : Blk w bt [.string (tx text)] 9) (ha : a ≤ 1) (hh : v.2.1 ≤ 1) (hroom : v.2.2 + text.length ≤ 32 * ((n - 2) / 2)) (hnum : v.1 < 999999999) (hpend : d.pend.length ≤ 900000) (hE : En w0 w b bs bm pv) :
    Calls Tryz.prog 44 #[.pointer (some ⟨bj, 0, none⟩), .pointer (some ⟨bt, 0, none⟩)] w (CmPost w jb b bs bm n a ((n - 2) / 2) v.2.1 (v.2.2 + text.length) pv rv br v (changeD n a v.1 v.2.1 v.2.2 text d)) := by
  have hn2 := hd.ok.n2
  obtain ⟨R, eR⟩ : ∃ R, R = CmPost w jb b bs bm n a ((n - 2) / 2) v.2.1 (v.2.2 + text.length) pv rv br v (changeD n a v.1 v.2.1 v.2.2 text d) := ⟨_, rfl⟩
  rw [← eR]
  have ER := Lib.hid eR
  have HD := Lib.hid hd
  have HJ := Lib.hid hj
  have H1 := Lib.hid hb1
  have H2 := Lib.hid hb2
  have HE := Lib.hid hE
  have ST := Lib.hid (fun (w1 : World) (hb : Below w.heap.size w w1) => store_any (w := w1) (off := v.2.2) (text := text) (hd.below hb) (fun _ => hon) hn (hj.below hb hj.lt) hh hroom hpend)
  have CM := Lib.hid (fun (w0 w3 : World) (bm1 : Nat) (pv1 : Value) (d1 : DD) (h1 : DiskAt w3 b bs bm1 pv1 d1 n) (h2 : Blk w3 jb (cellsJ v a ((n - 2) / 2) b rv br) 63) (h3 : d1.pend.length < 1000000) (h4 : En w0 w3 b bs bm1 pv1) => commit_any (len := v.2.2 + text.length) h1 h2 ha hh (by omega) hnum h3 h4)
  have c0 := hb1.cellD 0 _ rfl
  have ct := hb2.cellD 0 _ rfl
  have j1 := hj.cellD 1 _ rfl
  have j2 := hj.cellD 2 _ rfl
  have htl := tx_size text
  have hbs : v.2.2 + text.length ≤ 1000000 := by omega
  have HPD := Lib.hid hpend
  obtain ⟨x, ex⟩ : ∃ x, x = tx text := ⟨_, rfl⟩
  rw [← ex] at ct htl ST H2
  obtain ⟨num, h, l⟩ := v
  dsimp only at j1 j2 hbs
  obtain ⟨tl, etl⟩ : ∃ tl, tl = l + text.length := ⟨_, rfl⟩
  have htl2 : (l : Int) + (x.size : Int) = (tl : Int) := by rw [htl]; omega
  have htb : tl ≤ 1000000 := by omega
  have ETL := Lib.hid etl
  clear htl
  clear eR hd hj hb1 hb2 hE ex hpend etl hbs
  go_enter Tryz.func44, Tryz.ntmps44
  go_wp2_with fail
  refine Free.wp_region_free 12 [] (fun y => Below w.heap.size w y ∧ y.cell? ⟨bj, 0, none⟩ = some (.pointer (some ⟨jb, 0, none⟩)) ∧ y.cell? ⟨bt, 0, none⟩ = some (.string x) ∧ y.cell? ⟨jb, 1, none⟩ = some (.int .i64 (h : Int)) ∧ y.cell? ⟨jb, 2, none⟩ = some (.int .i64 (l : Int))) (by kernel_rfl) (by kernel_rfl) (Free.mono_det (fun j mk r hf => by cases hf)) ⟨(Below.refl _ _).drew, c0, ct, j1, j2⟩
    (fun _ _ h g => ⟨h.1.trans (Below.mono g h.1.size), cell_grw h.2.1 g, cell_grw h.2.2.1 g, cell_grw h.2.2.2.1 g, cell_grw h.2.2.2.2 g⟩) ?_
  simp only [List.take_succ_cons, List.take_zero]
  iterate 12 (apply Free.chain_still (by first | exact Free.wanted_of rfl rfl rfl | rfl) rfl; (intro w' hB hA; obtain ⟨qB, q1, q2, q3, q4⟩ := hB; clear hA  qB; go_light; go_simp <;> rfl); (try simp only [Act.put, List.setIfInBounds_toArray, List.set_cons_succ, List.set_cons_zero]))
  apply Free.chain_nil
  intro w1 hB1 _ _
  simp only [List.drop_succ_cons, List.drop_zero]
  have HB1 := Lib.hid hB1.1
  clear hB1 c0 ct j1 j2
  go_wp2_with fail
  refine (ST.out _ HB1.out).mono ?_
  rintro e w2 ⟨hdk, ⟨z, rfl⟩ | ⟨z, rfl⟩⟩
  · have hd1 := HD.out.below HB1.out
    have hj2 := hdk.blk hd1 (HJ.out.below HB1.out HJ.out.lt) (by decide) (by decide) (by decide)
    have h12 := hdk.blk hd1 (H1.out.below HB1.out H1.out.lt) (by decide) (by decide) (by decide)
    have h22 := hdk.blk hd1 (H2.out.below HB1.out H2.out.lt) (by decide) (by decide) (by decide)
    obtain ⟨bm2, pv2, u1, u2, u3, u4⟩ := hdk.from_below HB1.out
    have U := Lib.hid (And.intro u1 (And.intro u2 (And.intro u3 u4)))
    have hf2 := storeD_few z (by have := HPD.out; omega)
    have CC := Lib.hid (fun (w3 : World) (hb : Below w2.heap.size w2 w3) => CM.out w0 w3 bm2 pv2 _ (u1.below hb) (hj2.below hb hj2.lt) hf2 ((HE.out.next u2 u3 u4).grow hb))
    have ec : changeD n a num h l text d = commitD n a num h (l + text.length) (storeD n (2 + h * ((n - 2) / 2)) l text d).1 := by unfold changeD; rw [if_pos z]
    have EC := Lib.hid ec
    have c0 := h12.cellD 0 _ rfl
    have ct := h22.cellD 0 _ rfl
    have j1 := hj2.cellD 1 _ rfl
    have j2 := hj2.cellD 2 _ rfl
    rw [← ETL.out] at CC
    clear hdk z hd1 hj2 h12 h22 u1 u2 u3 u4 hf2 ec
    go_wp2_with fail
    refine Free.wp_region_free 14 [] (fun y => Below w2.heap.size w2 y ∧ y.cell? ⟨bj, 0, none⟩ = some (.pointer (some ⟨jb, 0, none⟩)) ∧ y.cell? ⟨bt, 0, none⟩ = some (.string x) ∧ y.cell? ⟨jb, 1, none⟩ = some (.int .i64 (h : Int)) ∧ y.cell? ⟨jb, 2, none⟩ = some (.int .i64 (l : Int))) (by kernel_rfl) (by kernel_rfl) (Free.mono_det (fun j mk r hf => by cases hf)) ⟨(Below.refl _ _).drew, c0, ct, j1, j2⟩
      (fun _ _ h g => ⟨h.1.trans (Below.mono g h.1.size), cell_grw h.2.1 g, cell_grw h.2.2.1 g, cell_grw h.2.2.2.1 g, cell_grw h.2.2.2.2 g⟩) ?_
    simp only [List.take_succ_cons, List.take_zero]
    iterate 14 (apply Free.chain_still (by first | exact Free.wanted_of rfl rfl rfl | rfl) rfl; (intro w' hB hA; obtain ⟨qB, q1, q2, q3, q4⟩ := hB; clear hA  qB; go_light; go_simp <;> rfl); (try simp only [Act.put, List.setIfInBounds_toArray, List.set_cons_succ, List.set_cons_zero]))
    apply Free.chain_nil
    intro w3 hB3 _ _
    simp only [List.drop_succ_cons, List.drop_zero]
    have HB3 := Lib.hid hB3.1
    clear hB3 c0 ct j1 j2
    go_wp2_with fail
    refine (CC.out _ HB3.out).mono ?_
    intro e w4 hcm
    have hcm2 := CmPost.base (U.out.2.1.trans (G := fun _ => False) (Keep.of_below HB3.out) (fun _ _ f => f.elim)) U.out.2.2.1 U.out.2.2.2 hcm
    have G : Hid (R e w4) := by
      rw [ER.out]
      show CmPost w jb b bs bm n a ((n - 2) / 2) h (l + text.length) pv rv br (num, h, l) (changeD n a num h l text d) _ _
      rw [EC.out, ← ETL.out]
      exact hcm2
    rcases hcm with ⟨_, rfl, _⟩ | ⟨_, rfl, _⟩
    · clear hcm2
      go_wp2_with fail
      go_end0
      exact G.out
    · clear hcm2
      go_wp2_with fail
      first
        | exact G.out
        | exact ⟨rfl, G.out⟩
  · have G : Hid (R (.panicked (bad (storeD n (2 + h * ((n - 2) / 2)) l text d).2)) w2) := by
      rw [ER.out]
      have ec : changeD n a num h l text d = storeD n (2 + h * ((n - 2) / 2)) l text d := by unfold changeD; rw [if_neg z]
      show CmPost w jb b bs bm n a ((n - 2) / 2) h (l + text.length) pv rv br (num, h, l) (changeD n a num h l text d) _ _
      rw [ec]
      exact .inr ⟨z, rfl, hdk.from_below HB1.out⟩
    clear hdk z
    go_wp2_with fail
    first
      | exact G.out
      | exact ⟨rfl, G.out⟩
end Go.Proofs.YthfjaaigncjhlaaGreatDoor

namespace Go.Proofs.YthfjaaigncjhlaaGreatDoor
open Go.RowKit Go.Blk Go.Jn Go.Dk Go.Mp Go.Rf Go.Shelf

/-- As CmPost, behind the call that reads the builder. -/
def CePost (w0 W : World) (jb b bs bm n a size half len bt : Nat) (pv rv : Value) (v : Nat × Nat × Nat) (r : DD × Int) (e : Ending) (w' : World) : Prop :=
  ∃ W1, Below w0.heap.size w0 W1 ∧ Lib.OthersKept 5 (some bt) W W1 ∧ W.heap.size ≤ W1.heap.size ∧ CmPost W1 jb b bs bm n a size half len pv rv false v r e w'
/-- What stands behind the builder's String. -/
def CQ (w0 W : World) (jb bt bj bl len : Nat) (l : List UInt8) (x : World) : Prop :=
  Bld w0 w0.heap.size bt l x ∧ Lib.OthersKept 5 (some bt) W x ∧ W.heap.size ≤ x.heap.size ∧ Blk x bj [.pointer (some ⟨jb, 0, none⟩)] 29 ∧ Blk x bl [.int .i64 (len : Int)] 3
set_option maxRecDepth 100000 in
set_option maxHeartbeats 400000 in
theorem comp1_any {we w0 W : World} {jb bj bt bl b bs bm n a : Nat} {pv rv : Value} {v : Nat × Nat × Nat} {d : DD} {text : List UInt8} (hd : DiskAt w0 b bs bm pv d n) (hon : text ≠ [] → d.on = true) (hn : 4 ≤ n) (hj : Blk w0 jb (cellsJ v a ((n - 2) / 2) b rv false) 63)
    (hb : Bld w0 w0.heap.size bt text W) (hb1 : Blk W bj [.pointer (some ⟨jb, 0, none⟩)] 29) (hb2 : Blk W bl [.int .i64 (text.length : Int)] 3) (hne1 : bj ≠ bt) (hne2 : bl ≠ bt) (ha : a ≤ 1) (hh : v.2.1 ≤ 1) (hroom : text.length ≤ 32 * ((n - 2) / 2)) (hnum : v.1 < 999999999) (hpend : d.pend.length ≤ 900000) (hE : En we w0 b bs bm pv) :
    Calls Tryz.prog 50 #[.pointer (some ⟨bj, 0, none⟩), .pointer (some ⟨bt, 0, none⟩), .pointer (some ⟨bl, 0, none⟩)] W (CePost w0 W jb b bs bm n a ((n - 2) / 2) (1 - v.2.1) text.length bt pv rv v (changeD n a v.1 (1 - v.2.1) 0 text d)) := by
  have hn2 := hd.ok.n2
  obtain ⟨R, eR⟩ : ∃ R, R = CePost w0 W jb b bs bm n a ((n - 2) / 2) (1 - v.2.1) text.length bt pv rv v (changeD n a v.1 (1 - v.2.1) 0 text d) := ⟨_, rfl⟩
  rw [← eR]
  have ER := Lib.hid eR
  have HD := Lib.hid hd
  have HJ := Lib.hid hj
  have HE := Lib.hid hE
  have ST := Lib.hid (fun (w1 : World) (hb : Below w0.heap.size w0 w1) => store_any (w := w1) (half := 1 - v.2.1) (off := 0) (text := text) (hd.below hb) hon hn (hj.below hb hj.lt) (by omega) (by omega) hpend)
  have CM := Lib.hid (fun (w3 : World) (bm1 : Nat) (pv1 : Value) (d1 : DD) (h1 : DiskAt w3 b bs bm1 pv1 d1 n) (h2 : Blk w3 jb (cellsJ v a ((n - 2) / 2) b rv false) 63) (h3 : d1.pend.length < 1000000) (h4 : En we w3 b bs bm1 pv1) => commit_any (half := 1 - v.2.1) (len := text.length) h1 h2 ha (by omega) (by omega) hnum h3 h4)
  have HPD := Lib.hid hpend
  have hjb : jb < w0.heap.size := hj.lt
  obtain ⟨num, h, l⟩ := v
  dsimp only at hh
  have CJ : Hid (∀ x, Below w0.heap.size w0 x → x.cell? ⟨jb, 1, none⟩ = some (.int .i64 (h : Int))) := fun x hx => (HJ.out.below hx HJ.out.lt).cellD 1 _ rfl
  obtain ⟨h', eh⟩ : ∃ h', h' = 1 - h := ⟨_, rfl⟩
  have wl : IntKind.i64.wrap ((1 : Int) - (h : Int)) = (h' : Int) := by rw [IntWalk.i64_left, IntWalk.wrap64_in _ ⟨by omega, by omega⟩]; omega
  dsimp only at ST CM
  rw [← eh] at ST CM
  have EH := Lib.hid eh
  have HB0 := Lib.hid (show CQ w0 W jb bt bj bl text.length text W from ⟨hb, Lib.OthersKept.refl _ _ _, Nat.le_refl _, hb1, hb2⟩)
  have c0 := hb1.cellD 0 _ rfl
  have c1 := CJ.out W hb.bl
  have HXX := Lib.hid (show tx text = (⟨text.toArray⟩ : ByteArray) from rfl)
  clear eR hd hj hE hpend eh hb hb1 hb2
  go_enter Tryz.func50, Tryz.ntmps50
  go_wp2_with fail
  letI : Fre2.Rel := ⟨fun x y => CQ w0 W jb bt bj bl text.length text x → CQ w0 W jb bt bj bl text.length text y, fun _ h => h, fun _ _ _ h k x => k (h x)⟩
  refine Fre2.wp_region_free 8 [(7, .det (.string ⟨text.toArray⟩))] (fun y => CQ w0 W jb bt bj bl text.length text y ∧ y.cell? ⟨bj, 0, none⟩ = some (.pointer (some ⟨jb, 0, none⟩)) ∧ y.cell? ⟨jb, 1, none⟩ = some (.int .i64 (h : Int))) (by kernel_rfl) (by kernel_rfl) ?_ ⟨⟨HB0.out.1.grow (drewN_below W 1), HB0.out.2.1, HB0.out.2.2.1, HB0.out.2.2.2.1, HB0.out.2.2.2.2⟩, c0, c1⟩
    (fun _ _ h g => ⟨g h.1, (g h.1).2.2.2.1.cellD 0 _ rfl, CJ.out _ (g h.1).1.bl⟩) ?_
  · exact Fre2.mono_det (fun j mk r hf => by simp only [Free.find] at hf; repeat' (first | cases hf | split at hf))
  simp only [List.take_succ_cons, List.take_zero]
  clear c0 c1
  iterate 7 (apply Fre2.chain_still (by first | exact Free.wanted_of rfl rfl rfl | rfl) rfl; (intro w' hB hA; obtain ⟨qB, q0, q1⟩ := hB; clear hA  qB; go_light; go_simp <;> rfl); (try simp only [Act.put, List.setIfInBounds_toArray, List.set_cons_succ, List.set_cons_zero]))
  apply Fre2.chain_det (by first | exact Free.wanted_of rfl rfl rfl | rfl) rfl
  · intro y hB' _
    refine Free.opRun_call (f := 51) (args := #[.pointer (some ⟨bt, 0, none⟩)]) (by clear hB'; go_simp <;> rfl) ?_
    refine (hB'.1.1.read_k).mono ?_
    rintro e w3 ⟨rfl, hb3, ho3, hl3⟩
    obtain ⟨_, k2, k3, k4, k5⟩ := hB'.1
    have hq : CQ w0 W jb bt bj bl text.length text w3 := ⟨hb3, k2.trans ho3, Nat.le_trans k3 hl3.size, kept_blk ho3 k4 (by decide) hne1, kept_blk ho3 k5 (by decide) hne2⟩
    exact ⟨_, rfl, fun _ => hq, rfl⟩
  simp only [Act.put, List.setIfInBounds_toArray, List.set_cons_succ, List.set_cons_zero]
  apply Fre2.chain_nil
  intro w1 hB1 _ _
  simp only [List.drop_succ_cons, List.drop_zero]
  have HB1 := Lib.hid hB1.1
  clear hB1
  obtain ⟨x, ex⟩ : ∃ x : ByteArray, x = ⟨text.toArray⟩ := ⟨_, rfl⟩
  rw [← HXX.out] at ex
  rw [← HXX.out, ← ex]
  rw [← ex] at ST
  clear ex HXX
  go_wp2_with fail
  refine (ST.out _ HB1.out.1.bl).mono ?_
  rintro e w2 ⟨hdk, ⟨z, rfl⟩ | ⟨z, rfl⟩⟩
  · have hb1 := HB1.out.1.bl
    have hd1 := HD.out.below hb1
    have hj2 := hdk.blk hd1 (HJ.out.below hb1 HJ.out.lt) (by decide) (by decide) (by decide)
    have h12 := hdk.blk hd1 HB1.out.2.2.2.1 (by decide) (by decide) (by decide)
    have h22 := hdk.blk hd1 HB1.out.2.2.2.2 (by decide) (by decide) (by decide)
    obtain ⟨bm2, pv2, u1, u2, u3, u4⟩ := hdk
    have U := Lib.hid (And.intro u1 (And.intro u2 (And.intro u3 u4)))
    have hf2 := storeD_few z (by have := HPD.out; omega)
    have CC := Lib.hid (fun (w3 : World) (hb : Below w2.heap.size w2 w3) => CM.out w3 bm2 pv2 _ (u1.below hb) (hj2.below hb hj2.lt) hf2 (((HE.out.grow hb1).next u2 u3 u4).grow hb))
    have EC : Hid (changeD n a num h' 0 text d = commitD n a num h' text.length (storeD n (2 + h' * ((n - 2) / 2)) 0 text d).1) := by show _ = _; unfold changeD; rw [if_pos z, Nat.zero_add]
    have c0 := h12.cellD 0 _ rfl
    have cl := h22.cellD 0 _ rfl
    have j1 := hj2.cellD 1 _ rfl
    dsimp only at j1
    clear z hd1 hj2 h12 h22 u1 u2 u3 u4 hf2 hb1
    obtain ⟨tl, etl⟩ : ∃ tl, tl = text.length := ⟨_, rfl⟩
    rw [← etl] at CC cl
    have ETL := Lib.hid etl
    clear etl
    go_wp2_with fail
    refine Free.wp_region_free 8 [] (fun y => Below w2.heap.size w2 y ∧ y.cell? ⟨bj, 0, none⟩ = some (.pointer (some ⟨jb, 0, none⟩)) ∧ y.cell? ⟨bl, 0, none⟩ = some (.int .i64 (tl : Int)) ∧ y.cell? ⟨jb, 1, none⟩ = some (.int .i64 (h : Int))) (by kernel_rfl) (by kernel_rfl) (Free.mono_det (fun j mk r hf => by cases hf)) ⟨(Below.refl _ _).drew, c0, cl, j1⟩
      (fun _ _ h g => ⟨h.1.trans (Below.mono g h.1.size), cell_grw h.2.1 g, cell_grw h.2.2.1 g, cell_grw h.2.2.2 g⟩) ?_
    simp only [List.take_succ_cons, List.take_zero]
    iterate 8 (apply Free.chain_still (by first | exact Free.wanted_of rfl rfl rfl | rfl) rfl; (intro w' hB hA; obtain ⟨qB, q1, q2, q3⟩ := hB; clear hA  qB; go_light; go_simp <;> rfl); (try simp only [Act.put, List.setIfInBounds_toArray, List.set_cons_succ, List.set_cons_zero]))
    apply Free.chain_nil
    intro w3 hB3 _ _
    simp only [List.drop_succ_cons, List.drop_zero]
    have HB3 := Lib.hid hB3.1
    clear hB3 c0 cl j1
    go_wp2_with fail
    refine (CC.out _ HB3.out).mono ?_
    intro e w4 hcm
    have hcm2 := CmPost.base (U.out.2.1.trans (G := fun _ => False) (Keep.of_below HB3.out) (fun _ _ f => f.elim)) U.out.2.2.1 U.out.2.2.2 hcm
    have G : Hid (R e w4) := by
      rw [ER.out]
      refine ⟨w1, HB1.out.1.bl, HB1.out.2.1, HB1.out.2.2.1, ?_⟩
      show CmPost w1 jb b bs bm n a ((n - 2) / 2) (1 - h) text.length pv rv false (num, h, l) (changeD n a num (1 - h) 0 text d) _ _
      rw [← EH.out, EC.out, ← ETL.out]
      rw [ETL.out] at hcm2 ⊢
      exact hcm2
    rcases hcm with ⟨_, rfl, _⟩ | ⟨_, rfl, _⟩
    · clear hcm2
      go_wp2_with fail
      go_end0
      exact G.out
    · clear hcm2
      go_wp2_with fail
      first
        | exact G.out
        | exact ⟨rfl, G.out⟩
  · have G : Hid (R (.panicked (bad (storeD n (2 + h' * ((n - 2) / 2)) 0 text d).2)) w2) := by
      rw [ER.out]
      have ec : changeD n a num h' 0 text d = storeD n (2 + h' * ((n - 2) / 2)) 0 text d := by unfold changeD; rw [if_neg z]
      refine ⟨w1, HB1.out.1.bl, HB1.out.2.1, HB1.out.2.2.1, ?_⟩
      show CmPost w1 jb b bs bm n a ((n - 2) / 2) (1 - h) text.length pv rv false (num, h, l) (changeD n a num (1 - h) 0 text d) _ _
      rw [← EH.out, ec]
      exact .inr ⟨z, rfl, hdk⟩
    clear hdk z
    go_wp2_with fail
    first
      | exact G.out
      | exact ⟨rfl, G.out⟩
end Go.Proofs.YthfjaaigncjhlaaGreatDoor

namespace Go.Proofs.YthfjaaigncjhlaaGreatDoor
open Go.RowKit Go.Blk Go.Jn Go.Rf

theorem catch_idle (p q : Addr) (w : World) :
    CallsD Tryz.prog 61 #[.pointer (some p), .pointer (some q)] .returning w fun e u' w' => e = .returned (.tuple #[]) ∧ u' = .returning ∧ w' = w := by
  refine callsD_of_wpS Tryz.func61 rfl fun c₀ cs hu => ?_
  apply wpS_seq
  apply wpS_region
  simp [wpOpsS, go_sem, recoverD, hu, Tryz.ntmps61, Exit.thenS]
  apply wpS_seq
  apply wpS_region
  simp [wpOpsS, go_sem, Exit.thenS]
  refine wpS_cond (t := false) (by simp [Act.eval, Array.replicate]) ?_
  simp only [Bool.false_eq_true, if_false]
  refine wpS_of_wp (wp_skip ?_)
  cases c₀
  simp_all [bodyPostS, results, Tryz.results61]
set_option maxRecDepth 100000 in
theorem catch_bad (a b : Nat) (c x : Int) (jb : Nat) (w : World) (h1 : w.cell? ⟨a, 0, none⟩ = some (.pointer (some ⟨jb, 0, none⟩))) (h2 : w.cell? ⟨jb, 7, none⟩ = some (.bool false)) (h3 : w.frozen? ⟨jb, 7, none⟩ = false)
    (h4 : w.cell? ⟨b, 0, none⟩ = some (.int .i64 x)) (h5 : w.frozen? ⟨b, 0, none⟩ = false) (_h6 : b ≠ jb) :
    CallsD Tryz.prog 61 #[.pointer (some ⟨a, 0, none⟩), .pointer (some ⟨b, 0, none⟩)] (.panicking (bad c)) w fun e u' w' =>
      e = .returned (.tuple #[]) ∧ u' = .panicking [{ v := .iface 99 (.int .i64 c), recovered := true }] ∧ w' = ((w.setCell ⟨jb, 7, none⟩ (.bool true)).setCell ⟨b, 0, none⟩ (.int .i64 21)).setCell ⟨b, 0, none⟩ (.int .i64 c) := by
  refine callsD_of_wpS Tryz.func61 rfl fun c₀ cs hu => ?_
  apply wpS_seq
  apply wpS_region
  unfold bad at hu
  have hta : ∀ w, (Instr.typeAssert (.iface 99 (.int .i64 c)) 20 99 true).run Tryz.prog w = .ok (.tuple #[.int .i64 c, .bool true]) w := fun w => by kernel_rfl
  simp [wpOpsS, go_sem, recoverD, hu, Tryz.ntmps61, Exit.thenS]
  apply wpS_seq
  apply wpS_region
  simp [wpOpsS, go_sem, Exit.thenS]
  refine wpS_cond (t := true) (by simp [Act.eval, Array.replicate]) ?_
  simp only [if_true]
  apply wpS_seq
  apply wpS_region
  simp [wpOpsS, go_sem, Exit.thenS, h1, h2, h3]
  apply wpS_seq
  apply wpS_region
  simp [wpOpsS, go_sem, Exit.thenS, h4, h5]
  apply wpS_seq
  apply wpS_region
  simp [wpOpsS, go_sem, Exit.thenS, hta]
  apply wpS_seq
  apply wpS_region
  simp [wpOpsS, go_sem, Exit.thenS]
  refine wpS_cond (t := true) (by simp [Act.eval, Array.replicate]) ?_
  simp only [if_true]
  apply wpS_region
  simp [wpOpsS, go_sem, h4, h5, bodyPostS, results, Tryz.results61]
set_option maxRecDepth 100000 in
theorem try_any {w : World} {jb g : Nat} {cb : Array Value} (R : Ending → World → Prop) (eg : ∀ args w, (callFunc g args).run Tryz.prog w = .ok (.enter g args) w) (hjb : jb < w.heap.size)
    (hop : Calls Tryz.prog g cb ((w.alloc (.cells #[.pointer (some ⟨jb, 0, none⟩)] 29)).alloc (.cells #[.int .i64 0] 31)) fun e w' => Blk w' w.heap.size [.pointer (some ⟨jb, 0, none⟩)] 29 ∧ Blk w' (w.heap.size + 1) [.int .i64 0] 31 ∧
      ((e = .returned (.tuple #[]) ∧ R (.returned (.int .i64 0)) (w'.setCell ⟨w.heap.size + 1, 0, none⟩ (.int .i64 0))) ∨
       (∃ c, e = .panicked (bad c) ∧ w'.cell? ⟨jb, 7, none⟩ = some (.bool false) ∧ w'.frozen? ⟨jb, 7, none⟩ = false ∧ R (.returned (.int .i64 c)) (((w'.setCell ⟨jb, 7, none⟩ (.bool true)).setCell ⟨w.heap.size + 1, 0, none⟩ (.int .i64 21)).setCell ⟨w.heap.size + 1, 0, none⟩ (.int .i64 c))))) :
    Calls Tryz.prog 32 #[.pointer (some ⟨jb, 0, none⟩), .func (.func g) #[] cb] w R := by
  have hmf : ∀ (fn : Fn) (first cap : Array Value) (w : World), (Instr.makeFunc fn first cap).run Tryz.prog w = .ok (.func fn first cap) w := fun _ _ _ _ => rfl
  have HOP := Lib.hid hop
  clear hop
  go_enter_defers Tryz.func32, Tryz.ntmps32
  go_wp2_with fail
  refine HOP.out.mono ?_
  rintro e w' ⟨k1, k2, ⟨rfl, hR⟩ | ⟨c, rfl, h7, f7, hR⟩⟩
  · have c2 := k2.cellD 0 _ rfl
    have f2 := k2.frozen 0
    have HR := Lib.hid hR
    clear hR k1
    go_wp2_with fail
    refine leaves_cons (f := 61) (args := #[.pointer (some ⟨w.heap.size, 0, none⟩), .pointer (some ⟨w.heap.size + 1, 0, none⟩)]) (by simp) (by simp [go_sem]) ?_
    refine (catch_idle _ _ _).mono ?_
    rintro e u' w'' ⟨rfl, rfl, rfl⟩
    have hz : (w'.setCell ⟨w.heap.size + 1, 0, none⟩ (.int .i64 0)).cell? ⟨w.heap.size + 1, 0, none⟩ = some (.int .i64 0) := World.cell?_setCell_same' _ _ _ (by rw [c2]; rfl)
    have HR2 := HR.out
    generalize (w'.setCell ⟨w.heap.size + 1, 0, none⟩ (.int .i64 0)) = wz at hz HR2 ⊢
    simp [Leaves, settle, results, Tryz.results32, go_sem, hz]
    exact HR2
  · have c1 := k1.cellD 0 _ rfl
    have c2 := k2.cellD 0 _ rfl
    have f2 := k2.frozen 0
    have HR := Lib.hid hR
    clear hR
    go_wp2_with fail
    refine leaves_cons (f := 61) (args := #[.pointer (some ⟨w.heap.size, 0, none⟩), .pointer (some ⟨w.heap.size + 1, 0, none⟩)]) (by simp [bad]) (by simp [go_sem]) ?_
    refine (catch_bad w.heap.size (w.heap.size + 1) c 0 jb w' c1 h7 f7 c2 f2 (by omega)).mono ?_
    rintro e u' w'' ⟨rfl, rfl, rfl⟩
    have hz : (((w'.setCell ⟨jb, 7, none⟩ (.bool true)).setCell ⟨w.heap.size + 1, 0, none⟩ (.int .i64 21)).setCell ⟨w.heap.size + 1, 0, none⟩ (.int .i64 c)).cell? ⟨w.heap.size + 1, 0, none⟩ = some (.int .i64 c) :=
      ((((k2.set_ne (a := ⟨jb, 7, none⟩) (by show jb ≠ w.heap.size + 1; omega) (.bool true)).set 0 (.int .i64 21)).set 0 (.int .i64 c)).cellD 0 _ rfl)
    have HR2 := HR.out
    generalize (((w'.setCell ⟨jb, 7, none⟩ (.bool true)).setCell ⟨w.heap.size + 1, 0, none⟩ (.int .i64 21)).setCell ⟨w.heap.size + 1, 0, none⟩ (.int .i64 c)) = wz at hz HR2 ⊢
    simp [Leaves, settle, results, Tryz.results32, go_sem, hz]
    exact HR2
end Go.Proofs.YthfjaaigncjhlaaGreatDoor

namespace Go.Proofs.YthfjaaigncjhlaaGreatDoor
open Go.RowKit Go.Blk Go.Jn Go.Dk Go.Mp Go.Rf Go.Shelf

def TrPost (w : World) (jb b bs bm n a size half len : Nat) (pv rv : Value) (v : Nat × Nat × Nat) (r : DD × Int) (e : Ending) (w' : World) : Prop :=
  e = .returned (.int .i64 r.2) ∧ (∃ bm' pv', DiskAt w' b bs bm' pv' r.1 n ∧ Keep (fun k => k = jb ∨ Fp b bs bm pv k) w w' ∧ (bm' = bm ∨ w.heap.size ≤ bm') ∧ (∀ k, pv'.ownBlock = some k → pv.ownBlock = some k ∨ w.heap.size ≤ k)) ∧
    ((r.2 = 0 ∧ Blk w' jb (cellsJ (v.1 + 1, half, len) (1 - a) size b rv false) 63) ∨ (r.2 ≠ 0 ∧ Blk w' jb (cellsJ v a size b rv true) 63))
set_option maxRecDepth 100000 in
theorem try_cm {w : World} {jb g b bs bm n a size half len : Nat} {cb : Array Value} {pv rv : Value} {v : Nat × Nat × Nat} {d : DD} {r : DD × Int} (hd : DiskAt w b bs bm pv d n) (hj : Blk w jb (cellsJ v a size b rv false) 63) (eg : ∀ args w, (callFunc g args).run Tryz.prog w = .ok (.enter g args) w)
    (hop : ∀ W, Below w.heap.size w W → Calls Tryz.prog g cb W (CmPost W jb b bs bm n a size half len pv rv false v r)) :
    Calls Tryz.prog 32 #[.pointer (some ⟨jb, 0, none⟩), .func (.func g) #[] cb] w (TrPost w jb b bs bm n a size half len pv rv v r) := by
  have hjb : jb < w.heap.size := hj.lt
  obtain ⟨W, eW⟩ : ∃ W, W = (w.alloc (.cells #[.pointer (some ⟨jb, 0, none⟩)] 29)).alloc (.cells #[.int .i64 0] 31) := ⟨_, rfl⟩
  have TB : Below w.heap.size w W := by rw [eW]; exact ((Below.refl _ w).alloc (Nat.le_refl _) _).alloc (by simp) _
  have t1 : Blk W w.heap.size [.pointer (some ⟨jb, 0, none⟩)] 29 := by rw [eW]; exact (Blk.new w _ _).alloc _
  have t2 : Blk W (w.heap.size + 1) [.int .i64 0] 31 := by rw [eW]; exact Blk.made (by simp) rfl
  have hdW := hd.below TB
  have hjW := hj.below TB hjb
  have hWs : W.heap.size = w.heap.size + 2 := by rw [eW]; simp
  refine try_any (TrPost w jb b bs bm n a size half len pv rv v r) eg hjb ?_
  rw [← eW]
  refine (hop W TB).mono ?_
  rintro e w' (⟨c1, rfl, ⟨bm', pv', u1, u2, u3, u4⟩, c4⟩ | ⟨c1, rfl, c3⟩)
  · have k1 := t1.keepB (u2.block _ t1.lt (fun h => h.elim (fun h => by omega) (notFp hdW t1 (by decide) (by decide) (by decide))))
    have k2 := t2.keepB (u2.block _ t2.lt (fun h => h.elim (fun h => by omega) (notFp hdW t2 (by decide) (by decide) (by decide))))
    refine ⟨k1, k2, .inl ⟨rfl, by rw [c1], ⟨bm', pv', ?_, ?_, ?_, fun k hk => ?_⟩, .inl ⟨c1, c4.set_ne (a := ⟨w.heap.size + 1, 0, none⟩) (by show w.heap.size + 1 ≠ jb; omega) _⟩⟩⟩
    · exact u1.keep ((Keep.refl (fun k => k = w.heap.size + 1) w').setCell (p := ⟨w.heap.size + 1, 0, none⟩) (fun _ => rfl) _) (fun k hf e => notFp u1 k2 (by decide) (by decide) (by decide) (e ▸ hf))
    · exact (Keep.trans (F := fun k => k = jb ∨ Fp b bs bm pv k) (Keep.of_below TB) u2 (fun _ _ f => f)).setCell (p := ⟨w.heap.size + 1, 0, none⟩) (fun h => absurd h (by show ¬ w.heap.size + 1 < w.heap.size; omega)) _
    · exact u3.imp id (fun h => by omega)
    · exact (u4 k hk).imp id (fun h => by omega)
  · have k1 := c3.blk hdW t1 (by decide) (by decide) (by decide)
    have k2 := c3.blk hdW t2 (by decide) (by decide) (by decide)
    have kj := c3.blk hdW hjW (by decide) (by decide) (by decide)
    obtain ⟨bm', pv', u1, u2, u3, u4⟩ := c3
    refine ⟨k1, k2, .inr ⟨r.2, rfl, kj.cellD 7 _ rfl, kj.frozen 7, rfl, ⟨bm', pv', ?_, ?_, ?_, fun k hk => ?_⟩, .inr ⟨c1, ?_⟩⟩⟩
    · refine u1.keep (F := fun k => k = jb ∨ k = w.heap.size + 1) ((((Keep.refl (fun k => k = jb ∨ k = w.heap.size + 1) w').setCell (p := ⟨jb, 7, none⟩) (fun _ => .inl rfl) _).setCell (p := ⟨w.heap.size + 1, 0, none⟩) (fun _ => .inr rfl) _).setCell (p := ⟨w.heap.size + 1, 0, none⟩) (fun _ => .inr rfl) _) (fun k hf e => ?_)
      rcases e with e | e
      · exact notFp u1 kj (by decide) (by decide) (by decide) (e ▸ hf)
      · exact notFp u1 k2 (by decide) (by decide) (by decide) (e ▸ hf)
    · have kk : Keep (fun k => k = jb ∨ Fp b bs bm pv k) w w' := Keep.trans (F := fun k => k = jb ∨ Fp b bs bm pv k) (Keep.of_below TB) u2 (fun _ _ f => .inr f)
      exact ((kk.setCell (p := ⟨jb, 7, none⟩) (fun _ => .inl rfl) _).setCell (p := ⟨w.heap.size + 1, 0, none⟩) (fun h => absurd h (by show ¬ w.heap.size + 1 < w.heap.size; omega)) _).setCell (p := ⟨w.heap.size + 1, 0, none⟩) (fun h => absurd h (by show ¬ w.heap.size + 1 < w.heap.size; omega)) _
    · exact u3.imp id (fun h => by omega)
    · exact (u4 k hk).imp id (fun h => by omega)
    · exact ((kj.set 7 (.bool true)).set_ne (a := ⟨w.heap.size + 1, 0, none⟩) (by show w.heap.size + 1 ≠ jb; omega) _).set_ne (a := ⟨w.heap.size + 1, 0, none⟩) (by show w.heap.size + 1 ≠ jb; omega) _
end Go.Proofs.YthfjaaigncjhlaaGreatDoor

namespace Go.Proofs.YthfjaaigncjhlaaGreatDoor
open Go.RowKit Go.Blk Go.Jn Go.Dk Go.Mp Go.Rf Go.Shelf

def TePost (w0 : World) (bj jb b bs bm n a size half len : Nat) (pv rv : Value) (v : Nat × Nat × Nat) (r : DD × Int) (e : Ending) (w' : World) : Prop :=
  TrPost w0 jb b bs bm n a size half len pv rv v r e w' ∧ Blk w' bj [.pointer (some ⟨jb, 0, none⟩)] 29
set_option maxRecDepth 100000 in
theorem try_ce {w0 w : World} {jb g bj bt b bs bm n a size half len : Nat} {cb : Array Value} {pv rv : Value} {v : Nat × Nat × Nat} {d : DD} {r : DD × Int} (hd : DiskAt w0 b bs bm pv d n) (hj : Blk w0 jb (cellsJ v a size b rv false) 63) (eg : ∀ args w, (callFunc g args).run Tryz.prog w = .ok (.enter g args) w)
    (hw : w0.heap.size ≤ w.heap.size) (hbt : bt < w.heap.size) (hbj : Blk w bj [.pointer (some ⟨jb, 0, none⟩)] 29) (hne : bj ≠ bt)
    (hop : ∀ W, Below w.heap.size w W → Calls Tryz.prog g cb W (CePost w0 W jb b bs bm n a size half len bt pv rv v r)) :
    Calls Tryz.prog 32 #[.pointer (some ⟨jb, 0, none⟩), .func (.func g) #[] cb] w (TePost w0 bj jb b bs bm n a size half len pv rv v r) := by
  have hjb0 : jb < w0.heap.size := hj.lt
  have hjb : jb < w.heap.size := by omega
  obtain ⟨W, eW⟩ : ∃ W, W = (w.alloc (.cells #[.pointer (some ⟨jb, 0, none⟩)] 29)).alloc (.cells #[.int .i64 0] 31) := ⟨_, rfl⟩
  have TB : Below w.heap.size w W := by rw [eW]; exact ((Below.refl _ w).alloc (Nat.le_refl _) _).alloc (by simp) _
  have t1 : Blk W w.heap.size [.pointer (some ⟨jb, 0, none⟩)] 29 := by rw [eW]; exact (Blk.new w _ _).alloc _
  have t2 : Blk W (w.heap.size + 1) [.int .i64 0] 31 := by rw [eW]; exact Blk.made (by simp) rfl
  have tj := hbj.below TB hbj.lt
  have hbjw : bj < w.heap.size := hbj.lt
  have hWs : W.heap.size = w.heap.size + 2 := by rw [eW]; simp
  refine try_any (TePost w0 bj jb b bs bm n a size half len pv rv v r) eg hjb ?_
  rw [← eW]
  refine (hop W TB).mono ?_
  rintro e w' ⟨W1, hb1, ho1, hs1, hc⟩
  have hdW := hd.below hb1
  have hjW := hj.below hb1 hjb0
  have t1 := kept_blk ho1 t1 (by decide) (by omega)
  have t2 := kept_blk ho1 t2 (by decide) (by omega)
  have tj := kept_blk ho1 tj (by decide) hne
  have hjj : bj ≠ jb := fun e => by
    have h1 : W1.heap[bj]? = _ := tj
    have h2 : W1.heap[jb]? = _ := hjW
    rw [e, h2] at h1
    simp at h1
  have hbs := hb1.size
  rcases hc with ⟨c1, rfl, ⟨bm', pv', u1, u2, u3, u4⟩, c4⟩ | ⟨c1, rfl, c3⟩
  · have k1 := t1.keepB (u2.block _ t1.lt (fun h => h.elim (fun h => by omega) (notFp hdW t1 (by decide) (by decide) (by decide))))
    have k2 := t2.keepB (u2.block _ t2.lt (fun h => h.elim (fun h => by omega) (notFp hdW t2 (by decide) (by decide) (by decide))))
    have kj := tj.keepB (u2.block _ tj.lt (fun h => h.elim (fun h => hjj h) (notFp hdW tj (by decide) (by decide) (by decide))))
    refine ⟨k1, k2, .inl ⟨rfl, ⟨by rw [c1], ⟨bm', pv', ?_, ?_, ?_, fun k hk => ?_⟩, .inl ⟨c1, c4.set_ne (a := ⟨w.heap.size + 1, 0, none⟩) (by show w.heap.size + 1 ≠ jb; omega) _⟩⟩, ?_⟩⟩
    · exact u1.keep ((Keep.refl (fun k => k = w.heap.size + 1) w').setCell (p := ⟨w.heap.size + 1, 0, none⟩) (fun _ => rfl) _) (fun k hf e => notFp u1 k2 (by decide) (by decide) (by decide) (e ▸ hf))
    · exact (Keep.trans (F := fun k => k = jb ∨ Fp b bs bm pv k) (Keep.of_below hb1) u2 (fun _ _ f => f)).setCell (p := ⟨w.heap.size + 1, 0, none⟩) (fun h => absurd h (by show ¬ w.heap.size + 1 < w0.heap.size; omega)) _
    · exact u3.imp id (fun h => by omega)
    · exact (u4 k hk).imp id (fun h => by omega)
    · exact kj.set_ne (a := ⟨w.heap.size + 1, 0, none⟩) (by show w.heap.size + 1 ≠ bj; omega) _
  · have k1 := c3.blk hdW t1 (by decide) (by decide) (by decide)
    have k2 := c3.blk hdW t2 (by decide) (by decide) (by decide)
    have kj2 := c3.blk hdW tj (by decide) (by decide) (by decide)
    have kj := c3.blk hdW hjW (by decide) (by decide) (by decide)
    obtain ⟨bm', pv', u1, u2, u3, u4⟩ := c3
    refine ⟨k1, k2, .inr ⟨r.2, rfl, kj.cellD 7 _ rfl, kj.frozen 7, ⟨rfl, ⟨bm', pv', ?_, ?_, ?_, fun k hk => ?_⟩, .inr ⟨c1, ?_⟩⟩, ?_⟩⟩
    · refine u1.keep (F := fun k => k = jb ∨ k = w.heap.size + 1) ((((Keep.refl (fun k => k = jb ∨ k = w.heap.size + 1) w').setCell (p := ⟨jb, 7, none⟩) (fun _ => .inl rfl) _).setCell (p := ⟨w.heap.size + 1, 0, none⟩) (fun _ => .inr rfl) _).setCell (p := ⟨w.heap.size + 1, 0, none⟩) (fun _ => .inr rfl) _) (fun k hf e => ?_)
      rcases e with e | e
      · exact notFp u1 kj (by decide) (by decide) (by decide) (e ▸ hf)
      · exact notFp u1 k2 (by decide) (by decide) (by decide) (e ▸ hf)
    · have kk : Keep (fun k => k = jb ∨ Fp b bs bm pv k) w0 w' := Keep.trans (F := fun k => k = jb ∨ Fp b bs bm pv k) (Keep.of_below hb1) u2 (fun _ _ f => .inr f)
      exact ((kk.setCell (p := ⟨jb, 7, none⟩) (fun _ => .inl rfl) _).setCell (p := ⟨w.heap.size + 1, 0, none⟩) (fun h => absurd h (by show ¬ w.heap.size + 1 < w0.heap.size; omega)) _).setCell (p := ⟨w.heap.size + 1, 0, none⟩) (fun h => absurd h (by show ¬ w.heap.size + 1 < w0.heap.size; omega)) _
    · exact u3.imp id (fun h => by omega)
    · exact (u4 k hk).imp id (fun h => by omega)
    · exact ((kj.set 7 (.bool true)).set_ne (a := ⟨w.heap.size + 1, 0, none⟩) (by show w.heap.size + 1 ≠ jb; omega) _).set_ne (a := ⟨w.heap.size + 1, 0, none⟩) (by show w.heap.size + 1 ≠ jb; omega) _
    · exact ((kj2.set_ne (a := ⟨jb, 7, none⟩) (Ne.symm hjj) _).set_ne (a := ⟨w.heap.size + 1, 0, none⟩) (by show w.heap.size + 1 ≠ bj; omega) _).set_ne (a := ⟨w.heap.size + 1, 0, none⟩) (by show w.heap.size + 1 ≠ bj; omega) _
end Go.Proofs.YthfjaaigncjhlaaGreatDoor
