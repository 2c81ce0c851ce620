/- The reference's journal: commit. Condition: the journal lies in memory. The reference's journal: change. Condition: an unbroken journal whose disk is on. The reference's journal: Append, Compact, Records. Condition: an unbroken journal's disk is on. The reference's journal: Compact. Condition: an unbroken journal's disk is on. -/
import Derived.Test.YthfjaaigncjhlaaGreatDoorY2
import Derived.BigRegion
namespace Go.Proofs.YthfjaaigncjhlaaGreatDoor
open Go.RowKit Go.Blk Go.Jn Go.Dk Go.Mp Go.Rf Go.Shelf Go.Apl Go.Opn

theorem put_few {n s : Nat} {t : List UInt8} {d : DD} (h : (putD n s t d).2 = 0) : (putD n s t d).1.pend = [] := by
  unfold putD at h ⊢
  by_cases hc : (DD.write n d (s : Int) t).2 = 0
  · rw [if_pos hc] at h ⊢; exact sync_few h
  · rw [if_neg hc] at h; exact absurd h hc
/-- What commit leaves. -/
def RCmPost (w : World) (rb b bs cp n a half len : Nat) (pv rv : Value) (br : Bool) (v : Nat × Nat × Nat) (r : DD × Int) (e : Ending) (w' : World) : Prop :=
  e = .returned (.int .i64 r.2) ∧ ∃ pv', RDAt w' b bs cp pv' r.1 n ∧ Keep (fun k => k = rb ∨ RFp b bs pv k) w w' ∧ (∀ k, pv'.ownBlock = some k → pv.ownBlock = some k ∨ w.heap.size ≤ k) ∧
    Blk w' rb (if r.2 = 0 then cellsK (v.1 + 1, half, len) (1 - a) n b rv br else cellsK v a n b rv br) 73
section
variable {w w' : World} {rb b bs cp n : Nat} {pv rv : Value} {d d1 d2 : DD}
set_option maxRecDepth 100000 in
set_option maxHeartbeats 4000000 in
theorem rcommit_any {a half len : Nat} {v : Nat × Nat × Nat} {br : Bool} (hd : RDAt w b bs cp pv d n) {w1 : World} (h : RkTo w b bs cp n pv d1 w1) (hj : Blk w rb (cellsK v a n b rv br) 73) (ha : a ≤ 1) (hh : half ≤ 1) (hl : len ≤ 999999) (hnum : v.1 < 999999999) (hf : d1.pend.length < 1000000) :
    Calls Tryz.prog 73 #[.pointer (some ⟨rb, 0, none⟩), .int .i64 (half : Int), .int .i64 (len : Int)] w1 (RCmPost w rb b bs cp n a half len pv rv br v (commitD n a v.1 half len d1)) := by
  obtain ⟨R, eR⟩ : ∃ R, R = RCmPost w rb b bs cp n a half len pv rv br v (commitD n a v.1 half len d1) := ⟨_, rfl⟩
  rw [← eR]
  have hb1 := h.blk hd hj (by decide) (by decide) (by decide)
  have c3 := hb1.cellD 3 _ rfl
  obtain ⟨num, hf0, ln⟩ := v
  dsimp only at hnum c3
  have w2 : IntKind.i64.wrap ((num : Int) + 1) = ((num + 1 : Nat) : Int) := by rw [IntWalk.i64_left, IntWalk.wrap64_in _ ⟨by omega, by omega⟩]; omega
  have D1 := Lib.hid (rdigits_any 9 (num + 1) w1 (by decide) (by decide) (by omega) (by omega))
  have D2 := Lib.hid (rdigits_any 1 half w1 (by decide) (by decide) (by omega) (by omega))
  have D3 := Lib.hid (rdigits_any 6 len w1 (by decide) (by decide) (by omega) (by omega))
  have ZE := Lib.hid (rzero45_any w1)
  have P1 := Lib.hid (rput_any hd h hj ha blankL hf)
  have hvt : tx (padL 9 (num + 1)) ++ tx (padL 1 half) ++ tx (padL 6 len) = tx (vt (num + 1) half len) := by
    apply ByteArray.ext
    unfold vt
    simp [tx, ByteArray.data_append]
  have hvv : tx (vt (num + 1) half len) ++ tx (vt (num + 1) half len) = tx (vt (num + 1) half len ++ vt (num + 1) half len) := by
    apply ByteArray.ext
    simp [tx, ByteArray.data_append]
  have l1 : (tx (padL 9 (num + 1))).size = 9 := by rw [tx_size]; exact padL_len (by decide) (by omega)
  have l2 : (tx (padL 1 half)).size = 1 := by rw [tx_size]; exact padL_len (by decide) (by omega)
  have l3 : (tx (padL 6 len)).size = 6 := by rw [tx_size]; exact padL_len (by decide) (by omega)
  obtain ⟨A, eA⟩ : ∃ A, A = tx (padL 9 (num + 1)) := ⟨_, rfl⟩
  obtain ⟨B, eB⟩ : ∃ B, B = tx (padL 1 half) := ⟨_, rfl⟩
  obtain ⟨C, eC⟩ : ∃ C, C = tx (padL 6 len) := ⟨_, rfl⟩
  rw [← eA] at hvt l1 D1
  rw [← eB] at hvt l2 D2
  rw [← eC] at hvt l3 D3
  obtain ⟨V, eV⟩ : ∃ V, V = tx (vt (num + 1) half len) := ⟨_, rfl⟩
  rw [← eV] at hvt hvv
  have l4 : (A ++ B).size = 10 := by rw [ByteArray.size_append, l1, l2]
  have l5 : V.size = 16 := by rw [← hvt, ByteArray.size_append, l4, l3]
  obtain ⟨r1, er1⟩ : ∃ r1, r1 = putD n (1 - a) blankL d1 := ⟨_, rfl⟩
  have FEW : Hid (r1.2 = 0 → r1.1.pend = []) := fun h => by rw [er1] at h ⊢; exact put_few h
  rw [← er1] at P1
  have ER1 : Hid (∀ h : r1.2 ≠ 0, commitD n a num half len d1 = r1) := fun h => by unfold commitD; rw [← er1, if_neg h]
  have ER2 : Hid (∀ h : r1.2 = 0, commitD n a num half len d1 = putD n (1 - a) (vt (num + 1) half len ++ vt (num + 1) half len) r1.1) := fun h => by unfold commitD; rw [← er1, if_pos h]
  have P2 := Lib.hid (fun (w3 : World) (d3 : DD) (h3 : RkTo w b bs cp n pv d3 w3) (hf3 : d3.pend.length < 1000000) => rput_any hd h3 hj ha (vt (num + 1) half len ++ vt (num + 1) half len) hf3)
  rw [← hvv] at P2
  have ER := Lib.hid eR
  have HVT := Lib.hid hvt
  have FIN : Hid (∀ (r : DD × Int) w', commitD n a num half len d1 = r → r.2 ≠ 0 → RkTo w b bs cp n pv r.1 w' → R (.returned (.int .i64 r.2)) w') := fun r w' e hr hto => by
    rw [eR, e]
    have hbk := hto.blk hd hj (by decide) (by decide) (by decide)
    obtain ⟨pv', h1, h2, h3⟩ := hto
    refine ⟨rfl, pv', h1, h2.mono (fun k _ f => .inr f), h3, ?_⟩
    rw [if_neg hr]; exact hbk
  have BK : Hid (∀ d' w', RkTo w b bs cp n pv d' w' → Blk w' rb (cellsK (num, hf0, ln) a n b rv br) 73) := fun d' w' h' => h'.blk hd hj (by decide) (by decide) (by decide)
  have HNF : Hid (¬ RFp b bs pv rb ∧ rb < w.heap.size) := ⟨rnotFp hd hj (by decide) (by decide) (by decide), hj.lt⟩
  clear eR hvt hvv eA eB eC eV er1 hd h hj hb1
  go_enter Tryz.func73, Tryz.ntmps73
  go_wp2_with fail
  refine D1.out.mono ?_
  rintro e w' ⟨rfl, rfl⟩
  go_wp2_with fail
  refine D2.out.mono ?_
  rintro e w' ⟨rfl, rfl⟩
  go_wp2_with fail
  refine D3.out.mono ?_
  rintro e w' ⟨rfl, rfl⟩
  clear D1 D2 D3
  go_wp2_with fail
  refine ZE.out.mono ?_
  rintro e w' ⟨rfl, rfl⟩
  try rw [HVT.out]
  clear ZE
  go_wp2_with fail
  refine P1.out.mono ?_
  rintro e w4 ⟨rfl, h4⟩
  by_cases hc : r1.2 = 0
  · have hc1 : (r1.2 == 0) = true := by simpa using hc
    have PP := Lib.hid (P2.out w4 _ h4 (by rw [FEW.out hc]; decide))
    obtain ⟨r2, er2⟩ : ∃ r2, r2 = putD n (1 - a) (vt (num + 1) half len ++ vt (num + 1) half len) r1.1 := ⟨_, rfl⟩
    rw [← er2] at PP
    have EC := Lib.hid (ER2.out hc)
    rw [← er2] at EC
    clear P1 P2 h4 er2 ER1 ER2
    go_wp2_with fail
    refine PP.out.mono ?_
    rintro e w5 ⟨rfl, h5⟩
    by_cases hc2 : r2.2 = 0
    · have hc3 : (r2.2 == 0) = true := by simpa using hc2
      have hb5 := BK.out _ _ h5
      have H5 := Lib.hid h5
      have HB5 := Lib.hid hb5
      have c2 := hb5.cellD 2 _ rfl
      have c3 := hb5.cellD 3 _ rfl
      have c4 := hb5.cellD 4 _ rfl
      have c5 := hb5.cellD 5 _ rfl
      have f2 := hb5.frozen 2
      have f3 := hb5.frozen 3
      have f4 := hb5.frozen 4
      have f5 := hb5.frozen 5
      obtain ⟨q, eq⟩ : ∃ q, q = 1 - a := ⟨_, rfl⟩
      have x1 : IntKind.i64.wrap (1 - (a : Int)) = (q : Int) := by rw [IntWalk.i64_left, IntWalk.wrap64_in _ ⟨by omega, by omega⟩]; omega
      have B2 := hb5.set 2 (.int .i64 (q : Int))
      have B3 := B2.set 3 (.int .i64 ((num : Int) + 1))
      have B4 := B3.set 4 (.int .i64 (half : Int))
      have B5 := B4.set 5 (.int .i64 (len : Int))
      have hk0 : Keep (fun k => k = rb) w5 ((((w5.setCell ⟨rb, 2, none⟩ (.int .i64 (q : Int))).setCell ⟨rb, 3, none⟩ (.int .i64 ((num : Int) + 1))).setCell ⟨rb, 4, none⟩ (.int .i64 (half : Int))).setCell ⟨rb, 5, none⟩ (.int .i64 (len : Int))).drew := (((((Keep.refl (fun k => k = rb) w5).setCell (p := ⟨rb, 2, none⟩) (fun _ => rfl) _).setCell (p := ⟨rb, 3, none⟩) (fun _ => rfl) _).setCell (p := ⟨rb, 4, none⟩) (fun _ => rfl) _).setCell (p := ⟨rb, 5, none⟩) (fun _ => rfl) _).drew
      have G : Hid (R (.returned (.int .i64 0)) ((((w5.setCell ⟨rb, 2, none⟩ (.int .i64 (q : Int))).setCell ⟨rb, 3, none⟩ (.int .i64 ((num : Int) + 1))).setCell ⟨rb, 4, none⟩ (.int .i64 (half : Int))).setCell ⟨rb, 5, none⟩ (.int .i64 (len : Int))).drew) := by
        rw [ER.out, EC.out]
        obtain ⟨pv5, k1, k2, k3⟩ := h5
        have hne := rnotFp k1 HB5.out (by decide) (by decide) (by decide)
        refine ⟨by rw [hc2], pv5, k1.keep hk0 (fun k hf e => hne (by rw [← e]; exact hf)), (k2.mono (G := fun k => k = rb ∨ RFp b bs pv k) (fun k _ f => .inr f)).trans hk0 (fun k _ e => .inl e), k3, ?_⟩
        rw [if_pos hc2, ← eq]
        have e1 : ((num + 1 : Nat) : Int) = (num : Int) + 1 := by omega
        have := B5.drew
        unfold cellsK at this ⊢
        dsimp only at this ⊢
        rw [e1]
        exact this
      clear PP h5 hb5 eq B2 B3 B4 B5 hk0
      go_wp2_with fail
      go_region
      go_wp2_with fail
      first
        | exact G.out
        | (go_ret; exact G.out)
    · have hc3 : (r2.2 == 0) = false := by simpa using hc2
      have G := Lib.hid (FIN.out r2 w5 EC.out hc2 h5)
      clear PP h5
      go_wp2_with fail
      first
        | exact G.out
        | (go_ret; exact G.out)
  · have hc1 : (r1.2 == 0) = false := by simpa using hc
    have G := Lib.hid (FIN.out r1 w4 (ER1.out hc) hc h4)
    clear P1 P2 h4
    go_wp2_with fail
    first
      | exact G.out
      | (go_ret; exact G.out)
end
end Go.Proofs.YthfjaaigncjhlaaGreatDoor

namespace Go.Jn
open Go Go.Dk
theorem storeGo_few {n base off : Nat} {text : List UInt8} : ∀ (ks : List Nat) (d : DD), (storeGo n base off text ks d).2 = 0 → (storeGo n base off text ks d).1.pend = []
  | [], d, h => by
    unfold storeGo at h ⊢
    unfold DD.sync at h ⊢
    split at h
    · split at h
      · exact absurd h (show ¬ ((21 : Int) = 0) by decide)
      · rename_i h1 h2
        rw [if_pos h1, if_neg h2]
    · exact absurd h (show ¬ ((21 : Int) = 0) by decide)
  | k :: r, d, h => by
    unfold storeGo at h ⊢
    split at h
    · rename_i h1
      rw [if_pos h1]
      split at h
      · rename_i h2
        rw [if_pos h2]
        exact storeGo_few r _ h
      · rename_i h2
        exact absurd h h2
    · rename_i h1
      exact absurd h h1
theorem storeD_fewR {n base off : Nat} {text : List UInt8} {d : DD} (hp : d.pend.length ≤ 900000) (h : (storeD n base off text d).2 = 0) : (storeD n base off text d).1.pend.length < 1000000 := by
  unfold storeD at h ⊢
  split at h
  · rename_i h1
    rw [if_pos h1]
    show d.pend.length < _
    omega
  · rename_i h1
    rw [if_neg h1, storeGo_few _ _ h]
    decide
end Go.Jn
namespace Go.Proofs.YthfjaaigncjhlaaGreatDoor
open Go.RowKit Go.Blk Go.Jn Go.Dk Go.Mp Go.Rf Go.Shelf Go.Apl Go.Opn

structure RJAt (w : World) (rb b bs cp : Nat) (pv rv : Value) (n : Nat) (s : JS) : Prop where
  n4 : 4 ≤ n
  disk : RDAt w b bs cp pv s.d n
  blk : Blk w rb (cellsK s.v s.a n b rv s.broken) 73
  row : RowT w 0 rv s.recs
  ne : rv.ownBlock ≠ some bs
  num : s.v.1 ≤ 999999999
  hf : s.v.2.1 ≤ 1
  len : s.v.2.2 ≤ 32 * ((n - 2) / 2)
  at_ : s.a ≤ 1
def RJFp (rb b bs : Nat) (pv rv : Value) (k : Nat) : Prop := k = rb ∨ rv.ownBlock = some k ∨ RFp b bs pv k
/-- What change leaves, where there is room. -/
def RChPost (w : World) (rb b bs cp n a half len : Nat) (pv rv : Value) (v : Nat × Nat × Nat) (r : DD × Int) (e : Ending) (w' : World) : Prop :=
  e = .returned (.int .i64 r.2) ∧ ∃ pv', RDAt w' b bs cp pv' r.1 n ∧ Keep (fun k => k = rb ∨ RFp b bs pv k) w w' ∧ (∀ k, pv'.ownBlock = some k → pv.ownBlock = some k ∨ w.heap.size ≤ k) ∧
    Blk w' rb (if r.2 = 0 then cellsK (v.1 + 1, half, len) (1 - a) n b rv false else cellsK v a n b rv true) 73
set_option maxRecDepth 100000 in
set_option maxHeartbeats 1000000 in
theorem rchange_full {w : World} {rb b bs cp n : Nat} {pv rv : Value} {s : JS} (h : RJAt w rb b bs cp pv rv n s) (half off : Nat) (t : ByteArray) (hoff : off ≤ 64000) (ht : t.size ≤ 1000000000) (hc : 32 * ((n - 2) / 2) < off + t.size ∨ s.v.1 = 999999999) :
    Calls Tryz.prog 47 #[.pointer (some ⟨rb, 0, none⟩), .int .i64 (half : Int), .int .i64 (off : Int), .string t] w fun e w' => e = .returned (.int .i64 19) ∧ w = w' := by
  have hn2 := h.disk.ok.n2
  have hn := h.n4
  have c1 := h.blk.cellD 1 _ rfl
  have c3 := h.blk.cellD 3 _ rfl
  obtain ⟨q, eq⟩ : ∃ q, q = (n - 2) / 2 := ⟨_, rfl⟩
  have SZ := Lib.hid (rsize_any n w hn hn2)
  rw [← eq] at SZ hc
  have hq4 : q ≤ 2000 := by omega
  obtain ⟨sd, ⟨num, hf0, ln⟩, sa, srec, sbr⟩ := s
  dsimp only at c3 hc
  have hnum : num ≤ 999999999 := h.num
  clear h eq
  by_cases h1 : 32 * q < off + t.size
  · have g1 : 32 * (q : Int) < (off : Int) + (t.size : Int) := by omega
    go_enter Tryz.func47, Tryz.ntmps47
    go_wp2_with fail
    refine SZ.out.mono ?_
    rintro e w' ⟨rfl, rfl⟩
    go_wp2_with fail
    go_ret
    exact ⟨rfl, rfl⟩
  · have g1 : ¬ 32 * (q : Int) < (off : Int) + (t.size : Int) := by omega
    obtain rfl : num = 999999999 := by omega
    go_enter Tryz.func47, Tryz.ntmps47
    go_wp2_with fail
    refine SZ.out.mono ?_
    rintro e w' ⟨rfl, rfl⟩
    go_wp2_with fail
    go_ret
    exact ⟨rfl, rfl⟩
set_option maxRecDepth 100000 in
set_option maxHeartbeats 1000000 in
theorem rchange_any {w : World} {rb b bs cp n : Nat} {pv rv : Value} {s : JS} (h : RJAt w rb b bs cp pv rv n s) (hbr : s.broken = false) (hon : s.d.on = true) (hpend : s.d.pend.length ≤ 900000) (half off : Nat) (hh : half ≤ 1) (text : List UInt8) (hroom : off + text.length ≤ 32 * ((n - 2) / 2)) (hnm : s.v.1 < 999999999) :
    Calls Tryz.prog 47 #[.pointer (some ⟨rb, 0, none⟩), .int .i64 (half : Int), .int .i64 (off : Int), .string (tx text)] w (RChPost w rb b bs cp n s.a half (off + text.length) pv rv s.v (changeD n s.a s.v.1 half off text s.d)) := by
  have hn2 := h.disk.ok.n2
  have hn := h.n4
  have c0 := h.blk.cellD 0 _ rfl
  have c1 := h.blk.cellD 1 _ rfl
  have c3 := h.blk.cellD 3 _ rfl
  obtain ⟨R, eR⟩ : ∃ R, R = RChPost w rb b bs cp n s.a half (off + text.length) pv rv s.v (changeD n s.a s.v.1 half off text s.d) := ⟨_, rfl⟩
  rw [← eR]
  have RD := rread_any h.disk 0
  have hrd : DD.read n s.d 0 = (sec (eff s.d) 0, 0) := read_eff h.disk.ok hon (s := 0) (by omega)
  rw [hrd] at RD
  obtain ⟨z, ez⟩ : ∃ z : ByteArray, z = ⟨(sec (eff s.d) 0).toArray⟩ := ⟨_, rfl⟩
  rw [← ez] at RD
  have RDH := Lib.hid RD
  have ST := rstore_any h.disk hon hn h.blk hh hroom hpend
  have FW := Lib.hid (fun (h2 : (storeD n (2 + half * ((n - 2) / 2)) off text s.d).2 = 0) => storeD_fewR (n := n) (base := 2 + half * ((n - 2) / 2)) (off := off) (text := text) hpend h2)
  obtain ⟨r1, er1⟩ : ∃ r1, r1 = storeD n (2 + half * ((n - 2) / 2)) off text s.d := ⟨_, rfl⟩
  rw [← er1] at ST FW
  have CM := Lib.hid (fun (w1 : World) (h1 : RkTo w b bs cp n pv r1.1 w1) (hf : r1.1.pend.length < 1000000) => rcommit_any (half := half) (len := off + text.length) h.disk h1 h.blk h.at_ hh (by omega) hnm hf)
  have E1 : Hid (r1.2 ≠ 0 → changeD n s.a s.v.1 half off text s.d = r1) := fun h2 => by unfold changeD; rw [← er1, if_neg h2]
  have E2 : Hid (r1.2 = 0 → changeD n s.a s.v.1 half off text s.d = commitD n s.a s.v.1 half (off + text.length) r1.1) := fun h2 => by unfold changeD; rw [← er1, if_pos h2]
  have STH := Lib.hid ST
  obtain ⟨q, eq⟩ : ∃ q, q = (n - 2) / 2 := ⟨_, rfl⟩
  have SZ := Lib.hid (rsize_any n w hn hn2)
  rw [← eq] at SZ hroom
  have hq4 : q ≤ 2000 := by omega
  have htl := tx_size text
  obtain ⟨T, eT⟩ : ∃ T, T = tx text := ⟨_, rfl⟩
  rw [← eT] at STH htl ⊢
  have ER := Lib.hid eR
  have HD := Lib.hid h.disk
  have HJ := Lib.hid h.blk
  obtain ⟨sd, ⟨num, hf0, ln⟩, sa, srec, sbr⟩ := s
  have hbr : sbr = false := hbr
  subst hbr
  dsimp only at c3 hnm
  have g1 : ¬ 32 * (q : Int) < (off : Int) + (T.size : Int) := by omega
  have g2 : ((num : Int) == 999999999) = false := by simp; omega
  have g3 : ¬ (num : Int) = 999999999 := by omega
  have hT : T.size ≤ 64000 := by omega
  have ho : off ≤ 64000 := by omega
  have TL := Lib.hid htl
  have CJ : Hid (∀ w' d', RkTo w b bs cp n pv d' w' → w'.cell? ⟨rb, 0, none⟩ = some (.pointer (some ⟨b, 0, none⟩))) := fun w' d' h' => (h'.blk h.disk h.blk (by decide) (by decide) (by decide)).cellD 0 _ rfl
  clear eR RD hrd ez ST er1 eq eT hon hpend htl hroom
  go_enter Tryz.func47, Tryz.ntmps47
  go_wp2_with fail
  refine SZ.out.mono ?_
  rintro e w' ⟨rfl, rfl⟩
  go_wp2_with fail
  refine RDH.out.mono ?_
  rintro e w' ⟨rfl, rfl⟩
  clear RDH SZ
  go_wp2_with fail
  refine STH.out.mono ?_
  rintro e w4 ⟨rfl, h4⟩
  by_cases hc : r1.2 = 0
  · have hc1 : (r1.2 == 0) = true := by simpa using hc
    have CMH := CM.out w4 h4 (FW.out hc)
    obtain ⟨r2, er2⟩ : ∃ r2, r2 = commitD n sa num half (off + text.length) r1.1 := ⟨_, rfl⟩
    have EC := E2.out hc
    try dsimp only at CMH EC
    rw [← er2] at CMH EC
    have ECH := Lib.hid EC
    have wl : ((off + text.length : Nat) : Int) = (off : Int) + (T.size : Int) := by have := TL.out; omega
    rw [wl] at CMH
    have CMH2 := Lib.hid CMH
    clear CM STH h4 er2 EC E1 E2 FW CMH wl
    go_wp2_with fail
    refine CMH2.out.mono ?_
    rintro e w5 ⟨rfl, pv5, hd5, hk5, hv5, hb5⟩
    by_cases hc2 : r2.2 = 0
    · rw [if_pos hc2] at hb5
      have hc3 : (r2.2 == 0) = true := by simpa using hc2
      have hc4 : (r2.2 != 0) = false := by simpa using hc2
      have c7 := hb5.cellD 7 _ rfl
      have f7 := hb5.frozen 7
      have B7 := hb5.set 7 (.bool false)
      have hk0 : Keep (fun k => k = rb) w5 (w5.setCell ⟨rb, 7, none⟩ (.bool false)) := (Keep.refl (fun k => k = rb) w5).setCell (p := ⟨rb, 7, none⟩) (fun _ => rfl) _
      have hne := rnotFp hd5 hb5 (by decide) (by decide) (by decide)
      have G : Hid (R (.returned (.int .i64 0)) (w5.setCell ⟨rb, 7, none⟩ (.bool false))) := by
        rw [ER.out]
        try dsimp only
        rw [ECH.out]
        refine ⟨by rw [hc2], pv5, hd5.keep hk0 (fun k hf e => hne (by rw [← e]; exact hf)), hk5.trans hk0 (fun k _ e => .inl e), hv5, ?_⟩
        rw [if_pos hc2]
        exact B7
      clear hd5 hk5 hv5 hb5 B7 hk0 hne CMH2
      go_wp2_with fail
      first
        | exact G.out
        | (go_ret; exact G.out)
    · rw [if_neg hc2] at hb5
      have hc3 : (r2.2 == 0) = false := by simpa using hc2
      have hc4 : (r2.2 != 0) = true := by simpa using hc2
      have c7 := hb5.cellD 7 _ rfl
      have f7 := hb5.frozen 7
      have B7 := hb5.set 7 (.bool true)
      have hk0 : Keep (fun k => k = rb) w5 (w5.setCell ⟨rb, 7, none⟩ (.bool true)) := (Keep.refl (fun k => k = rb) w5).setCell (p := ⟨rb, 7, none⟩) (fun _ => rfl) _
      have hne := rnotFp hd5 hb5 (by decide) (by decide) (by decide)
      have G : Hid (R (.returned (.int .i64 r2.2)) (w5.setCell ⟨rb, 7, none⟩ (.bool true))) := by
        rw [ER.out]
        try dsimp only
        rw [ECH.out]
        refine ⟨rfl, pv5, hd5.keep hk0 (fun k hf e => hne (by rw [← e]; exact hf)), hk5.trans hk0 (fun k _ e => .inl e), hv5, ?_⟩
        rw [if_neg hc2]
        exact B7
      clear hd5 hk5 hv5 hb5 B7 hk0 hne CMH2
      go_wp2_with fail
      first
        | exact G.out
        | (go_ret; exact G.out)
  · have hc1 : (r1.2 == 0) = false := by simpa using hc
    have hc4 : (r1.2 != 0) = true := by simpa using hc
    have hb4 := h4.blk HD.out HJ.out (by decide) (by decide) (by decide)
    obtain ⟨pv4, hd4, hk4, hv4⟩ := h4
    have EC := Lib.hid (E1.out hc)
    have c7 := hb4.cellD 7 _ rfl
    have f7 := hb4.frozen 7
    have B7 := hb4.set 7 (.bool true)
    have hk0 : Keep (fun k => k = rb) w4 (w4.setCell ⟨rb, 7, none⟩ (.bool true)) := (Keep.refl (fun k => k = rb) w4).setCell (p := ⟨rb, 7, none⟩) (fun _ => rfl) _
    have hne := rnotFp hd4 hb4 (by decide) (by decide) (by decide)
    have G : Hid (R (.returned (.int .i64 r1.2)) (w4.setCell ⟨rb, 7, none⟩ (.bool true))) := by
      rw [ER.out]
      have := EC.out
      try dsimp only at this ⊢
      rw [this]
      refine ⟨rfl, pv4, hd4.keep hk0 (fun k hf e => hne (by rw [← e]; exact hf)), (hk4.mono (G := fun k => k = rb ∨ RFp b bs pv k) (fun k _ f => .inr f)).trans hk0 (fun k _ e => .inl e), hv4, ?_⟩
      rw [if_neg hc]
      exact B7
    clear hd4 hk4 hv4 hb4 B7 hk0 hne CM STH
    go_wp2_with fail
    first
      | exact G.out
      | (go_ret; exact G.out)
end Go.Proofs.YthfjaaigncjhlaaGreatDoor

namespace Go.Proofs.YthfjaaigncjhlaaGreatDoor
open Go.RowKit Go.Blk Go.Jn Go.Dk Go.Mp Go.Rf Go.Shelf Go.Apl Go.Opn

/-- What an operation leaves. -/
def RJPost (w : World) (rb b bs cp n : Nat) (pv rv : Value) (p : JS × Int) (e : Ending) (w' : World) : Prop :=
  e = .returned (.int .i64 p.2) ∧ ∃ pv' rv', RJAt w' rb b bs cp pv' rv' n p.1 ∧ Keep (fun k => k = rb ∨ RFp b bs pv k) w w' ∧ (∀ k, pv'.ownBlock = some k → pv.ownBlock = some k ∨ w.heap.size ≤ k) ∧ (∀ k, rv'.ownBlock = some k → rv.ownBlock = some k ∨ w.heap.size ≤ k)
section
variable {w w' : World} {rb b bs cp n : Nat} {pv rv : Value} {s : JS}
theorem RJAt.keep {F : Nat → Prop} (h : RJAt w rb b bs cp pv rv n s) (hk : Keep F w w') (hF : ∀ k, RJFp rb b bs pv rv k → ¬ F k) : RJAt w' rb b bs cp pv rv n s :=
  ⟨h.n4, h.disk.keep hk (fun k hh => hF k (.inr (.inr hh))), h.blk.keepB (hk.block rb h.blk.lt (hF rb (.inl rfl))),
    h.row.keep (fun k e => hk.block k (World.ownsRow.lt h.row k e).2 (hF k (.inr (.inl e)))), h.ne, h.num, h.hf, h.len, h.at_⟩
theorem RJAt.lt (h : RJAt w rb b bs cp pv rv n s) {k : Nat} (hk : RJFp rb b bs pv rv k) : k < w.heap.size := by
  rcases hk with rfl | e | e
  · exact h.blk.lt
  · exact (World.ownsRow.lt h.row k e).2
  · exact h.disk.lt e
theorem RJAt.below (h : RJAt w rb b bs cp pv rv n s) (hb : Below w.heap.size w w') : RJAt w' rb b bs cp pv rv n s := h.keep (F := fun _ => False) (Keep.of_below hb) (fun _ _ f => f)
theorem RJPost.same (h : RJAt w rb b bs cp pv rv n s) (hb : Below w.heap.size w w') (c : Int) : RJPost w rb b bs cp n pv rv (s, c) (.returned (.int .i64 c)) w' :=
  ⟨rfl, pv, rv, h.below hb, Keep.of_below hb, fun _ h => .inl h, fun _ h => .inl h⟩
theorem RJAt.rowne (h : RJAt w rb b bs cp pv rv n s) : rv.ownBlock ≠ some rb ∧ (∀ k, rv.ownBlock = some k → ¬ RFp b bs pv k) := by
  refine ⟨row_ne h.row h.blk (by decide), fun k e hf => ?_⟩
  rcases hf with rfl | rfl | e2
  · exact row_ne h.row h.disk.blk (by decide) e
  · exact h.ne e
  · rcases h.disk.pend.2 with ⟨h0, _⟩ | ⟨g, cap, cur, h0, _, h3, _⟩
    · rw [h0] at e2; simp [Value.ownBlock] at e2
    · rw [h0] at e2
      have : g = k := by simpa [Value.ownBlock] using e2
      subst this
      exact row_ne h.row (cs := cur.toList) (T := 89) (by unfold Blk; simpa using h3) (by decide) e
set_option maxRecDepth 100000 in
set_option maxHeartbeats 1000000 in
theorem rrecs_any (h : RJAt w rb b bs cp pv rv n s) (hl : s.recs.length ≤ 1000000) :
    Calls Tryz.prog 12 #[.pointer (some ⟨rb, 0, none⟩)] w fun e w' => ∃ A c, e = .returned (.slice A s.recs.length c) ∧ RowT w' w.heap.size (.slice A s.recs.length c) s.recs ∧ Below w.heap.size w w' := by
  obtain ⟨A, m, c, rfl⟩ := row_is h.row
  obtain ⟨em, hsl, _⟩ := row_sl h.row
  subst em
  obtain ⟨i0, hi, hz0, hz1, hz2⟩ := info_parts infoStr
  have c6 : (w.alloc (.cells #[] 9)).cell? ⟨rb, 6, none⟩ = some (.slice A s.recs.length c) := (h.blk.alloc _).cellD 6 _ rfl
  have HM : Hid ((w.alloc (.cells #[] 9)).ownsRow w.heap.size 9 1 (.slice (some ⟨w.heap.size, 0, none⟩) 0 0) 0 []) := World.ownsRow_made w #[] 0 (Nat.le_refl _) (by decide) rfl
  have HSL : Hid (SL (w.alloc (.cells #[] 9)) 1 encS A (s.recs.map tx)) := hsl.below ((Below.refl _ w).alloc (Nat.le_refl _) _) (Nat.le_refl _)
  have HI := Lib.hid hi
  have HZ0 := Lib.hid hz0
  have HZ1 := Lib.hid hz1
  have HZ2 := Lib.hid hz2
  have hlm : (s.recs.map tx).length = s.recs.length := by simp
  obtain ⟨L, eL⟩ : ∃ L, L = s.recs.map tx := ⟨_, rfl⟩
  rw [← eL] at hlm HSL
  rw [← hlm] at c6 ⊢
  have hL6 : L.length ≤ 1000000 := by omega
  have EL := Lib.hid eL
  have HLM := Lib.hid hlm
  clear h hsl hi hz0 hz1 hz2 eL hlm hl
  go_enter Tryz.func12, Tryz.ntmps12
  go_wp2_with (at_builtin; refine wpList_append_list (ec := encS) rfl (.tmp 5) (.tmp 9) 30 rfl w.heap.size 9 i0 _ 16 Tryz.underlying30 HI.out HZ0.out HZ1.out HZ2.out rfl (by decide) encSlen encSone _ 0 [] rfl HM.out A c L rfl HSL.out (by have : maxLen = 9223372036854775807 := rfl; omega) (by omega) (by simp) ?_)
  intro v3 w3 hown3 hgr3 _
  have hb3 : Below w.heap.size w w3 := ((Below.refl _ w).alloc (Nat.le_refl _) (.cells #[] 9)).grown hgr3 (by simp) (fun j e => (HM.out.lt j e).1)
  have hr3 : RowT w3 w.heap.size v3 s.recs := by
    unfold RowT
    rw [← EL.out]
    have e0 : 0 + L.length = s.recs.length := by have := HLM.out; omega
    have e1 : L.length = s.recs.length := HLM.out
    first
      | exact hown3
      | (rw [← e0]; exact hown3)
      | (rw [← e1]; simpa using hown3)
  obtain ⟨A3, m3, c3, rfl⟩ := row_is hr3
  obtain ⟨e3, _, _⟩ := row_sl hr3
  subst e3
  have H3 := Lib.hid (And.intro hr3 hb3)
  clear hown3 hgr3 hb3 hr3
  go_wp2_with fail
  go_ret
  exact ⟨A3, c3, by first | rfl | (rw [HLM.out]; rfl), by first | exact H3.out.1 | (rw [HLM.out]; exact H3.out.1), H3.out.2⟩
theorem rrecs_nil (w : World) : Calls Tryz.prog 12 #[.pointer none] w fun e w' => e = .returned (.slice none 0 0) ∧ w = w' := by
  go_enter Tryz.func12, Tryz.ntmps12
  go_wp2_with fail
  go_ret
  exact ⟨rfl, rfl⟩
theorem rapp_nil (t : ByteArray) (w : World) : Calls Tryz.prog 14 #[.pointer none, .string t] w fun e w' => e = .returned (.int .i64 1) ∧ w = w' := by
  go_enter Tryz.func14, Tryz.ntmps14
  go_wp2_with fail
  go_ret
  exact ⟨rfl, rfl⟩
theorem rcmp_nil (v : Value) (w : World) : Calls Tryz.prog 16 #[.pointer none, v] w fun e w' => e = .returned (.int .i64 1) ∧ w = w' := by
  go_enter Tryz.func16, Tryz.ntmps16
  go_wp2_with fail
  go_ret
  exact ⟨rfl, rfl⟩
/-- The state behind a change. -/
theorem RJAt.changed {w5 : World} {half len : Nat} {r : DD × Int} {pv5 rv5 : Value} {recs : List (List UInt8)} (h : RJAt w rb b bs cp pv rv n s) (hd : RDAt w5 b bs cp pv5 r.1 n) (hb : Blk w5 rb (cellsK (s.v.1 + 1, half, len) (1 - s.a) n b rv5 false) 73) (hr : RowT w5 0 rv5 recs) (hne : rv5.ownBlock ≠ some bs) (hnum : s.v.1 < 999999999) (hh : half ≤ 1) (hl : len ≤ 32 * ((n - 2) / 2)) :
    RJAt w5 rb b bs cp pv5 rv5 n { d := r.1, v := (s.v.1 + 1, half, len), a := 1 - s.a, recs := recs, broken := false } :=
  ⟨h.n4, hd, hb, hr, hne, by show s.v.1 + 1 ≤ _; omega, hh, hl, by show 1 - s.a ≤ 1; omega⟩
theorem RJAt.failed {w5 : World} {r : DD × Int} {pv5 : Value} (h : RJAt w rb b bs cp pv rv n s) (hd : RDAt w5 b bs cp pv5 r.1 n) (hk : Keep (fun k => k = rb ∨ RFp b bs pv k) w w5) (hb : Blk w5 rb (cellsK s.v s.a n b rv true) 73) :
    RJAt w5 rb b bs cp pv5 rv n { s with d := r.1, broken := true } :=
  ⟨h.n4, hd, hb, h.row.keep (fun k e => hk.block k (World.ownsRow.lt h.row k e).2 (fun f => f.elim (fun e' => h.rowne.1 (by rw [← e']; exact e)) (h.rowne.2 k e))), h.ne, h.num, h.hf, h.len, h.at_⟩
theorem RJAt.rowat {w5 : World} (h : RJAt w rb b bs cp pv rv n s) (hk : Keep (fun k => k = rb ∨ RFp b bs pv k) w w5) : RowT w5 0 rv s.recs :=
  h.row.keep (fun k e => hk.block k (World.ownsRow.lt h.row k e).2 (fun f => f.elim (fun e' => h.rowne.1 (by rw [← e']; exact e)) (h.rowne.2 k e)))
end
set_option maxRecDepth 100000 in
set_option maxHeartbeats 1000000 in
theorem rapp_any {w : World} {rb b bs cp n : Nat} {pv rv : Value} {s : JS} (body : ByteArray) (h : RJAt w rb b bs cp pv rv n s) (hon : s.broken = false → s.d.on = true) (hpend : s.d.pend.length ≤ 900000) (hrs : s.recs.length ≤ 1000000) (hbs : body.size ≤ 9223372036854775807) :
    Calls Tryz.prog 14 #[.pointer (some ⟨rb, 0, none⟩), .string body] w (RJPost w rb b bs cp n pv rv (s.append n body.data.toList)) := by
  obtain ⟨R, eR⟩ : ∃ R, R = RJPost w rb b bs cp n pv rv (s.append n body.data.toList) := ⟨_, rfl⟩
  rw [← eR]
  have hbl : body.data.toList.length = body.size := by simp
  have FS : Hid (∀ c w', s.append n body.data.toList = (s, c) → Below w.heap.size w w' → R (.returned (.int .i64 c)) w') := fun c w' he hb => by rw [eR, he]; exact RJPost.same h hb c
  have ER := Lib.hid eR
  have H := Lib.hid h
  have c7 := h.blk.cellD 7 _ rfl
  clear eR
  cases hbr : s.broken with
  | true =>
    have F := Lib.hid (FS.out 13 w (by unfold JS.append; rw [if_pos hbr]) (Below.refl _ _))
    rw [hbr] at c7
    clear FS h hbr
    go_enter Tryz.func14, Tryz.ntmps14
    go_wp2_with fail
    first
      | exact F.out
      | (go_ret; exact F.out)
  | false =>
    rw [hbr] at c7
    have hon' := hon hbr
    by_cases h2000 : 2000 < body.size
    · have F := Lib.hid (FS.out 3 w (by unfold JS.append; rw [if_neg (by rw [hbr]; decide), if_pos (by omega)]) (Below.refl _ _))
      have t1 : (2000 : Int) < (body.size : Int) := by omega
      clear FS h hbr hon hon'
      go_enter Tryz.func14, Tryz.ntmps14
      go_wp2_with fail
      first
        | exact F.out
        | (go_ret; exact F.out)
    · have t1 : ¬ (2000 : Int) < (body.size : Int) := by omega
      have c4 := h.blk.cellD 4 _ rfl
      have c5 := h.blk.cellD 5 _ rfl
      have hfl : (frameL body.data.toList).length = 4 + body.size := by rw [frameL_len (by omega), hbl]
      have DG := Lib.hid (fun w' => (rdigits_any 4 body.size w' (by decide) (by decide) (by omega) (by omega)).mono fun e w2 (h : e = .returned (.string (tx (padL 4 body.size))) ∧ w' = w2) => (⟨h.1, by rw [← h.2]; exact Below.refl _ _⟩ : e = .returned (.string (tx (padL 4 body.size))) ∧ Below w'.heap.size w' w2))
      have hpl : (tx (padL 4 body.size)).size = 4 := by rw [tx_size]; exact padL_len (by decide) (by omega)
      have hfr : tx (padL 4 body.size) ++ body = tx (frameL body.data.toList) := by
        unfold frameL
        rw [hbl]
        apply ByteArray.ext
        simp [tx, ByteArray.data_append]
      obtain ⟨P, eP⟩ : ∃ P, P = tx (padL 4 body.size) := ⟨_, rfl⟩
      rw [← eP] at DG hpl hfr
      have hPb : P.size + body.size ≤ 9223372036854775807 := by omega
      obtain ⟨FT, eFT⟩ : ∃ FT, FT = tx (frameL body.data.toList) := ⟨_, rfl⟩
      have hFs : FT.size = 4 + body.size := by rw [eFT, tx_size, hfl]
      rw [← eFT] at hfr
      have hlen := h.len
      have hn2 := h.disk.ok.n2
      have hhf := h.hf
      by_cases hfull : 32 * ((n - 2) / 2) < s.v.2.2 + (4 + body.size) ∨ s.v.1 = 999999999
      · have F := Lib.hid (fun w' hb => FS.out 19 w' (by unfold JS.append; rw [if_neg (by rw [hbr]; decide), if_neg (by omega), hbl, if_pos hfull]) hb)
        have CH := Lib.hid (fun w' (hb : Below w.heap.size w w') => rchange_full (h.below hb) s.v.2.1 s.v.2.2 FT (by omega) (by omega) (by rw [hFs]; exact hfull))
        obtain ⟨sd, ⟨num, hf0, ln⟩, sa, srec, sbr⟩ := s
        dsimp only at c4 c5 CH
        clear FS h hbr hon hon' hfull eP eFT hlen hhf hrs hpend
        go_enter Tryz.func14, Tryz.ntmps14
        go_wp2_with fail
        refine Free.wp_region_free 14 [(11, .det (.string P))] (fun y => Below w.heap.size w y ∧ y.cell? ⟨rb, 4, none⟩ = some (.int .i64 (hf0 : Int)) ∧ y.cell? ⟨rb, 5, none⟩ = some (.int .i64 (ln : Int))) (by kernel_rfl) (by kernel_rfl) (Free.mono_det (fun j mk r hf => by simp only [Free.find] at hf; repeat' (first | cases hf | split at hf))) ⟨(Below.refl _ _).drew, c4, c5⟩ (fun _ _ h g => ⟨h.1.trans (Below.mono g h.1.size), cell_grow' h.2.1 g, cell_grow' h.2.2 g⟩) ?_
        simp only [List.take_succ_cons, List.take_zero]
        clear c4 c5
        iterate 11 (apply Free.chain_still (by first | exact Free.wanted_of rfl rfl rfl | rfl) rfl; (intro w' hB hA; obtain ⟨qB, q4, q5⟩ := hB; clear hA  qB; go_light; go_simp <;> rfl); (try simp only [Act.put, List.setIfInBounds_toArray, List.set_cons_succ, List.set_cons_zero]))
        apply Free.chain_det (by first | exact Free.wanted_of rfl rfl rfl | rfl) rfl
        · intro w' hB hA
          refine Free.opRun_call (f := 48) (args := #[.int .i64 (body.size : Int), .int .i64 4]) (by clear hB hA; go_simp <;> rfl) ?_
          refine (DG.out w').mono ?_
          rintro e w3 ⟨rfl, hb3⟩
          exact ⟨_, rfl, hb3, rfl⟩
        simp only [Act.put, List.setIfInBounds_toArray, List.set_cons_succ, List.set_cons_zero]
        iterate 1 (apply Free.chain_still (by first | exact Free.wanted_of rfl rfl rfl | rfl) rfl; (intro w' hB hA; obtain ⟨qB, q4, q5⟩ := hB; clear hA  qB; go_light; go_simp <;> rfl); (try simp only [Act.put, List.setIfInBounds_toArray, List.set_cons_succ, List.set_cons_zero]))
        apply Free.chain_still (by first | exact Free.wanted_of rfl rfl rfl | rfl) rfl
        · intro w' hB hA
          exact exec_cat rfl rfl rfl hPb
        simp only [Act.put, List.setIfInBounds_toArray, List.set_cons_succ, List.set_cons_zero]
        apply Free.chain_nil
        intro wy hBz _ _
        simp only [List.drop_succ_cons, List.drop_zero]
        have CHH := Lib.hid (CH.out wy hBz.1)
        have HBZ := Lib.hid hBz.1
        clear CH hBz
        go_wp2_with fail
        refine CHH.out.mono ?_
        rintro e w' ⟨rfl, rfl⟩
        have G := Lib.hid (F.out _ HBZ.out)
        clear CHH F
        go_wp2_with fail
        first
          | exact G.out
          | (go_ret; exact G.out)
      · have hap : s.append n body.data.toList = if (changeD n s.a s.v.1 s.v.2.1 s.v.2.2 (frameL body.data.toList) s.d).2 = 0 then
            ({ d := (changeD n s.a s.v.1 s.v.2.1 s.v.2.2 (frameL body.data.toList) s.d).1, v := (s.v.1 + 1, s.v.2.1, s.v.2.2 + (frameL body.data.toList).length), a := 1 - s.a, recs := s.recs ++ [body.data.toList], broken := false }, 0)
            else ({ s with d := (changeD n s.a s.v.1 s.v.2.1 s.v.2.2 (frameL body.data.toList) s.d).1, broken := true }, (changeD n s.a s.v.1 s.v.2.1 s.v.2.2 (frameL body.data.toList) s.d).2) := by
          unfold JS.append
          rw [if_neg (by rw [hbr]; decide), if_neg (by omega), hbl, if_neg hfull]
        have CH := Lib.hid (fun w' (hb : Below w.heap.size w w') => rchange_any (h.below hb) hbr hon' hpend s.v.2.1 s.v.2.2 hhf (frameL body.data.toList) (by rw [hfl]; omega) (by have := h.num; omega))
        rw [← eFT] at CH
        obtain ⟨r, er⟩ : ∃ r, r = changeD n s.a s.v.1 s.v.2.1 s.v.2.2 (frameL body.data.toList) s.d := ⟨_, rfl⟩
        rw [← er] at CH hap
        rw [hap] at ER
        have HNUM : Hid (s.v.1 < 999999999) := by show _ < _; have := h.num; omega
        have HROOM : Hid (s.v.2.2 + (frameL body.data.toList).length ≤ 32 * ((n - 2) / 2)) := by show _ ≤ _; rw [hfl]; omega
        have ELL : Hid ((s.recs.map tx).length = s.recs.length) := by show _ = _; simp
        obtain ⟨sd, ⟨num, hf0, ln⟩, sa, srec, sbr⟩ := s
        have hbr : sbr = false := hbr
        subst hbr
        dsimp only at c4 c5 CH hrs
        clear FS h hon hon' hfull eP eFT hlen er hap hpend hbl
        go_enter Tryz.func14, Tryz.ntmps14
        go_wp2_with fail
        refine Free.wp_region_free 14 [(11, .det (.string P))] (fun y => Below w.heap.size w y ∧ y.cell? ⟨rb, 4, none⟩ = some (.int .i64 (hf0 : Int)) ∧ y.cell? ⟨rb, 5, none⟩ = some (.int .i64 (ln : Int))) (by kernel_rfl) (by kernel_rfl) (Free.mono_det (fun j mk r hf => by simp only [Free.find] at hf; repeat' (first | cases hf | split at hf))) ⟨(Below.refl _ _).drew, c4, c5⟩ (fun _ _ h g => ⟨h.1.trans (Below.mono g h.1.size), cell_grow' h.2.1 g, cell_grow' h.2.2 g⟩) ?_
        simp only [List.take_succ_cons, List.take_zero]
        clear c4 c5
        iterate 11 (apply Free.chain_still (by first | exact Free.wanted_of rfl rfl rfl | rfl) rfl; (intro w' hB hA; obtain ⟨qB, q4, q5⟩ := hB; clear hA  qB; go_light; go_simp <;> rfl); (try simp only [Act.put, List.setIfInBounds_toArray, List.set_cons_succ, List.set_cons_zero]))
        apply Free.chain_det (by first | exact Free.wanted_of rfl rfl rfl | rfl) rfl
        · intro w' hB hA
          refine Free.opRun_call (f := 48) (args := #[.int .i64 (body.size : Int), .int .i64 4]) (by clear hB hA; go_simp <;> rfl) ?_
          refine (DG.out w').mono ?_
          rintro e w3 ⟨rfl, hb3⟩
          exact ⟨_, rfl, hb3, rfl⟩
        simp only [Act.put, List.setIfInBounds_toArray, List.set_cons_succ, List.set_cons_zero]
        iterate 1 (apply Free.chain_still (by first | exact Free.wanted_of rfl rfl rfl | rfl) rfl; (intro w' hB hA; obtain ⟨qB, q4, q5⟩ := hB; clear hA  qB; go_light; go_simp <;> rfl); (try simp only [Act.put, List.setIfInBounds_toArray, List.set_cons_succ, List.set_cons_zero]))
        apply Free.chain_still (by first | exact Free.wanted_of rfl rfl rfl | rfl) rfl
        · intro w' hB hA
          exact exec_cat rfl rfl rfl hPb
        simp only [Act.put, List.setIfInBounds_toArray, List.set_cons_succ, List.set_cons_zero]
        apply Free.chain_nil
        intro wy hBz _ _
        simp only [List.drop_succ_cons, List.drop_zero]
        have CHH := Lib.hid (CH.out wy hBz.1)
        have HBZ := Lib.hid hBz.1
        clear CH hBz DG
        go_wp2_with fail
        refine CHH.out.mono ?_
        rintro e w5 ⟨rfl, pv5, hd5, hk5, hv5, hb5⟩
        have hk5' : Keep (fun k => k = rb ∨ RFp b bs pv k) w w5 := (Keep.of_below (F := fun k => k = rb ∨ RFp b bs pv k) HBZ.out).trans hk5 (fun _ _ f => f)
        have hv5' : ∀ k, pv5.ownBlock = some k → pv.ownBlock = some k ∨ w.heap.size ≤ k := fun k e => (hv5 k e).imp id (fun h => by have := HBZ.out.size; omega)
        by_cases hc : r.2 = 0
        · have hc1 : (r.2 == 0) = true := by simpa using hc
          rw [if_pos hc] at hb5 ER
          have hrow5 := H.out.rowat hk5'
          obtain ⟨A, m, c, rfl⟩ := row_is hrow5
          obtain ⟨em, hsl, _⟩ := row_sl hrow5
          dsimp only at em hsl
          subst em
          obtain ⟨i0, hi, hz0, hz1, hz2⟩ := info_parts infoStr
          have c6 : (w5.alloc (.cells #[] 9)).cell? ⟨rb, 6, none⟩ = some (.slice A srec.length c) := (hb5.alloc _).cellD 6 _ rfl
          have HM : Hid ((w5.alloc (.cells #[] 9)).ownsRow w5.heap.size 9 1 (.slice (some ⟨w5.heap.size, 0, none⟩) 0 0) 0 []) := World.ownsRow_made w5 #[] 0 (Nat.le_refl _) (by decide) rfl
          have HSL : Hid (SL (w5.alloc (.cells #[] 9)) 1 encS A (srec.map tx)) := hsl.below ((Below.refl _ w5).alloc (Nat.le_refl _) _) (Nat.le_refl _)
          have HI := Lib.hid hi
          have HZ0 := Lib.hid hz0
          have HZ1 := Lib.hid hz1
          have HZ2 := Lib.hid hz2
          have hlm : (srec.map tx).length = srec.length := by simp
          obtain ⟨L, eL⟩ : ∃ L, L = srec.map tx := ⟨_, rfl⟩
          rw [← eL] at hlm HSL
          rw [← hlm] at c6
          have hL6 : L.length ≤ 1000000 := by omega
          have EL := Lib.hid eL
          have HLM := Lib.hid hlm
          have HB5 := Lib.hid hb5
          have HD5 := Lib.hid hd5
          have HK5 := Lib.hid hk5'
          have HV5 := Lib.hid hv5'
          clear hsl hi hz0 hz1 hz2 eL hlm hrow5 hd5 hk5 hv5 hb5 hk5' hv5' CHH hrs
          go_wp2_with (at_builtin; refine wpList_append_list (ec := encS) rfl (.tmp 33) (.tmp 37) 30 rfl w5.heap.size 9 i0 _ 16 Tryz.underlying30 HI.out HZ0.out HZ1.out HZ2.out rfl (by decide) encSlen encSone _ 0 [] rfl HM.out A c L rfl HSL.out (by have : maxLen = 9223372036854775807 := rfl; omega) (by omega) (by simp) ?_)
          intro v6 w6 hown6 hgr6 _
          have hb6 : Below w5.heap.size w5 w6 := ((Below.refl _ w5).alloc (Nat.le_refl _) (.cells #[] 9)).grown hgr6 (by simp) (fun j e => (HM.out.lt j e).1)
          obtain ⟨A6, m6, c6', rfl⟩ := own_is hown6
          have HW2 := Lib.hid (rowB hown6 ((Below.refl _ w6).alloc (Nat.le_refl _) (.cells #[.string body] 9)))
          have hb7 : Below w5.heap.size w5 (w6.alloc (.cells #[.string body] 9)) := hb6.alloc hb6.size _
          have HB7 := Lib.hid hb7
          have hsz7 := hb7.size
          clear hown6 hgr6 hb6 hb7
          go_wp2_with (at_builtin; refine wpList_append_list (ec := encS) rfl (.tmp 38) (.tmp 40) 30 rfl w5.heap.size 9 i0 _ 16 Tryz.underlying30 HI.out HZ0.out HZ1.out HZ2.out rfl (by decide) encSlen encSone _ _ _ rfl HW2.out (some ⟨w6.heap.size, 0, none⟩) 1 [body] rfl (sl_of_cells encSlen (heap_alloc_last _ _) (fun j u hu => by simpa [encS] using hu)) (by have : maxLen = 9223372036854775807 := rfl; simp only [List.length_cons, List.length_nil]; omega) (by simp only [List.length_cons, List.length_nil]; omega) hsz7 ?_)
          intro v8 w8 hown8 hgr8 _
          have hb8 : Below w5.heap.size w5 w8 := HB7.out.grown hgr8 hsz7 (fun j e => (HW2.out.lt j e).1)
          obtain ⟨A8, m8, c8, rfl⟩ := own_is hown8
          have hr8 : RowT w8 w5.heap.size (.slice A8 m8 c8) (srec ++ [body.data.toList]) := by
            unfold RowT
            rw [row_snoc, tx_of, List.length_append, ← EL.out]
            have e0 : L.length + 1 = srec.length + [body.data.toList].length := by have := HLM.out; simp; omega
            rw [← e0]
            exact hown8
          have hB8 := HB5.out.below hb8 HB5.out.lt
          have hd8 := HD5.out.below hb8
          have hne8 : (Value.slice A8 m8 c8).ownBlock ≠ some rb := fun e => by have := (World.ownsRow.lt hr8 _ e).1; have := HB5.out.lt; omega
          have hk0 : Keep (fun k => k = rb) w8 (w8.setCell ⟨rb, 6, none⟩ (.slice A8 m8 c8)) := (Keep.refl (fun k => k = rb) w8).setCell (p := ⟨rb, 6, none⟩) (fun _ => rfl) _
          have hnf := rnotFp hd8 hB8 (by decide) (by decide) (by decide)
          have B9 := hB8.set 6 (.slice A8 m8 c8)
          have hr9 : RowT (w8.setCell ⟨rb, 6, none⟩ (.slice A8 m8 c8)) 0 (.slice A8 m8 c8) (srec ++ [body.data.toList]) := row_base (hr8.keep fun k e => hk0.block k (World.ownsRow.lt hr8 k e).2 (fun e' => hne8 (by rw [← e']; exact e))) (Nat.zero_le _)
          have G : Hid (R (.returned (.int .i64 0)) (w8.setCell ⟨rb, 6, none⟩ (.slice A8 m8 c8))) := by
            rw [ER.out]
            refine ⟨rfl, pv5, .slice A8 m8 c8, H.out.changed (hd8.keep hk0 (fun k hf e => hnf (by rw [← e]; exact hf))) B9 hr9 (fun e => ?_) HNUM.out hhf HROOM.out, (HK5.out.trans (Keep.of_below (F := fun k => k = rb ∨ RFp b bs pv k) ⟨hb8.os, hb8.tape, hb8.output, hb8.size, hb8.block⟩) (fun _ _ f => f)).trans hk0 (fun k _ e => .inl e), HV5.out, fun k e => .inr ?_⟩
            · have h1 := (World.ownsRow.lt hr8 _ e).1
              have h2 := HD5.out.lt (k := bs) (.inr (.inl rfl))
              omega
            · have h1 := (World.ownsRow.lt hr8 k e).1
              have h2 := HK5.out.size
              omega
          have c9 := hB8.cellD 6 _ rfl
          have f9 := hB8.frozen 6
          clear hown8 hgr8 hb8 hr8 hB8 hd8 hne8 hk0 hnf B9 hr9 HW2 HB7
          go_wp2_with fail
          first
            | exact G.out
            | (go_ret; exact G.out)
        · have hc1 : (r.2 == 0) = false := by simpa using hc
          rw [if_neg hc] at hb5 ER
          have G : Hid (R (.returned (.int .i64 r.2)) w5) := by
            rw [ER.out]
            exact ⟨rfl, pv5, rv, H.out.failed hd5 hk5' hb5, hk5', hv5', fun _ h => .inl h⟩
          clear hd5 hk5 hv5 hb5 hk5' hv5' CHH
          go_wp2_with fail
          first
            | exact G.out
            | (go_ret; exact G.out)
end Go.Proofs.YthfjaaigncjhlaaGreatDoor

namespace Go.Proofs.YthfjaaigncjhlaaGreatDoor
open Go.RowKit Go.Blk Go.Jn Go.Dk Go.Mp Go.Rf Go.Shelf Go.Apl Go.Opn

def RCmL (l : List ByteArray) (i : Value) : Prop := ∃ k : Nat, i = .int .i64 (k : Int) ∧ k ≤ l.length ∧ ∀ x ∈ l.take k, x.size ≤ 2000
set_option maxRecDepth 100000 in
set_option maxHeartbeats 1000000 in
theorem rcmp_any {w : World} {rb b bs cp n c : Nat} {pv rv : Value} {s : JS} {A : Option Addr} (l : List ByteArray) (h : RJAt w rb b bs cp pv rv n s) (hon : s.broken = false → s.d.on = true) (hpend : s.d.pend.length ≤ 900000)
    (hS : SL w 1 encS A l) (hrs : ∀ w', Keep (fun k => k = rb ∨ RFp b bs pv k) w w' → SL w' 1 encS A l) (hl : l.length ≤ 100000) :
    Calls Tryz.prog 16 #[.pointer (some ⟨rb, 0, none⟩), .slice A l.length c] w (RJPost w rb b bs cp n pv rv (s.compact n (recsOf l))) := by
  obtain ⟨R, eR⟩ : ∃ R, R = RJPost w rb b bs cp n pv rv (s.compact n (recsOf l)) := ⟨_, rfl⟩
  rw [← eR]
  have FS : Hid (∀ c w', s.compact n (recsOf l) = (s, c) → Below w.heap.size w w' → R (.returned (.int .i64 c)) w') := fun c w' he hb => by rw [eR, he]; exact RJPost.same h hb c
  have ER := Lib.hid eR
  have H := Lib.hid h
  have c7 := h.blk.cellD 7 _ rfl
  clear eR
  cases hbr : s.broken with
  | true =>
    have F := Lib.hid (FS.out 13 w (by unfold JS.compact; rw [if_pos hbr]) (Below.refl _ _))
    rw [hbr] at c7
    clear FS h hbr hS hrs
    go_enter Tryz.func16, Tryz.ntmps16
    go_wp2_with fail
    first
      | exact F.out
      | (go_ret; exact F.out)
  | false =>
    rw [hbr] at c7
    have hon' := hon hbr
    have c4 := h.blk.cellD 4 _ rfl
    have HS := Lib.hid hS
    have HRS := Lib.hid hrs
    have HST : Hid (RCmL l (.int .i64 0)) := ⟨0, rfl, Nat.zero_le _, fun x hx => by simp at hx⟩
    have HBR := Lib.hid hbr
    have HON := Lib.hid hon'
    have HPD := Lib.hid hpend
    have hn2 := h.disk.ok.n2
    obtain ⟨hfv, ehf⟩ : ∃ hfv, hfv = s.v.2.1 := ⟨_, rfl⟩
    have hhf : hfv ≤ 1 := by rw [ehf]; exact h.hf
    rw [← ehf] at c4
    have EHF := Lib.hid ehf
    clear h hS hrs hbr hon' hpend hon ehf
    go_enter Tryz.func16, Tryz.ntmps16
    go_wp2_with fail
    go_loop [5] (fun i => RCmL l i) (fun i => l.length - (intOf i).toNat)
    case atStart => exact HST.out
    case round =>
      clear HST
      obtain ⟨k, rfl, hk, hall⟩ := hrel
      have HALL := Lib.hid hall
      clear hall
      by_cases hlt : k < l.length
      · obtain ⟨x, hx⟩ : ∃ x, l[k]? = some x := ⟨_, List.getElem?_eq_getElem hlt⟩
        obtain ⟨b1, o1, rfl, hc⟩ := HS.out.at_ hx
        have d0 := hc 0 (.string x) rfl
        simp only [Nat.mul_one, Nat.add_zero] at d0
        have hki : (k : Int) < (l.length : Int) := by omega
        have k0 : (0 : Int) ≤ (k : Int) := by omega
        have HX := Lib.hid hx
        clear hc hx
        by_cases h2000 : 2000 < x.size
        · have t1 : (2000 : Int) < (x.size : Int) := by omega
          have F := Lib.hid (FS.out 3 w (by
            unfold JS.compact
            rw [if_neg (by rw [HBR.out]; decide), if_pos]
            exact ⟨x.data.toList, by unfold recsOf; exact List.mem_map.2 ⟨x, List.mem_of_getElem? HX.out, rfl⟩, by simpa using h2000⟩) (Below.refl _ _))
          clear FS
          go_wp2_with fail
          first
            | exact F.out
            | (go_ret; exact F.out)
        · have t1 : ¬ (2000 : Int) < (x.size : Int) := by omega
          have KEY : Hid (RCmL l (.int .i64 ((k : Int) + 1))) := ⟨k + 1, by go_num, by omega, fun y hy => by
            rw [List.take_add_one, HX.out] at hy
            rcases List.mem_append.1 hy with h | h
            · exact HALL.out y h
            · have : y = x := by simpa using h
              rw [this]; omega⟩
          go_wp2_with fail
          exact ⟨KEY.out, by simp [intOf]; omega⟩
      · obtain rfl : k = l.length := by omega
        have hki : ¬ (l.length : Int) < (l.length : Int) := by omega
        have hall := HALL.out
        rw [List.take_length] at hall
        have hal : ∀ b ∈ recsOf l, b.length ≤ 2000 := fun b hb => by
          unfold recsOf at hb
          obtain ⟨y, hy, rfl⟩ := List.mem_map.1 hb
          have := hall y hy
          simpa using this
        have hnl : ¬ ∃ b ∈ recsOf l, 2000 < b.length := fun ⟨b, h1, h2⟩ => by have := hal b h1; omega
        have hfl := framesL_len (recsOf l) hal
        have hrl := roomL_few (m := 2000) (recsOf l) hal
        rw [recsOf_len] at hrl
        obtain ⟨FT, eFT⟩ : ∃ FT, FT = tx (framesL (recsOf l)) := ⟨_, rfl⟩
        have hFs : FT.size = roomL (recsOf l) := by rw [eFT, tx_size, hfl]
        have FRH := Lib.hid (fun (w' : World) (hb : Below w.heap.size w w') => by
          have := rframes_any A c l w' (HS.out.below hb (Nat.le_refl _)) (by omega) hall
          rw [← eFT] at this
          exact this)
        obtain ⟨h1', eh1⟩ : ∃ h1', h1' = 1 - hfv := ⟨_, rfl⟩
        have wl : IntKind.i64.wrap (1 - (hfv : Int)) = (h1' : Int) := by rw [IntWalk.i64_left, IntWalk.wrap64_in _ ⟨by omega, by omega⟩]; omega
        have hh1 : h1' ≤ 1 := by omega
        by_cases hfull : 32 * ((n - 2) / 2) < roomL (recsOf l) ∨ s.v.1 = 999999999
        · have F := Lib.hid (fun w' hb => FS.out 19 w' (by unfold JS.compact; rw [if_neg (by rw [HBR.out]; decide), if_neg hnl, if_pos hfull]) hb)
          have CH := Lib.hid (fun w' (hb : Below w.heap.size w w') => rchange_full (H.out.below hb) h1' 0 FT (by omega) (by omega) (by rw [hFs, Nat.zero_add]; exact hfull))
          clear FS hfull hall hal hnl hfl hrl eFT hFs eh1
          go_wp2_with fail
          refine Free.wp_region_free 8 [(7, .det (.string FT))] (fun y => Below w.heap.size w y ∧ y.cell? ⟨rb, 4, none⟩ = some (.int .i64 (hfv : Int))) (by kernel_rfl) (by kernel_rfl) (Free.mono_det (fun j mk r hf => by simp only [Free.find] at hf; repeat' (first | cases hf | split at hf))) ⟨(Below.refl _ _).drew, c4⟩ (fun _ _ h g => ⟨h.1.trans (Below.mono g h.1.size), cell_grow' h.2 g⟩) ?_
          simp only [List.take_succ_cons, List.take_zero]
          clear c4
          iterate 7 (apply Free.chain_still (by first | exact Free.wanted_of rfl rfl rfl | rfl) rfl; (intro w' hB hA; obtain ⟨qB, q4⟩ := hB; clear hA  qB; go_light; go_simp <;> rfl); (try simp only [Act.put, List.setIfInBounds_toArray, List.set_cons_succ, List.set_cons_zero]))
          apply Free.chain_det (by first | exact Free.wanted_of rfl rfl rfl | rfl) rfl
          · intro w' hB hA
            refine Free.opRun_call (f := 52) (args := #[.slice A l.length c]) (by clear hB hA; go_simp <;> rfl) ?_
            refine (FRH.out w' hB.1).mono ?_
            rintro e w3 ⟨rfl, hb3⟩
            exact ⟨_, rfl, hb3, rfl⟩
          simp only [Act.put, List.setIfInBounds_toArray, List.set_cons_succ, List.set_cons_zero]
          apply Free.chain_nil
          intro wy hBz _ _
          simp only [List.drop_succ_cons, List.drop_zero]
          have CHH := Lib.hid (CH.out wy hBz.1)
          have HBZ := Lib.hid hBz.1
          clear CH hBz FRH
          go_wp2_with fail
          refine CHH.out.mono ?_
          rintro e w' ⟨rfl, rfl⟩
          have G := Lib.hid (F.out _ HBZ.out)
          clear CHH F
          go_wp2_with fail
          first
            | exact G.out
            | (go_ret; exact G.out)
        · have hcp : s.compact n (recsOf l) = if (changeD n s.a s.v.1 (1 - s.v.2.1) 0 (framesL (recsOf l)) s.d).2 = 0 then
              ({ d := (changeD n s.a s.v.1 (1 - s.v.2.1) 0 (framesL (recsOf l)) s.d).1, v := (s.v.1 + 1, 1 - s.v.2.1, (framesL (recsOf l)).length), a := 1 - s.a, recs := recsOf l, broken := false }, 0)
              else ({ s with d := (changeD n s.a s.v.1 (1 - s.v.2.1) 0 (framesL (recsOf l)) s.d).1, broken := true }, (changeD n s.a s.v.1 (1 - s.v.2.1) 0 (framesL (recsOf l)) s.d).2) := by
            unfold JS.compact
            rw [if_neg (by rw [HBR.out]; decide), if_neg hnl, if_neg hfull]
          have CH := Lib.hid (fun w' (hb : Below w.heap.size w w') => by
            have := rchange_any (H.out.below hb) HBR.out HON.out HPD.out h1' 0 hh1 (framesL (recsOf l)) (by rw [hfl]; omega) (by have := H.out.num; omega)
            rw [← eFT, Nat.zero_add] at this
            exact this)
          rw [← EHF.out, ← eh1] at hcp
          obtain ⟨r, er⟩ : ∃ r, r = changeD n s.a s.v.1 h1' 0 (framesL (recsOf l)) s.d := ⟨_, rfl⟩
          rw [← er] at CH hcp
          rw [hcp] at ER
          have HNUM : Hid (s.v.1 < 999999999) := by show _ < _; have := H.out.num; omega
          have HROOM : Hid ((framesL (recsOf l)).length ≤ 32 * ((n - 2) / 2)) := by show _ ≤ _; rw [hfl]; omega
          obtain ⟨sd, ⟨num, hf0, ln⟩, sa, srec, sbr⟩ := s
          have hbr : sbr = false := HBR.out
          subst hbr
          clear FS hfull hall hal hnl hfl hrl eFT hFs eh1 er hcp
          go_wp2_with fail
          refine Free.wp_region_free 8 [(7, .det (.string FT))] (fun y => Below w.heap.size w y ∧ y.cell? ⟨rb, 4, none⟩ = some (.int .i64 (hfv : Int))) (by kernel_rfl) (by kernel_rfl) (Free.mono_det (fun j mk r hf => by simp only [Free.find] at hf; repeat' (first | cases hf | split at hf))) ⟨(Below.refl _ _).drew, c4⟩ (fun _ _ h g => ⟨h.1.trans (Below.mono g h.1.size), cell_grow' h.2 g⟩) ?_
          simp only [List.take_succ_cons, List.take_zero]
          clear c4
          iterate 7 (apply Free.chain_still (by first | exact Free.wanted_of rfl rfl rfl | rfl) rfl; (intro w' hB hA; obtain ⟨qB, q4⟩ := hB; clear hA  qB; go_light; go_simp <;> rfl); (try simp only [Act.put, List.setIfInBounds_toArray, List.set_cons_succ, List.set_cons_zero]))
          apply Free.chain_det (by first | exact Free.wanted_of rfl rfl rfl | rfl) rfl
          · intro w' hB hA
            refine Free.opRun_call (f := 52) (args := #[.slice A l.length c]) (by clear hB hA; go_simp <;> rfl) ?_
            refine (FRH.out w' hB.1).mono ?_
            rintro e w3 ⟨rfl, hb3⟩
            exact ⟨_, rfl, hb3, rfl⟩
          simp only [Act.put, List.setIfInBounds_toArray, List.set_cons_succ, List.set_cons_zero]
          apply Free.chain_nil
          intro wy hBz _ _
          simp only [List.drop_succ_cons, List.drop_zero]
          have CHH := Lib.hid (CH.out wy hBz.1)
          have HBZ := Lib.hid hBz.1
          clear CH hBz FRH
          go_wp2_with fail
          refine CHH.out.mono ?_
          rintro e w5 ⟨rfl, pv5, hd5, hk5, hv5, hb5⟩
          have hk5' : Keep (fun k => k = rb ∨ RFp b bs pv k) w w5 := (Keep.of_below (F := fun k => k = rb ∨ RFp b bs pv k) HBZ.out).trans hk5 (fun _ _ f => f)
          have hv5' : ∀ k, pv5.ownBlock = some k → pv.ownBlock = some k ∨ w.heap.size ≤ k := fun k e => (hv5 k e).imp id (fun h => by have := HBZ.out.size; omega)
          by_cases hc : r.2 = 0
          · have hc1 : (r.2 == 0) = true := by simpa using hc
            rw [if_pos hc] at hb5 ER
            obtain ⟨i0, hi, hz0, hz1, hz2⟩ := info_parts infoStr
            have HM : Hid ((w5.alloc (.cells #[] 9)).ownsRow w5.heap.size 9 1 (.slice (some ⟨w5.heap.size, 0, none⟩) 0 0) 0 []) := World.ownsRow_made w5 #[] 0 (Nat.le_refl _) (by decide) rfl
            have HSL : Hid (SL (w5.alloc (.cells #[] 9)) 1 encS A l) := (HRS.out w5 hk5').below ((Below.refl _ w5).alloc (Nat.le_refl _) _) (Nat.le_refl _)
            have HI := Lib.hid hi
            have HZ0 := Lib.hid hz0
            have HZ1 := Lib.hid hz1
            have HZ2 := Lib.hid hz2
            have HB5 := Lib.hid hb5
            have HD5 := Lib.hid hd5
            have HK5 := Lib.hid hk5'
            have HV5 := Lib.hid hv5'
            clear hi hz0 hz1 hz2 hd5 hk5 hv5 hb5 hk5' hv5' CHH
            go_wp2_with (at_builtin; refine wpList_append_list (ec := encS) rfl (.tmp 37) (.tmp 38) 30 rfl w5.heap.size 9 i0 _ 16 Tryz.underlying30 HI.out HZ0.out HZ1.out HZ2.out rfl (by decide) encSlen encSone _ 0 [] rfl HM.out A c l rfl HSL.out (by have : maxLen = 9223372036854775807 := rfl; omega) (by omega) (by simp) ?_)
            intro v8 w8 hown8 hgr8 _
            have hb8 : Below w5.heap.size w5 w8 := ((Below.refl _ w5).alloc (Nat.le_refl _) (.cells #[] 9)).grown hgr8 (by simp) (fun j e => (HM.out.lt j e).1)
            obtain ⟨A8, m8, c8, rfl⟩ := own_is hown8
            have hr8 : RowT w8 w5.heap.size (.slice A8 m8 c8) (recsOf l) := by
              unfold RowT
              rw [recsOf_tx, recsOf_len]
              have e0 : 0 + l.length = l.length := Nat.zero_add _
              first
                | exact hown8
                | (rw [e0] at hown8; exact hown8)
                | simpa using hown8
            have hB8 := HB5.out.below hb8 HB5.out.lt
            have hd8 := HD5.out.below hb8
            have hne8 : (Value.slice A8 m8 c8).ownBlock ≠ some rb := fun e => by have := (World.ownsRow.lt hr8 _ e).1; have := HB5.out.lt; omega
            have hk0 : Keep (fun k => k = rb) w8 (w8.setCell ⟨rb, 6, none⟩ (.slice A8 m8 c8)) := (Keep.refl (fun k => k = rb) w8).setCell (p := ⟨rb, 6, none⟩) (fun _ => rfl) _
            have hnf := rnotFp hd8 hB8 (by decide) (by decide) (by decide)
            have B9 := hB8.set 6 (.slice A8 m8 c8)
            have hr9 : RowT (w8.setCell ⟨rb, 6, none⟩ (.slice A8 m8 c8)) 0 (.slice A8 m8 c8) (recsOf l) := row_base (hr8.keep fun k e => hk0.block k (World.ownsRow.lt hr8 k e).2 (fun e' => hne8 (by rw [← e']; exact e))) (Nat.zero_le _)
            have G : Hid (R (.returned (.int .i64 0)) (w8.setCell ⟨rb, 6, none⟩ (.slice A8 m8 c8))) := by
              rw [ER.out]
              refine ⟨rfl, pv5, .slice A8 m8 c8, H.out.changed (hd8.keep hk0 (fun k hf e => hnf (by rw [← e]; exact hf))) B9 hr9 (fun e => ?_) HNUM.out hh1 HROOM.out, (HK5.out.trans (Keep.of_below (F := fun k => k = rb ∨ RFp b bs pv k) ⟨hb8.os, hb8.tape, hb8.output, hb8.size, hb8.block⟩) (fun _ _ f => f)).trans hk0 (fun k _ e => .inl e), HV5.out, fun k e => .inr ?_⟩
              · have h1 := (World.ownsRow.lt hr8 _ e).1
                have h2 := HD5.out.lt (k := bs) (.inr (.inl rfl))
                omega
              · have h1 := (World.ownsRow.lt hr8 k e).1
                have h2 := HK5.out.size
                omega
            have c9 := hB8.cellD 6 _ rfl
            have f9 := hB8.frozen 6
            clear hown8 hgr8 hb8 hr8 hB8 hd8 hne8 hk0 hnf B9 hr9
            go_wp2_with fail
            first
              | exact G.out
              | (go_ret; exact G.out)
          · have hc1 : (r.2 == 0) = false := by simpa using hc
            rw [if_neg hc] at hb5 ER
            have G : Hid (R (.returned (.int .i64 r.2)) w5) := by
              rw [ER.out]
              exact ⟨rfl, pv5, rv, H.out.failed hd5 hk5' hb5, hk5', hv5', fun _ h => .inl h⟩
            clear hd5 hk5 hv5 hb5 hk5' hv5' CHH
            go_wp2_with fail
            first
              | exact G.out
              | (go_ret; exact G.out)
end Go.Proofs.YthfjaaigncjhlaaGreatDoor
