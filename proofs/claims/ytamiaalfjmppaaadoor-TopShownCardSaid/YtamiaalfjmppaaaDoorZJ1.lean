/- The builder of package strings: what its methods do, laid at this program. No condition. Package sign: Sign and Verify: what they return, for texts of at most 2^40 bytes. Condition: the variables of digest and of strconv hold their numbers. Package sign: Verify: what it returns, for texts of at most 2^39 bytes. Condition: the variables of digest and of strconv hold their numbers. Package chain: the text of an entry. Condition: the variables of digest and of strconv hold their numbers. Package chain: the digest of an entry; what an entry behind a list has as its Prev. Condition: the variables of digest and of strconv hold their numbers. Package chain: the checks of an entry's place. No condition. Package chain: misplaced. No condition. Package chain: Check. Condition: the variables of digest and of strconv hold their numbers. Package chain: whether an entry is signed (a closure of Fork); the reference's Few. Condition: the variables of digest and of strconv hold their numbers. Package chain: Fork. Condition: the variables of digest and of strconv hold their numbers. Plain facts on entries: equality. No condition. Plain facts on Check: a list is a chain exactly if every entry has no error; beginnings. No condition. -/
import Derived.Shelf.Strings.BuilderK
import Derived.Test.YtamiaalfjmppaaaDoorShelf
import Derived.Test.YtamiaalfjmppaaaDoorBlk
import Derived.Test.YtamiaalfjmppaaaDoorSgI
import Derived.Test.YtamiaalfjmppaaaDoorOpn
import Derived.WalkMore
import Derived.Deep.WholeRow
import Derived.Laws.Tables
namespace Go.Proofs.YtamiaalfjmppaaaDoor
open Go.Shelf

def bren : Go.Shelf.Ren := ⟨fun | 166 => 72 | 167 => 73 | 240 => 85 | 276 => 90 | n => n, fun | 0 => 0 | 3 => 3 | 4 => 4 | 5 => 5 | 9 => 9 | 20 => 20 | 37 => 85 | 70 => 100 | 72 => 102 | 75 => 104 | 164 => 129 | 80 => 109 | n => n, fun | n => n⟩
theorem blays166 : Go.Proofs.Lays.n166 Tryd.prog bren := {
  mixed := by kernel_rfl
  f166 := Tryd.func72.trans (congrArg some (by kernel_rfl))
  f240 := Tryd.func85.trans (congrArg some (by kernel_rfl))
  f276 := Tryd.func90.trans (congrArg some (by kernel_rfl))
  t0 := Tryd.underlying0
  a0 := Tryd.isAgg0
  z0 := Tryd.sizeOf0
  v0 := Tryd.zeroValue0
  t3 := Tryd.underlying3
  a3 := Tryd.isAgg3
  z3 := Tryd.sizeOf3
  v3 := Tryd.zeroValue3
  t4 := Tryd.underlying4
  a4 := Tryd.isAgg4
  z4 := Tryd.sizeOf4
  v4 := Tryd.zeroValue4
  t9 := Tryd.underlying9
  a9 := Tryd.isAgg9
  z9 := Tryd.sizeOf9
  v9 := Tryd.zeroValue9
  t20 := Tryd.underlying20
  a20 := Tryd.isAgg20
  z20 := Tryd.sizeOf20
  v20 := Tryd.zeroValue20
  t37 := Tryd.underlying85
  a37 := Tryd.isAgg85
  z37 := Tryd.sizeOf85
  v37 := Tryd.zeroValue85
  t70 := Tryd.underlying100
  a70 := Tryd.isAgg100
  z70 := Tryd.sizeOf100
  v70 := Tryd.zeroValue100
  t72 := Tryd.underlying102
  a72 := Tryd.isAgg102
  z72 := Tryd.sizeOf102
  v72 := Tryd.zeroValue102
  t75 := Tryd.underlying104
  a75 := Tryd.isAgg104
  z75 := Tryd.sizeOf104
  v75 := Tryd.zeroValue104
  t164 := Tryd.underlying129
  a164 := Tryd.isAgg129
  z164 := Tryd.sizeOf129
  v164 := Tryd.zeroValue129 }
theorem blays167 : Go.Proofs.Lays.n167 Tryd.prog bren := {
  mixed := by kernel_rfl
  f167 := Tryd.func73.trans (congrArg some (by kernel_rfl))
  f240 := Tryd.func85.trans (congrArg some (by kernel_rfl))
  f276 := Tryd.func90.trans (congrArg some (by kernel_rfl))
  t0 := Tryd.underlying0
  a0 := Tryd.isAgg0
  z0 := Tryd.sizeOf0
  v0 := Tryd.zeroValue0
  t4 := Tryd.underlying4
  a4 := Tryd.isAgg4
  z4 := Tryd.sizeOf4
  v4 := Tryd.zeroValue4
  t5 := Tryd.underlying5
  a5 := Tryd.isAgg5
  z5 := Tryd.sizeOf5
  v5 := Tryd.zeroValue5
  t9 := Tryd.underlying9
  a9 := Tryd.isAgg9
  z9 := Tryd.sizeOf9
  v9 := Tryd.zeroValue9
  t20 := Tryd.underlying20
  a20 := Tryd.isAgg20
  z20 := Tryd.sizeOf20
  v20 := Tryd.zeroValue20
  t37 := Tryd.underlying85
  a37 := Tryd.isAgg85
  z37 := Tryd.sizeOf85
  v37 := Tryd.zeroValue85
  t70 := Tryd.underlying100
  a70 := Tryd.isAgg100
  z70 := Tryd.sizeOf100
  v70 := Tryd.zeroValue100
  t72 := Tryd.underlying102
  a72 := Tryd.isAgg102
  z72 := Tryd.sizeOf102
  v72 := Tryd.zeroValue102
  t75 := Tryd.underlying104
  a75 := Tryd.isAgg104
  z75 := Tryd.sizeOf104
  v75 := Tryd.zeroValue104
  t164 := Tryd.underlying129
  a164 := Tryd.isAgg129
  z164 := Tryd.sizeOf129
  v164 := Tryd.zeroValue129 }
theorem bextra : Builder.Extra Tryd.prog bren := {
  sizeBuilder := by kernel_rfl
  liesBuilder := by kernel_rfl
  t5 := Tryd.underlying5
  a5 := Tryd.isAgg5
  z5 := Tryd.sizeOf5
  v5 := Tryd.zeroValue5
  infoByte := by kernel_rfl
  cellsByte := by kernel_rfl
  sizeByte := by kernel_rfl
  neB5 := by decide }
open Go.RowKit
/-- A builder of the call's own with the bytes l. -/
def Bld (w0 : World) (B b : Nat) (l : List UInt8) (w : World) : Prop := Lib.IsBuilderF 102 5 B b (Lib.byteCells l) w ∧ Below B w0 w ∧ B ≤ w0.heap.size
theorem Bld.bl {w0 w : World} {B b : Nat} {l : List UInt8} (h : Bld w0 B b l w) : Below B w0 w := h.2.1
theorem Bld.str {w0 w : World} {B b : Nat} {l : List UInt8} (h : Bld w0 B b l w) (s : ByteArray) (hl : l.length + s.size ≤ 140737488355328) :
    Calls Tryd.prog 72 #[.pointer (some ⟨b, 0, none⟩), .string s] w fun e w' => e = .returned (.tuple #[.int .i64 s.size, .nilIface]) ∧ Bld w0 B b (l ++ s.data.toList) w' := by
  obtain ⟨h1, h2, h3⟩ := h
  refine (Any.Builder_WriteString_k blays166 bextra B b (Lib.byteCells l) s w h1 (by simpa [Lib.byteCells] using hl) (Nat.le_trans h3 h2.size)).mono ?_
  rintro e w' ⟨rfl, h4, h5, _⟩
  refine ⟨rfl, .inr ?_, h2.trans h5, h3⟩
  have e1 : Lib.byteCells (l ++ s.data.toList) = Lib.byteCells l ++ Lib.strCells s := by simp [Lib.byteCells, Lib.strCells]
  rw [e1]; exact h4
theorem Bld.byte {w0 w : World} {B b : Nat} {l : List UInt8} (h : Bld w0 B b l w) (c : UInt8) (hl : l.length + 1 ≤ 140737488355328) :
    Calls Tryd.prog 73 #[.pointer (some ⟨b, 0, none⟩), .int .u8 c.toNat] w fun e w' => e = .returned .nilIface ∧ Bld w0 B b (l ++ [c]) w' := by
  obtain ⟨h1, h2, h3⟩ := h
  refine (Any.Builder_WriteByte_k blays167 bextra B b (Lib.byteCells l) c.toNat w h1 (by simpa [Lib.byteCells] using hl) (Nat.le_trans h3 h2.size)).mono ?_
  rintro e w' ⟨rfl, h4, h5, _⟩
  refine ⟨rfl, .inr ?_, h2.trans h5, h3⟩
  have e1 : Lib.byteCells (l ++ [c]) = Lib.byteCells l ++ [.int .u8 c.toNat] := by simp [Lib.byteCells]
  rw [e1]; exact h4
theorem Bld.read {w0 w : World} {B b : Nat} {l : List UInt8} (h : Bld w0 B b l w) :
    Calls Tryd.prog 74 #[.pointer (some ⟨b, 0, none⟩)] w fun e w' => e = .returned (.string ⟨l.toArray⟩) ∧ Bld w0 B b l w' := by
  obtain ⟨h1, h2, h3⟩ := h
  refine (Tryd.Builder_String_any_k B b l w h1 (Nat.le_trans h3 h2.size)).mono ?_
  rintro e w' ⟨rfl, h4, h5, _⟩
  exact ⟨rfl, h4, h2.trans h5, h3⟩
theorem Bld.grow {w0 w w' : World} {B b : Nat} {l : List UInt8} (h : Bld w0 B b l w) (hb : Below w.heap.size w w') : Bld w0 B b l w' := by
  obtain ⟨h1, h2, h3⟩ := h
  refine ⟨?_, h2.trans (hb.mono (Nat.le_trans h3 h2.size)), h3⟩
  have go : ∀ p, Lib.BuilderAtF 102 5 B b p (Lib.byteCells l) w → Lib.BuilderAtF 102 5 B b p (Lib.byteCells l) w' := by
    rintro p ⟨k1, v, k2, ⟨k3, k4⟩, k5⟩
    refine ⟨k1, v, (hb.block b (Array.getElem?_eq_some_iff.1 k2).1).trans k2, ⟨k3, ?_⟩, k5⟩
    rcases k4 with k4 | ⟨g, cap, cur, fz, j1, j2, j3, j4⟩
    · exact .inl k4
    · exact .inr ⟨g, cap, cur, fz, j1, j2, (hb.block g (Array.getElem?_eq_some_iff.1 j3).1).trans j3, j4⟩
  exact h1.imp (go _) (go _)
theorem Bld.new (w0 w : World) (B : Nat) (hb : Below B w0 w) (hB : B ≤ w0.heap.size) : Bld w0 B w.heap.size [] (w.alloc (.cells #[.pointer none, .slice none 0 0] 102)) := by
  refine ⟨.inl ⟨Nat.le_trans hB hb.size, .slice none 0 0, (by show (w.heap.push _)[w.heap.size]? = _; simp), ?_, by simp [Value.ownBlock]⟩, hb.alloc (Nat.le_trans hB hb.size) _, hB⟩
  exact ⟨rfl, .inl ⟨rfl, rfl⟩⟩
end Go.Proofs.YtamiaalfjmppaaaDoor

namespace Go.Proofs.YtamiaalfjmppaaaDoor
open Go.RowKit Go.W32 Go.Blk Go.Sg

def sgT (x : Int) (t : ByteArray) : ByteArray := (⟨#[107, 32]⟩ : ByteArray) ++ dec x ++ ⟨#[32]⟩ ++ t
def sgK (x : Int) (t : ByteArray) : Int := 1 + number KC (sgT x t) 2147483645
def sgR (x : Int) (t : ByteArray) : Int := power 7 (sgK x t)
def sgS (x : Int) (t : ByteArray) : Int := (sgK x t + chal (sgR x t) (pubV x) t * x) % 2147483646
theorem sgK_range (x : Int) (t : ByteArray) : 1 ≤ sgK x t ∧ sgK x t ≤ 2147483645 := by
  have := number_range KC (sgT x t) 2147483645 (by decide)
  unfold sgK; omega
theorem power_range (b n : Int) : 0 ≤ power b n ∧ power b n ≤ 2147483646 := by
  unfold power; split
  · have := pw_lt b.toNat n.toNat; unfold gp at this; omega
  · omega
theorem pubV_range (x : Int) : 0 ≤ pubV x ∧ pubV x ≤ 2147483646 := by
  unfold pubV; split
  · exact power_range _ _
  · omega

theorem sign_no (x : Int) (t : ByteArray) (w : World) (hx : ¬ isSec x) :
    Calls Tryd.prog 43 #[.int .i64 x, .string t] w fun e w' => e = .returned (.tuple #[.agg #[.int .i64 0, .int .i64 0], .int .i64 1]) ∧ Below w.heap.size w w' := by
  have hp := fun w => pub_any x w
  unfold pubV pubE at hp
  simp only [if_neg hx] at hp
  have HP := Lib.hid hp
  clear hp hx
  go_enter Tryd.func43, Tryd.ntmps43
  go_wp2_with fail
  refine (HP.out _).mono ?_
  rintro e w' ⟨rfl, rfl⟩
  go_wp2_with fail
  exact bodyPost_ret (v := .tuple #[.agg #[.int .i64 0, .int .i64 0], .int .i64 1]) (by simp [results, Tryd.results43, go_sem]) rfl ⟨rfl, (Below.refl _ _).alloc (Nat.le_refl _) _⟩
set_option maxRecDepth 100000 in
set_option maxHeartbeats 400000 in
theorem sign_yes (x : Int) (t : ByteArray) (w : World) (hx : isSec x) (ht : t.size ≤ 1000000000000) (hT : HasT w) :
    Calls Tryd.prog 43 #[.int .i64 x, .string t] w fun e w' => e = .returned (.tuple #[.agg #[.int .i64 (sgR x t), .int .i64 (sgS x t)], .int .i64 0]) ∧ Below w.heap.size w w' := by
  have hp := fun w => pub_any x w
  have hx1 : 1 ≤ x := hx.1
  have hx2 : x ≤ 2147483645 := hx.2
  have hpr := pubV_range x
  have hrr : 0 ≤ sgR x t ∧ sgR x t ≤ 2147483646 := power_range _ _
  have hcr := chal_range (sgR x t) (pubV x) t
  have hkr := sgK_range x t
  have s1 := dec_size x (by omega) (by omega)
  have i1 := fun w h => itoa_any x w (by omega) (by omega) h
  have hsz : (sgT x t).size < 140737488355328 := by
    have e : (sgT x t).size = 2 + (dec x).size + 1 + t.size := by unfold sgT; rw [ba_size, ba_size, ba_size]; rfl
    omega
  have n1 := fun w h => number_any KC (sgT x t) 2147483645 w hsz (by decide) h
  have c1 := fun w h => ch_any (sgR x t) (pubV x) t w (by omega) (by omega) (by omega) (by omega) (by omega) h
  have p1 := fun w => power_any 7 (sgK x t) w (by omega)
  change ∀ w, Calls _ _ _ _ fun e w' => e = .returned (.int .i64 (sgR x t)) ∧ w = w' at p1
  have hpe : pubE x = 0 := by unfold pubE; rw [if_pos hx]
  rw [hpe] at hp
  have hS : sgS x t = (sgK x t + chal (sgR x t) (pubV x) t * x) % 2147483646 := rfl
  have hK : sgK x t = 1 + number KC (sgT x t) 2147483645 := rfl
  have hnr := number_range KC (sgT x t) 2147483645 (by decide)
  unfold sgT at n1
  obtain ⟨a, ea⟩ : ∃ a, a = dec x := ⟨_, rfl⟩
  obtain ⟨y, ey⟩ : ∃ y, y = pubV x := ⟨_, rfl⟩
  obtain ⟨r, er⟩ : ∃ r, r = sgR x t := ⟨_, rfl⟩
  obtain ⟨k, ek⟩ : ∃ k, k = sgK x t := ⟨_, rfl⟩
  obtain ⟨s, es⟩ : ∃ s, s = sgS x t := ⟨_, rfl⟩
  have enn : number KC (sgT x t) 2147483645 = k - 1 := by rw [ek, hK]; omega
  have enn2 : number KC ({ data := #[107, 32] } ++ dec x ++ { data := #[32] } ++ t) 2147483645 = k - 1 := enn
  obtain ⟨c, ec⟩ : ∃ c, c = chal (sgR x t) (pubV x) t := ⟨_, rfl⟩
  simp only [enn2] at n1
  rw [← ec] at hcr hS
  simp only [← ec] at c1
  rw [← ea] at s1 n1; simp only [← ea] at i1
  rw [← ey] at hpr; simp only [← ey] at hp c1
  rw [← er] at hrr ⊢; simp only [← er] at c1 p1
  rw [← ek] at hS hkr; simp only [← ek] at p1
  rw [← es] at hS ⊢
  have hm0 : 0 ≤ c * x := Int.mul_nonneg hcr.1 (by omega)
  have hm1 : c * x ≤ 4611686009837453316 := by
    have := Int.mul_le_mul (show c ≤ 2147483646 by omega) (show x ≤ 2147483646 by omega) (by omega) (by omega)
    omega
  obtain ⟨hk1, hk2⟩ := hkr
  have hk3 : 1 + (k - 1) = k := by omega
  have I1 := Lib.hid i1
  have N1 := Lib.hid n1
  have C1 := Lib.hid c1
  have P1 := Lib.hid p1
  have HP := Lib.hid hp
  have HS := Lib.hid hS
  clear i1 n1 c1 p1 hp hS hK enn enn2 ea ey er ek es ec hpe hx hnr hsz
  have HT0 := Lib.hid (hT.alloc (.cells #[.int .i64 0, .int .i64 0] 40))
  have HB0 := Lib.hid ((Below.refl w.heap.size w).alloc (Nat.le_refl _) (.cells #[.int .i64 0, .int .i64 0] 40))
  have B0 := Blk.new w [.int .i64 0, .int .i64 0] 40
  clear hT
  go_enter Tryd.func43, Tryd.ntmps43
  go_wp2_with fail
  refine (HP.out _).mono ?_
  rintro e w' ⟨rfl, rfl⟩
  go_wp2_with fail
  refine (I1.out _ HT0.out).mono ?_
  rintro e w1 ⟨rfl, hb1⟩
  have HT1 := Lib.hid (HT0.out.below hb1 (Nat.le_refl _))
  have HB1 := Lib.hid (HB0.out.trans (hb1.mono HB0.out.size))
  have B1 := B0.below hb1 B0.lt
  clear B0 hb1
  go_wp2_with fail
  refine (N1.out _ HT1.out.k).mono ?_
  rintro e w2 ⟨rfl, hb2⟩
  have HT2 := Lib.hid (HT1.out.below hb2 (Nat.le_refl _))
  have HB2 := Lib.hid (HB1.out.trans (hb2.mono HB1.out.size))
  have B2 := B1.below hb2 B1.lt
  clear B1 hb2
  go_wp2_with fail
  refine (P1.out _).mono ?_
  rintro e w' ⟨rfl, rfl⟩
  go_wp2_with fail
  refine (C1.out _ HT2.out).mono ?_
  rintro e w3 ⟨rfl, hb3⟩
  have HT3 := Lib.hid (HT2.out.below hb3 (Nat.le_refl _))
  have HB3 := Lib.hid (HB2.out.trans (hb3.mono HB2.out.size))
  have B3 := B2.below hb3 B2.lt
  have h0 := B3.cell 0 (by simp)
  have h1 := B3.cell 1 (by simp)
  have f0 := B3.frozen 0
  have f1 := B3.frozen 1
  simp only [List.getElem_cons_zero, List.getElem_cons_succ] at h0 h1
  have B4 := (B3.set 0 (.int .i64 r)).set 1 (.int .i64 ((k + c * x) % 2147483646))
  have h40 := B4.cell 0 (by simp)
  have h41 := B4.cell 1 (by simp)
  simp at h40 h41
  clear B2 B3 B4 hb3
  go_wp2_with fail
  refine bodyPost_ret (v := .tuple #[.agg #[.int .i64 r, .int .i64 s], .int .i64 0]) ?_ rfl ⟨rfl, (HB3.out.setCell (Nat.le_refl _) _).setCell (Nat.le_refl _) _⟩
  rw [HS.out]
  simp [results, Tryd.results43, go_sem, h40, h41]
end Go.Proofs.YtamiaalfjmppaaaDoor

namespace Go.Proofs.YtamiaalfjmppaaaDoor
open Go.RowKit Go.W32 Go.Blk Go.Sg

def verOk (y r s : Int) : Prop := 1 ≤ r ∧ r ≤ 2147483646 ∧ 0 ≤ s ∧ s ≤ 2147483645 ∧ 1 ≤ y ∧ y ≤ 2147483646
instance (y r s : Int) : Decidable (verOk y r s) := by unfold verOk; infer_instance
/-- What Verify returns. -/
def verB (y : Int) (t : ByteArray) (r s : Int) : Bool := decide (verOk y r s) && (power 7 s == r * power y (chal r y t) % 2147483647)

theorem ver_no (y : Int) (t : ByteArray) (r s : Int) (w : World) (h : ¬ verOk y r s) :
    Calls Tryd.prog 49 #[.int .i64 y, .string t, .agg #[.int .i64 r, .int .i64 s]] w fun e w' => e = .returned (.bool false) ∧ Below w.heap.size w w' := by
  have B0 := Blk.new w [.int .i64 r, .int .i64 s] 40
  have h0 := B0.cell 0 (by simp)
  have h1 := B0.cell 1 (by simp)
  simp only [List.getElem_cons_zero, List.getElem_cons_succ] at h0 h1
  clear B0
  by_cases hr : 1 ≤ r ∧ r ≤ 2147483646
  · by_cases hs0 : 0 ≤ s
    · by_cases hs1 : s ≤ 2147483645
      · have hy : ¬ (1 ≤ y ∧ y ≤ 2147483646) := fun hy => h ⟨hr.1, hr.2, hs0, hs1, hy.1, hy.2⟩
        have HY := Lib.hid hy
        have HR := Lib.hid hr
        clear h hy hr
        go_enter Tryd.func49, Tryd.ntmps49
        go_wp2_with fail
        refine (key_yes _ _ HR.out.1 HR.out.2).mono ?_
        rintro e w' ⟨rfl, rfl⟩
        go_wp2_with fail
        refine (key_no _ _ HY.out).mono ?_
        rintro e w' ⟨rfl, rfl⟩
        go_wp2_with fail
        go_ret
        exact ⟨rfl, (Below.refl _ _).alloc (Nat.le_refl _) _⟩
      · have HR := Lib.hid hr
        clear h hr
        go_enter Tryd.func49, Tryd.ntmps49
        go_wp2_with fail
        refine (key_yes _ _ HR.out.1 HR.out.2).mono ?_
        rintro e w' ⟨rfl, rfl⟩
        go_wp2_with fail
        go_ret
        exact ⟨rfl, (Below.refl _ _).alloc (Nat.le_refl _) _⟩
    · have HR := Lib.hid hr
      clear h hr
      go_enter Tryd.func49, Tryd.ntmps49
      go_wp2_with fail
      refine (key_yes _ _ HR.out.1 HR.out.2).mono ?_
      rintro e w' ⟨rfl, rfl⟩
      go_wp2_with fail
      go_ret
      exact ⟨rfl, (Below.refl _ _).alloc (Nat.le_refl _) _⟩
  · have HR := Lib.hid hr
    clear h hr
    go_enter Tryd.func49, Tryd.ntmps49
    go_wp2_with fail
    refine (key_no _ _ HR.out).mono ?_
    rintro e w' ⟨rfl, rfl⟩
    go_wp2_with fail
    go_ret
    exact ⟨rfl, (Below.refl _ _).alloc (Nat.le_refl _) _⟩
theorem below_drewN {B : Nat} {a w : World} (h : Below B a w) (n : Nat) : Below B a (w.drewN n) := ⟨h.os, h.tape, h.output, h.size, h.block⟩
theorem quiet_left {P : Program} {f : FuncId} {args : Array Value} {w : World} {n : Nat} {v : Value}
    (h : Calls P f args (w.drewN n) fun e w' => e = .returned v ∧ w.drewN n = w') : Calls P f args (w.drewN n) fun e w'' => e = .returned v ∧ ∃ m, w'' = w.drewN m :=
  h.mono fun _ _ ⟨he, hm⟩ => ⟨he, n, hm.symm⟩
set_option maxRecDepth 100000 in
set_option maxHeartbeats 400000 in
theorem ver_yes (y : Int) (t : ByteArray) (r s : Int) (w : World) (h : verOk y r s) (ht : t.size ≤ 1000000000000) (hT : HasT w) :
    Calls Tryd.prog 49 #[.int .i64 y, .string t, .agg #[.int .i64 r, .int .i64 s]] w fun e w' => e = .returned (.bool (power 7 s == r * power y (chal r y t) % 2147483647)) ∧ Below w.heap.size w w' := by
  obtain ⟨hr1, hr2, hs1, hs2, hy1, hy2⟩ := h
  have B0 := Blk.new w [.int .i64 r, .int .i64 s] 40
  have h0 := B0.cell 0 (by simp)
  have h1 := B0.cell 1 (by simp)
  simp only [List.getElem_cons_zero, List.getElem_cons_succ] at h0 h1
  have hcr := chal_range r y t
  have c1 := fun w h => ch_any r y t w (by omega) (by omega) (by omega) (by omega) (by omega) h
  have p1 := fun w => power_any y (chal r y t) w (by omega)
  have p2 := fun w => power_any 7 s w (by omega)
  have hpr := power_range y (chal r y t)
  obtain ⟨c, ec⟩ : ∃ c, c = chal r y t := ⟨_, rfl⟩
  rw [← ec] at hcr hpr ⊢
  simp only [← ec] at c1 p1
  obtain ⟨q, eq⟩ : ∃ q, q = power y c := ⟨_, rfl⟩
  rw [← eq] at hpr ⊢
  simp only [← eq] at p1
  obtain ⟨v, ev⟩ : ∃ v, v = power 7 s := ⟨_, rfl⟩
  rw [← ev]
  simp only [← ev] at p2
  have hm0 : 0 ≤ r * q := Int.mul_nonneg (by omega) hpr.1
  have hm1 : r * q ≤ 4611686009837453316 := by
    have := Int.mul_le_mul hr2 hpr.2 (by omega) (by omega)
    omega
  have C1 := Lib.hid c1
  have P1 := Lib.hid p1
  have P2 := Lib.hid p2
  clear ec eq ev c1 p1 p2
  have HT0 := Lib.hid (hT.alloc (.cells #[.int .i64 r, .int .i64 s] 40))
  have HB0 := Lib.hid ((Below.refl w.heap.size w).alloc (Nat.le_refl _) (.cells #[.int .i64 r, .int .i64 s] 40))
  clear hT
  go_enter Tryd.func49, Tryd.ntmps49
  go_wp2_with fail
  refine (key_yes _ _ hr1 hr2).mono ?_
  rintro e w' ⟨rfl, rfl⟩
  go_wp2_with fail
  refine (key_yes _ _ hy1 hy2).mono ?_
  rintro e w' ⟨rfl, rfl⟩
  go_wp2_with fail
  refine (C1.out _ HT0.out).mono ?_
  rintro e w1 ⟨rfl, hb1⟩
  have HT1 := Lib.hid (HT0.out.below hb1 (Nat.le_refl _))
  have HB1 := Lib.hid (HB0.out.trans (hb1.mono HB0.out.size))
  have B1 := B0.below hb1 B0.lt
  have h10 := B1.cell 0 (by simp)
  have h11 := B1.cell 1 (by simp)
  simp only [List.getElem_cons_zero, List.getElem_cons_succ] at h10 h11
  clear B0 B1 hb1 h0 h1
  go_wp2_with fail
  refine (P1.out _).mono ?_
  rintro e w' ⟨rfl, rfl⟩
  go_wp2_with fail
  have hw1 : IntKind.i64.wrap (r * q) = r * q := IntWalk.i64_in _ (by omega)
  have hw2 : (r * q).tmod 2147483647 = r * q % 2147483647 := Int.tmod_eq_emod_of_nonneg hm0
  go_quiet ((go_at_call 40; exact quiet_left (P2.out _)))
  go_wp2_with fail
  go_ret
  exact ⟨rfl, below_drewN HB1.out _⟩
theorem ver_any (y : Int) (t : ByteArray) (r s : Int) (w : World) (ht : t.size ≤ 1000000000000) (hT : HasT w) :
    Calls Tryd.prog 49 #[.int .i64 y, .string t, .agg #[.int .i64 r, .int .i64 s]] w fun e w' => e = .returned (.bool (verB y t r s)) ∧ Below w.heap.size w w' := by
  unfold verB
  by_cases h : verOk y r s
  · rw [decide_eq_true h, Bool.true_and]; exact ver_yes y t r s w h ht hT
  · rw [decide_eq_false h, Bool.false_and]; exact ver_no y t r s w h
end Go.Proofs.YtamiaalfjmppaaaDoor

namespace Go.Proofs.YtamiaalfjmppaaaDoor
open Go.RowKit Go.Blk

/-- An entry. -/
structure E31 where
  house : Int
  seq : Int
  day : Int
  prev : ByteArray
  body : ByteArray
  r : Int
  s : Int
def encE (e : E31) : List Value := [.int .i64 e.house, .int .i64 e.seq, .int .i64 e.day, .string e.prev, .string e.body, .int .i64 e.r, .int .i64 e.s]
structure E31.Ok (e : E31) : Prop where
  h0 : -9223372036854775808 ≤ e.house
  h1 : e.house ≤ 9223372036854775807
  q0 : -9223372036854775808 ≤ e.seq
  q1 : e.seq ≤ 9223372036854775807
  d0 : -9223372036854775808 ≤ e.day
  d1 : e.day ≤ 9223372036854775807
  r0 : -9223372036854775808 ≤ e.r
  r1 : e.r ≤ 9223372036854775807
  s0 : -9223372036854775808 ≤ e.s
  s1 : e.s ≤ 9223372036854775807
  p1 : e.prev.size ≤ 9223372036854775807
  b1 : e.body.size ≤ 9223372036854775807
/-- The text so far. -/
def numE (e : E31) : Nat → Int
  | 0 => e.house
  | 1 => e.seq
  | 2 => e.day
  | _ => e.prev.size
def txP (e : E31) : Nat → List UInt8
  | 0 => [101, 110, 116, 114, 121]
  | k + 1 => txP e k ++ [32] ++ (dec (numE e k)).data.toList
def txL (e : E31) : List UInt8 := txP e 4 ++ [32] ++ e.prev.data.toList ++ e.body.data.toList
def txE (e : E31) : ByteArray := ⟨(txL e).toArray⟩
def RT (w : World) (wb : World) (e : E31) (i : Value) (wr : World) : Prop := ∃ k : Nat, k ≤ 4 ∧ i = .int .i64 k ∧ Bld wb (w.heap.size + 1) (w.heap.size + 1) (txP e k) wr
theorem dec_len {n : Int} (h0 : -9223372036854775808 ≤ n) (h1 : n ≤ 9223372036854775807) : (dec n).data.toList.length ≤ 21 := by
  have := dec_size n h0 h1; simpa using this
theorem numE_ok {e : E31} (h : e.Ok) : ∀ k, -9223372036854775808 ≤ numE e k ∧ numE e k ≤ 9223372036854775807
  | 0 => ⟨h.h0, h.h1⟩
  | 1 => ⟨h.q0, h.q1⟩
  | 2 => ⟨h.d0, h.d1⟩
  | _ + 3 => ⟨by show _ ≤ (e.prev.size : Int); omega, by have := h.p1; show (e.prev.size : Int) ≤ _; omega⟩
theorem txP_len {e : E31} (h : e.Ok) : ∀ k, (txP e k).length ≤ 5 + 22 * k
  | 0 => by simp [txP]
  | k + 1 => by
    have ih := txP_len h k
    have := dec_len (numE_ok h k).1 (numE_ok h k).2
    simp only [txP, List.length_append, List.length_cons, List.length_nil]; omega
set_option maxRecDepth 100000 in
theorem idx4 (a b c d v : Int) (k : Nat) (hk : k < 4) (hv : (#[Value.int .i64 a, .int .i64 b, .int .i64 c, .int .i64 d] : Array Value)[k]? = some (.int .i64 v)) (W : World) :
    (Instr.index 107 (.agg #[.int .i64 a, .int .i64 b, .int .i64 c, .int .i64 d]) (.int .i64 (k : Int))).run Tryd.prog W = .ok (.int .i64 v) W := by
  match k, hk with
  | 0, _ => cases hv; go_simp <;> rfl
  | 1, _ => cases hv; go_simp <;> rfl
  | 2, _ => cases hv; go_simp <;> rfl
  | 3, _ => cases hv; go_simp <;> rfl
set_option maxRecDepth 100000 in
set_option maxHeartbeats 2000000 in
theorem text31_any (e0 : E31) (w : World) (ho : e0.Ok) (hp : e0.prev.size ≤ 1000000000) (hb : e0.body.size ≤ 1000000000) (hT : HasT w) :
    Calls Tryd.prog 44 #[.agg (encE e0).toArray] w fun e w' => e = .returned (.string (txE e0)) ∧ Below w.heap.size w w' := by
  have hsz : (w.alloc (.cells (encE e0).toArray 42)).heap.size = w.heap.size + 1 := by simp
  have blk : Blk (w.alloc (.cells (encE e0).toArray 42)) w.heap.size (encE e0) 42 := Blk.new w (encE e0) 42
  have hbw : Below w.heap.size w (w.alloc (.cells (encE e0).toArray 42)) := (Below.refl _ _).alloc (Nat.le_refl _) _
  have bn := Bld.new (w.alloc (.cells (encE e0).toArray 42)) (w.alloc (.cells (encE e0).toArray 42)) (w.heap.size + 1) (Below.refl _ _) (by omega)
  rw [hsz] at bn
  obtain ⟨wb, ewb⟩ : ∃ wb, wb = w.alloc (.cells (encE e0).toArray 42) := ⟨_, rfl⟩
  have LOW : Hid (∀ {wr : World}, Below (w.heap.size + 1) wb wr → Below w.heap.size w wr) := fun h => hbw.trans ((ewb ▸ h).mono (by omega))
  have S0 : Hid (Calls Tryd.prog 72 #[.pointer (some ⟨w.heap.size + 1, 0, none⟩), .string ⟨#[101, 110, 116, 114, 121]⟩] ((w.alloc (.cells (encE e0).toArray 42)).alloc (.cells #[.pointer none, .slice none 0 0] 102)) fun e w' => e = .returned (.tuple #[.int .i64 5, .nilIface]) ∧ Bld wb (w.heap.size + 1) (w.heap.size + 1) (txP e0 0) w') := by
    rw [ewb]; exact bn.str ⟨#[101, 110, 116, 114, 121]⟩ (by decide)
  have HT := Lib.hid hT
  rw [← ewb] at blk
  have HBK := Lib.hid blk
  have TLA := Lib.hid (txP_len ho)
  have NOK := Lib.hid (numE_ok ho)
  clear bn hT blk hbw hsz ewb
  obtain ⟨xh, xq, xd, xp, xb, xr, xs⟩ := e0
  go_enter Tryd.func44, Tryd.ntmps44
  go_wp2_with fail
  refine S0.out.mono ?_
  rintro e w1 ⟨rfl, hd1⟩
  obtain ⟨e0, ee⟩ : ∃ e0 : E31, e0 = ⟨xh, xq, xd, xp, xb, xr, xs⟩ := ⟨_, rfl⟩
  have HST : Hid (RT w wb e0 (.int .i64 0) w1) := ⟨0, by decide, rfl, by rw [ee]; exact hd1⟩
  have B1 := HBK.out.below hd1.bl (Nat.lt_succ_self _)
  have c0 := B1.cellD 0 _ rfl
  have c1 := B1.cellD 1 _ rfl
  have c2 := B1.cellD 2 _ rfl
  have c3 := B1.cellD 3 _ rfl
  rw [← ee] at HBK TLA NOK
  have n0 : numE e0 0 = xh := by rw [ee]; rfl
  have n1 : numE e0 1 = xq := by rw [ee]; rfl
  have n2 : numE e0 2 = xd := by rw [ee]; rfl
  have n3 : numE e0 3 = (xp.size : Int) := by rw [ee]; rfl
  have NN : Hid (numE e0 0 = xh ∧ numE e0 1 = xq ∧ numE e0 2 = xd ∧ numE e0 3 = (xp.size : Int)) := ⟨n0, n1, n2, n3⟩
  have EP : Hid (e0.prev = xp ∧ e0.body = xb) := by rw [ee]; exact ⟨rfl, rfl⟩
  have CE : Hid (encE e0 = [.int .i64 xh, .int .i64 xq, .int .i64 xd, .string xp, .string xb, .int .i64 xr, .int .i64 xs]) := by rw [ee]; rfl
  have EE := Lib.hid ee
  clear hd1 B1 S0 n0 n1 n2 n3 ee ho
  go_wp2_with fail
  go_loopw [17] (fun i wr => RT w wb e0 i wr) (fun i _ => 4 - (intOf i).toNat)
  case atStart => exact HST.out
  case round =>
    clear HST
    obtain ⟨k, hk, rfl, hd⟩ := hrel
    have hlen := TLA.out k
    by_cases hk4 : k < 4
    · have nk := NOK.out k
      have C1 := Lib.hid (hd.byte 32 (by omega))
      have nv : numE e0 k = if k = 0 then xh else if k = 1 then xq else if k = 2 then xd else (xp.size : Int) := by
        obtain ⟨n0, n1, n2, n3⟩ := NN.out
        match k, hk4 with
        | 0, _ => exact n0
        | 1, _ => exact n1
        | 2, _ => exact n2
        | 3, _ => exact n3
      obtain ⟨v, ev⟩ : ∃ v, v = numE e0 k := ⟨_, rfl⟩
      have hix : (#[Value.int .i64 xh, .int .i64 xq, .int .i64 xd, .int .i64 xp.size] : Array Value)[k]? = some (.int .i64 v) := by
        rw [ev, nv]
        match k, hk4 with
        | 0, _ => rfl
        | 1, _ => rfl
        | 2, _ => rfl
        | 3, _ => rfl
      rw [← ev] at nk
      have hidx := idx4 _ _ _ _ v k hk4 hix
      have EV := Lib.hid ev
      have hki : (k : Int) < 4 := by omega
      have k00 : (0 : Int) ≤ (k : Int) := by omega
      clear hd nv ev hix
      go_wp2_with fail
      refine C1.out.mono ?_
      rintro e w2 ⟨rfl, hd2⟩
      have D2 := Lib.hid hd2
      have HT2 := Lib.hid (HT.out.below (LOW.out hd2.bl) (Nat.le_refl _))
      have IT := Lib.hid (fun w hT => itoa_any v w nk.1 nk.2 hT)
      have HD := Lib.hid (dec_size v nk.1 nk.2)
      clear hd2 C1 hidx
      go_wp2_with fail
      refine (IT.out _ HT2.out).mono ?_
      rintro e w3 ⟨rfl, hb3⟩
      have D3 := Lib.hid (D2.out.grow hb3)
      clear D2 HT2 hb3
      go_wp2_with fail
      refine (D3.out.str (dec v) (by rw [List.length_append]; have := HD.out; simp only [List.length_cons, List.length_nil]; omega)).mono ?_
      rintro e w4 ⟨rfl, hd4⟩
      have KEY : Hid (RT w wb e0 (.int .i64 ((k : Int) + 1)) w4) := ⟨k + 1, hk4, by go_num, by rw [EV.out] at hd4; exact hd4⟩
      clear hd4 D3 IT HD
      go_wp2_with fail
      go_roundw
      case rel =>
        go_light
        have key := KEY.out
        first | exact key | ((repeat apply Exists.intro); exact ⟨key, rfl⟩)
      case measure => simp [intOf]; omega
    · obtain rfl : k = 4 := by omega
      have C1 := Lib.hid (hd.byte 32 (by omega))
      clear hd
      go_wp2_with fail
      refine C1.out.mono ?_
      rintro e w2 ⟨rfl, hd2⟩
      have B2 := HBK.out.below hd2.bl (Nat.lt_succ_self _)
      rw [CE.out] at B2
      have c3 := B2.cellD 3 _ rfl
      have C2 := Lib.hid (hd2.str xp (by rw [List.length_append]; simp only [List.length_cons, List.length_nil]; omega))
      clear hd2 C1 B2
      go_wp2_with fail
      refine C2.out.mono ?_
      rintro e w3 ⟨rfl, hd3⟩
      have B3 := HBK.out.below hd3.bl (Nat.lt_succ_self _)
      rw [CE.out] at B3
      have c4 := B3.cellD 4 _ rfl
      have C3 := Lib.hid (hd3.str xb (by
        have h3 : xp.data.toList.length = xp.size := by simp
        rw [List.length_append, List.length_append, h3]; simp only [List.length_cons, List.length_nil]; omega))
      clear hd3 C2 B3 c3
      go_wp2_with fail
      refine C3.out.mono ?_
      rintro e w4 ⟨rfl, hd4⟩
      have C4 := Lib.hid hd4.read
      clear hd4 C3 c4
      go_wp2_with fail
      refine C4.out.mono ?_
      rintro e w5 ⟨rfl, hd5⟩
      have HB := Lib.hid (LOW.out hd5.bl)
      have ET : Hid (txE e0 = ⟨(txP e0 4 ++ [32] ++ xp.data.toList ++ xb.data.toList).toArray⟩) := by
        show txE e0 = _
        unfold txE txL
        rw [EP.out.1, EP.out.2]
      clear hd5 C4
      go_wp2_with fail
      go_ret
      exact ⟨by rw [← EE.out, ET.out]; simp, HB.out⟩
end Go.Proofs.YtamiaalfjmppaaaDoor

namespace Go.Proofs.YtamiaalfjmppaaaDoor
open Go.RowKit Go.Blk Go.Opn

def txS (e : E31) : ByteArray := txE e ++ ⟨#[32]⟩ ++ dec e.r ++ ⟨#[32]⟩ ++ dec e.s
/-- The digest of an entry. -/
def dig (e : E31) : ByteArray := sumB KC (txS e)
theorem txE_size {e : E31} (h : e.Ok) : (txE e).size ≤ 94 + e.prev.size + e.body.size := by
  have := txP_len h 4
  have h1 : e.prev.data.toList.length = e.prev.size := by simp
  have h2 : e.body.data.toList.length = e.body.size := by simp
  show (txL e).toArray.size ≤ _
  rw [List.size_toArray]
  unfold txL
  simp only [List.length_append, List.length_cons, List.length_nil, h1, h2]; omega
theorem txS_size {e : E31} (h : e.Ok) : (txS e).size ≤ 138 + e.prev.size + e.body.size := by
  have h1 := txE_size h
  have h2 := dec_size e.r h.r0 h.r1
  have h3 := dec_size e.s h.s0 h.s1
  have h4 : (⟨#[32]⟩ : ByteArray).size = 1 := rfl
  unfold txS
  simp only [ByteArray.size_append, h4]; omega
theorem grow_cell {w w' : World} {p : Addr} {v : Value} (h : w.cell? p = some v) (g : Free.Grow w w') : w'.cell? p = some v := by
  rw [Below.cell g (World.block_lt_of_cell? w _ h)]; exact h
theorem grow_drew2 {w w2 : World} (h : Free.Grow w.drew w2) : Below w.heap.size w w2 := ⟨h.os, h.tape, h.output, h.size, h.block⟩
set_option maxRecDepth 100000 in
set_option maxHeartbeats 2000000 in
theorem dig_any (e0 : E31) (w : World) (ho : e0.Ok) (hp : e0.prev.size ≤ 1000000000) (hb : e0.body.size ≤ 1000000000) (hT : HasT w) :
    Calls Tryd.prog 69 #[.agg (encE e0).toArray] w fun e w' => e = .returned (.string (dig e0)) ∧ Below w.heap.size w w' := by
  have B0 := (Blk.new w (encE e0) 42)
  have c0 := B0.cellD 0 _ rfl
  have c1 := B0.cellD 1 _ rfl
  have c2 := B0.cellD 2 _ rfl
  have c3 := B0.cellD 3 _ rfl
  have c4 := B0.cellD 4 _ rfl
  have c5 := B0.cellD 5 _ rfl
  have c6 := B0.cellD 6 _ rfl
  have hT1 := hT.alloc (.cells (encE e0).toArray 42)
  have C1 := Lib.hid (fun w hT => text31_any e0 w ho hp hb hT)
  have C2 := Lib.hid (fun w hT => itoa_any e0.r w ho.r0 ho.r1 hT)
  have C3 := Lib.hid (fun w hT => itoa_any e0.s w ho.s0 ho.s1 hT)
  have hs := txS_size ho
  have C4 := Lib.hid (fun w (hT : HasT w) => sum_any KC (txS e0) w (by omega) hT.k)
  have ED : Hid (dig e0 = sumB KC (txS e0)) := rfl
  obtain ⟨dg, edg⟩ : ∃ dg, dg = dig e0 := ⟨_, rfl⟩
  rw [← edg]
  rw [← ED.out, ← edg] at C4
  unfold txS at C4
  obtain ⟨tt, ett⟩ : ∃ tt, tt = txE e0 := ⟨_, rfl⟩
  rw [← ett] at C1 C4
  obtain ⟨xh, xq, xd, xp, xb, xr, xs⟩ := e0
  have hbw := (Below.refl w.heap.size w).alloc (Nat.le_refl _) (.cells (encE ⟨xh, xq, xd, xp, xb, xr, xs⟩).toArray 42)
  have HB := Lib.hid hbw
  have htt : tt.size ≤ 3000000000 := by have := txE_size ho; rw [ett]; simp only at this hp hb; omega
  have hdr := dec_size xr ho.r0 ho.r1
  have hds := dec_size xs ho.s0 ho.s1
  have z1 : ¬ 9223372036854775807 < tt.size + 1 := by omega
  have z2 : ¬ 9223372036854775807 < tt.size + 1 + (dec xr).size := by omega
  have z3 : ¬ 9223372036854775807 < tt.size + 1 + (dec xr).size + 1 := by omega
  have z4 : ¬ 9223372036854775807 < tt.size + 1 + (dec xr).size + 1 + (dec xs).size := by omega
  clear hT ho hp hb hs ED edg ett B0 hbw
  go_enter Tryd.func69, Tryd.ntmps69
  go_wp2_with fail
  refine Free.wp_region_free 15 [(1, .det (.string tt)), (6, .det (.string (dec xr))), (12, .det (.string (dec xs))), (14, .det (.string dg))] (fun w2 => HasT w2 ∧ w2.cell? ⟨w.heap.size, 0, none⟩ = some (.int .i64 xh) ∧ w2.cell? ⟨w.heap.size, 1, none⟩ = some (.int .i64 xq) ∧ w2.cell? ⟨w.heap.size, 2, none⟩ = some (.int .i64 xd) ∧ w2.cell? ⟨w.heap.size, 3, none⟩ = some (.string xp) ∧ w2.cell? ⟨w.heap.size, 4, none⟩ = some (.string xb) ∧ w2.cell? ⟨w.heap.size, 5, none⟩ = some (.int .i64 xr) ∧ w2.cell? ⟨w.heap.size, 6, none⟩ = some (.int .i64 xs)) (by kernel_rfl) (by kernel_rfl) ?_ ⟨hT1.below (B := w.heap.size + 1) ⟨rfl, rfl, rfl, Nat.le_refl _, fun _ _ => rfl⟩ (by simp), c0, c1, c2, c3, c4, c5, c6⟩ (fun _ _ h g => ⟨h.1.below g (Nat.le_refl _), grow_cell h.2.1 g, grow_cell h.2.2.1 g, grow_cell h.2.2.2.1 g, grow_cell h.2.2.2.2.1 g, grow_cell h.2.2.2.2.2.1 g, grow_cell h.2.2.2.2.2.2.1 g, grow_cell h.2.2.2.2.2.2.2 g⟩) ?_
  · intro j mk r hf
    simp only [Free.find] at hf
    repeat' split at hf
    all_goals (first | cases hf | skip)
  simp only [List.take_succ_cons, List.take_zero]
  clear c0 c1 c2 c3 c4 c5 c6 hT1
  iterate 1 (apply Free.chain_still (by first | exact Free.wanted_of rfl rfl rfl | rfl) rfl; (intro w' hB hA; obtain ⟨qT, q0, q1, q2, q3, q4, q5, q6⟩ := hB; clear hA  qT; go_light; go_simp <;> rfl); (try simp only [Act.put, List.setIfInBounds_toArray, List.set_cons_succ, List.set_cons_zero]))
  apply Free.chain_det rfl rfl
  · intro w' hB hA
    refine Free.opRun_call (f := 44) (args := #[.agg (encE ⟨xh, xq, xd, xp, xb, xr, xs⟩).toArray]) (by clear hB hA; go_simp <;> rfl) ?_
    refine (C1.out _ hB.1).mono ?_
    rintro e w3 ⟨rfl, hb3⟩
    exact ⟨_, rfl, hb3, rfl⟩
  simp only [Act.put, List.setIfInBounds_toArray, List.set_cons_succ, List.set_cons_zero]
  iterate 4 (apply Free.chain_still (by first | exact Free.wanted_of rfl rfl rfl | rfl) rfl; (intro w' hB hA; obtain ⟨qT, q0, q1, q2, q3, q4, q5, q6⟩ := hB; clear hA  qT; go_light; go_simp <;> rfl); (try simp only [Act.put, List.setIfInBounds_toArray, List.set_cons_succ, List.set_cons_zero]))
  apply Free.chain_det rfl rfl
  · intro w' hB hA
    refine Free.opRun_call (f := 62) (args := #[.int .i64 xr]) (by clear hB hA; go_simp <;> rfl) ?_
    refine (C2.out _ hB.1).mono ?_
    rintro e w3 ⟨rfl, hb3⟩
    exact ⟨_, rfl, hb3, rfl⟩
  simp only [Act.put, List.setIfInBounds_toArray, List.set_cons_succ, List.set_cons_zero]
  iterate 5 (apply Free.chain_still (by first | exact Free.wanted_of rfl rfl rfl | rfl) rfl; (intro w' hB hA; obtain ⟨qT, q0, q1, q2, q3, q4, q5, q6⟩ := hB; clear hA  qT; go_light; go_simp <;> rfl); (try simp only [Act.put, List.setIfInBounds_toArray, List.set_cons_succ, List.set_cons_zero]))
  apply Free.chain_det rfl rfl
  · intro w' hB hA
    refine Free.opRun_call (f := 62) (args := #[.int .i64 xs]) (by clear hB hA; go_simp <;> rfl) ?_
    refine (C3.out _ hB.1).mono ?_
    rintro e w3 ⟨rfl, hb3⟩
    exact ⟨_, rfl, hb3, rfl⟩
  simp only [Act.put, List.setIfInBounds_toArray, List.set_cons_succ, List.set_cons_zero]
  iterate 1 (apply Free.chain_still (by first | exact Free.wanted_of rfl rfl rfl | rfl) rfl; (intro w' hB hA; obtain ⟨qT, q0, q1, q2, q3, q4, q5, q6⟩ := hB; clear hA  qT; go_light; go_simp <;> rfl); (try simp only [Act.put, List.setIfInBounds_toArray, List.set_cons_succ, List.set_cons_zero]))
  apply Free.chain_det rfl rfl
  · intro w' hB hA
    refine Free.opRun_call (f := 45) (args := #[.string (tt ++ ⟨#[32]⟩ ++ dec xr ++ ⟨#[32]⟩ ++ dec xs)]) (by clear hB hA; go_simp <;> rfl) ?_
    refine (C4.out _ hB.1).mono ?_
    rintro e w3 ⟨rfl, hb3⟩
    exact ⟨_, rfl, hb3, rfl⟩
  simp only [Act.put, List.setIfInBounds_toArray, List.set_cons_succ, List.set_cons_zero]
  apply Free.chain_nil
  intro wz _ hg _
  simp only [List.drop_succ_cons, List.drop_zero]
  have hz := grow_drew2 hg
  have FIN := Lib.hid (HB.out.trans (hz.mono (by simp)))
  clear hg hz HB C1 C2 C3 C4
  go_wp2
  go_ret
  exact ⟨rfl, FIN.out⟩
/-- What the entry behind a list has as its Prev. -/
def prevE (l : List E31) : ByteArray := match l.getLast? with | none => ⟨#[]⟩ | some e => dig e
def Few (l : List E31) : Prop := ∀ e ∈ l, e.Ok ∧ e.prev.size ≤ 1000000000 ∧ e.body.size ≤ 1000000000
set_option maxRecDepth 100000 in
theorem prev_any (A : Option Addr) (c : Nat) (l : List E31) (w : World) (h : SL w 7 encE A l) (hl : l.length ≤ 9223372036854775807) (hf : Few l) (hT : HasT w) :
    Calls Tryd.prog 42 #[.slice A l.length c] w fun e w' => e = .returned (.string (prevE l)) ∧ Below w.heap.size w w' := by
  by_cases h0 : l = []
  · subst h0
    go_enter Tryd.func42, Tryd.ntmps42
    go_wp2
    go_ret
    exact ⟨rfl, Below.refl _ _⟩
  · have hpos : 0 < l.length := List.length_pos_iff.2 h0
    obtain ⟨x, hx⟩ : ∃ x, l[l.length - 1]? = some x := ⟨_, List.getElem?_eq_getElem (by omega)⟩
    have hg : l.getLast? = some x := by rw [List.getLast?_eq_getElem?]; exact hx
    have ep : prevE l = dig x := by unfold prevE; rw [hg]
    rw [ep]
    obtain ⟨f1, f2, f3⟩ := hf x (List.mem_of_getElem? hx)
    have C1 := Lib.hid (fun w hT => dig_any x w f1 f2 f3 hT)
    obtain ⟨b, off, rfl, hc⟩ := h.at_ hx
    obtain ⟨dg, edg⟩ : ∃ dg, dg = dig x := ⟨_, rfl⟩
    rw [← edg] at C1 ⊢
    obtain ⟨xh, xq, xd, xp, xb, xr, xs⟩ := x
    have c0 := hc 0 _ rfl
    have c1 := hc 1 _ rfl
    have c2 := hc 2 _ rfl
    have c3 := hc 3 _ rfl
    have c4 := hc 4 _ rfl
    have c5 := hc 5 _ rfl
    have c6 := hc 6 _ rfl
    obtain ⟨m, hm⟩ : ∃ m, l.length = m + 1 := ⟨l.length - 1, by omega⟩
    have hm1 : l.length - 1 = m := by omega
    rw [hm1] at c0 c1 c2 c3 c4 c5 c6
    rw [hm] at hl ⊢
    simp only [← Nat.add_assoc, Nat.add_zero] at c0 c1 c2 c3 c4 c5 c6
    have HT := Lib.hid hT
    clear h hc hg ep f1 f2 f3 edg hf hx hpos h0 hm hm1 hT
    go_enter Tryd.func42, Tryd.ntmps42
    go_wp2_with fail
    refine (C1.out _ HT.out).mono ?_
    rintro e w1 ⟨rfl, hb1⟩
    have HB := Lib.hid hb1
    clear hb1
    go_wp2_with fail
    go_ret
    exact ⟨rfl, HB.out⟩
end Go.Proofs.YtamiaalfjmppaaaDoor

namespace Go.Proofs.YtamiaalfjmppaaaDoor
open Go.RowKit Go.Blk Go.Opn

theorem unwanted2 {o : Oper} {ops : Array Oper} {a : Act} {j t : Nat} {b b' : Bool} (hg : o.guard = some (j, b')) (hj : (ops[j]?).bind (·.dst) = some t) (ht : a.tmps[t]? = some (.bool b)) (hne : (b == b') = false) : Region.wanted o (yielded ops a.tmps) = false := by
  unfold Region.wanted yielded
  rw [hg]
  simp only [hj, Option.bind_some, ht]
  simpa using hne
def limB (n : Nat) (e : E31) : Bool := decide ((n : Int) < 4000) && decide ((e.body.size : Int) ≤ 2000)
def argB (n : Nat) (e : E31) (house : Int) : Bool := (e.house == house) && ((e.seq == (n : Int)) && (decide (0 ≤ e.day) && decide (e.day ≤ 2000)))
def ordB (l : List E31) (e : E31) : Bool := match l.getLast? with | none => true | some x => decide (x.day ≤ e.day)
/-- The error of an entry behind a list. -/
def misp (l : List E31) (e : E31) (house : Int) : Int := if limB l.length e then (if argB l.length e house then (if ordB l e then 0 else 15) else 1) else 3
theorem lim_any (bn be n : Nat) (e : E31) (w : World) (hn : w.cell? ⟨bn, 0, none⟩ = some (.int .i64 n)) (he : w.cell? ⟨be, 4, none⟩ = some (.string e.body)) :
    Calls Tryd.prog 66 #[.pointer (some ⟨bn, 0, none⟩), .pointer (some ⟨be, 0, none⟩)] w fun en w' => en = .returned (.bool (limB n e)) ∧ w = w' := by
  unfold limB
  by_cases h1 : (n : Int) < 4000
  · have e1 : decide ((n : Int) < 4000) = true := decide_eq_true h1
    rw [e1, Bool.true_and]
    go_enter Tryd.func66, Tryd.ntmps66
    go_wp2
    go_ret
    exact ⟨rfl, rfl⟩
  · have e1 : decide ((n : Int) < 4000) = false := decide_eq_false h1
    rw [e1, Bool.false_and]
    go_enter Tryd.func66, Tryd.ntmps66
    go_wp2
    go_ret
    exact ⟨rfl, rfl⟩
theorem arg_any (bn be bh n : Nat) (e : E31) (house : Int) (w : World) (hn : w.cell? ⟨bn, 0, none⟩ = some (.int .i64 n)) (hh : w.cell? ⟨bh, 0, none⟩ = some (.int .i64 house))
    (he0 : w.cell? ⟨be, 0, none⟩ = some (.int .i64 e.house)) (he1 : w.cell? ⟨be, 1, none⟩ = some (.int .i64 e.seq)) (he2 : w.cell? ⟨be, 2, none⟩ = some (.int .i64 e.day)) :
    Calls Tryd.prog 67 #[.pointer (some ⟨be, 0, none⟩), .pointer (some ⟨bh, 0, none⟩), .pointer (some ⟨bn, 0, none⟩)] w fun en w' => en = .returned (.bool (argB n e house)) ∧ w = w' := by
  unfold argB
  cases e1 : (e.house == house) with
  | false =>
    rw [Bool.false_and]
    go_enter Tryd.func67, Tryd.ntmps67
    go_wp2
    go_ret
    exact ⟨rfl, rfl⟩
  | true =>
    rw [Bool.true_and]
    cases e2 : (e.seq == (n : Int)) with
    | false =>
      rw [Bool.false_and]
      go_enter Tryd.func67, Tryd.ntmps67
      go_wp2
      go_ret
      exact ⟨rfl, rfl⟩
    | true =>
      rw [Bool.true_and]
      by_cases h3 : 0 ≤ e.day
      · have e3 : decide (0 ≤ e.day) = true := decide_eq_true h3
        rw [e3, Bool.true_and]
        go_enter Tryd.func67, Tryd.ntmps67
        go_wp2
        go_ret
        exact ⟨rfl, rfl⟩
      · have e3 : decide (0 ≤ e.day) = false := decide_eq_false h3
        rw [e3, Bool.false_and]
        go_enter Tryd.func67, Tryd.ntmps67
        go_wp2
        go_ret
        exact ⟨rfl, rfl⟩
set_option maxRecDepth 100000 in
theorem ord_any (bn be bl : Nat) (A : Option Addr) (c : Nat) (l : List E31) (e : E31) (w : World) (hl : l.length ≤ 9223372036854775807) (hn : w.cell? ⟨bn, 0, none⟩ = some (.int .i64 l.length)) (hs : w.cell? ⟨bl, 0, none⟩ = some (.slice A l.length c))
    (h : SL w 7 encE A l) (he2 : w.cell? ⟨be, 2, none⟩ = some (.int .i64 e.day)) :
    Calls Tryd.prog 68 #[.pointer (some ⟨bn, 0, none⟩), .pointer (some ⟨be, 0, none⟩), .pointer (some ⟨bl, 0, none⟩)] w fun en w' => en = .returned (.bool (ordB l e)) ∧ Below w.heap.size w w' := by
  by_cases h0 : l = []
  · subst h0
    have eo : ordB [] e = true := rfl
    rw [eo]
    have hn' : w.drew.cell? ⟨bn, 0, none⟩ = some (.int .i64 0) := hn
    clear h hs eo
    go_enter Tryd.func68, Tryd.ntmps68
    go_wp2_with fail
    refine Free.wp_region_free 13 [] (fun w2 => w2.cell? ⟨bn, 0, none⟩ = some (.int .i64 0)) (by kernel_rfl) (by kernel_rfl) ?_ hn' (fun _ _ h g => grow_cell h g) ?_
    · intro j mk r hf
      simp only [Free.find] at hf
      cases hf
    simp only [List.take_succ_cons, List.take_zero]
    clear hn hn'
    iterate 3 (apply Free.chain_still (by first | exact Free.wanted_of rfl rfl rfl | rfl) rfl; (intro w' hB hA; obtain q0 := hB; clear hA ; go_light; go_simp <;> rfl); (try simp only [Act.put, List.setIfInBounds_toArray, List.set_cons_succ, List.set_cons_zero]))
    iterate 9 (apply Free.chain_skip (by exact unwanted2 rfl rfl rfl rfl); simp only [Act.put, List.setIfInBounds_toArray, List.set_cons_succ, List.set_cons_zero])
    iterate 1 (apply Free.chain_still (by first | exact Free.wanted_of rfl rfl rfl | rfl) rfl; (intro w' hB hA; obtain q0 := hB; clear hA ; go_light; go_simp <;> rfl); (try simp only [Act.put, List.setIfInBounds_toArray, List.set_cons_succ, List.set_cons_zero]))
    apply Free.chain_nil
    intro wz _ hg _
    simp only [List.drop_succ_cons, List.drop_zero]
    have FIN := Lib.hid (grow_drew2 hg)
    clear hg
    go_wp2
    go_ret
    exact ⟨rfl, FIN.out⟩
  · have hpos : 0 < l.length := List.length_pos_iff.2 h0
    obtain ⟨x, hx⟩ : ∃ x, l[l.length - 1]? = some x := ⟨_, List.getElem?_eq_getElem (by omega)⟩
    have hg : l.getLast? = some x := by rw [List.getLast?_eq_getElem?]; exact hx
    have eo : ordB l e = decide (x.day ≤ e.day) := by unfold ordB; rw [hg]
    rw [eo]
    obtain ⟨b, off, rfl, hc⟩ := h.at_ hx
    have c2 := hc 2 _ rfl
    obtain ⟨m, hm⟩ : ∃ m, l.length = m + 1 := ⟨l.length - 1, by omega⟩
    have hm1 : l.length - 1 = m := by omega
    rw [hm1] at c2
    rw [hm] at hl hn hs
    simp only [← Nat.add_assoc] at c2
    have p0 : w.drew.cell? ⟨bn, 0, none⟩ = some (.int .i64 ((m + 1 : Nat) : Int)) := hn
    have p1 : w.drew.cell? ⟨bl, 0, none⟩ = some (.slice (some ⟨b, off, none⟩) (m + 1) c) := hs
    have p2 : w.drew.cell? ⟨b, off + m * 7 + 2, none⟩ = some (.int .i64 x.day) := c2
    have p3 : w.drew.cell? ⟨be, 2, none⟩ = some (.int .i64 e.day) := he2
    have hm0 : ((m + 1 : Nat) : Int) = (m : Int) + 1 := by omega
    rw [hm0] at p0
    have m0 : ((m : Int) + 1 == 0) = false := by simp; omega
    have m00 : (0 : Int) ≤ (m : Int) := by omega
    have mw : IntKind.i64.wrap (m : Int) = (m : Int) := IntWalk.i64_in _ (by omega)
    have mlt : (m : Int) < (m : Int) + 1 := by omega
    clear h hc hg eo hx hpos h0 hm hm1 hn hs c2 he2
    go_enter Tryd.func68, Tryd.ntmps68
    go_wp2_with fail
    refine Free.wp_region_free 13 [] (fun w2 => w2.cell? ⟨bn, 0, none⟩ = some (.int .i64 ((m : Int) + 1)) ∧ w2.cell? ⟨bl, 0, none⟩ = some (.slice (some ⟨b, off, none⟩) (m + 1) c) ∧ w2.cell? ⟨b, off + m * 7 + 2, none⟩ = some (.int .i64 x.day) ∧ w2.cell? ⟨be, 2, none⟩ = some (.int .i64 e.day)) (by kernel_rfl) (by kernel_rfl) ?_ ⟨p0, p1, p2, p3⟩ (fun _ _ h g => ⟨grow_cell h.1 g, grow_cell h.2.1 g, grow_cell h.2.2.1 g, grow_cell h.2.2.2 g⟩) ?_
    · intro j mk r hf
      simp only [Free.find] at hf
      cases hf
    simp only [List.take_succ_cons, List.take_zero]
    clear p0 p1 p2 p3
    iterate 13 (apply Free.chain_still (by first | exact Free.wanted_of rfl rfl rfl | rfl) rfl; (intro w' hB hA; obtain ⟨q0, q1, q2, q3⟩ := hB; clear hA ; go_light; go_simp <;> rfl); (try simp only [Act.put, List.setIfInBounds_toArray, List.set_cons_succ, List.set_cons_zero]))
    apply Free.chain_nil
    intro wz _ hg _
    simp only [List.drop_succ_cons, List.drop_zero]
    have FIN := Lib.hid (grow_drew2 hg)
    clear hg
    go_wp2
    go_ret
    exact ⟨rfl, FIN.out⟩
end Go.Proofs.YtamiaalfjmppaaaDoor

namespace Go.Proofs.YtamiaalfjmppaaaDoor
open Go.RowKit Go.Blk Go.Opn

theorem stI : (Tryd.prog.info? 96).map (·.size) = some 2 := by kernel_rfl
theorem stInfo (x : Int) (g : Fn) (a b : Array Value) : (Tryd.prog.info? 96).map (·.size) = some (#[Value.int .i64 x, .func g a b] : Array Value).size := stI
theorem stAll (x : Int) (g : Fn) (a b : Array Value) : (#[Value.int .i64 x, .func g a b] : Array Value).all (·.oneCell') = true := by simp [Value.oneCell']
theorem stSize (x : Int) (g : Fn) (a b : Array Value) : (#[Value.int .i64 0, .nilFunc] : Array Value).size = (#[Value.int .i64 x, .func g a b] : Array Value).size := rfl
def RM (W : World) (l : List E31) (e : E31) (house : Int) (fd i : Value) (wr : World) : Prop :=
  ∃ k : Nat, k ≤ 3 ∧ i = .int .i64 k ∧ fd = .int .i64 0 ∧ Below W.heap.size W wr ∧ (1 ≤ k → limB l.length e = true) ∧ (2 ≤ k → argB l.length e house = true) ∧ (3 ≤ k → ordB l e = true)
set_option maxRecDepth 100000 in
set_option maxHeartbeats 4000000 in
theorem misp_any (A : Option Addr) (c : Nat) (l : List E31) (e0 : E31) (house : Int) (w : World) (hl : l.length ≤ 9223372036854775807) (h : SL w 7 encE A l) :
    Calls Tryd.prog 41 #[.slice A l.length c, .agg (encE e0).toArray, .int .i64 house] w fun en w' => en = .returned (.int .i64 (misp l e0 house)) ∧ Below w.heap.size w w' := by
  obtain ⟨xh, xq, xd, xp, xb, xr, xs⟩ := e0
  have HS := Lib.hid h
  clear h
  show Calls Tryd.prog 41 #[.slice A l.length c, .agg #[.int .i64 xh, .int .i64 xq, .int .i64 xd, .string xp, .string xb, .int .i64 xr, .int .i64 xs], .int .i64 house] w _
  go_enter Tryd.func41, Tryd.ntmps41
  go_wp2
  obtain ⟨W, eW⟩ : ∃ W, W = (((w.alloc (.cells #[.slice A l.length c] 28)).alloc (.cells #[.int .i64 xh, .int .i64 xq, .int .i64 xd, .string xp, .string xb, .int .i64 xr, .int .i64 xs] 42)).alloc (.cells #[.int .i64 house] 3)) := ⟨_, rfl⟩
  have bl : Blk W w.heap.size [.slice A l.length c] 28 := by rw [eW]; exact (Blk.alloc (Blk.alloc (Blk.new w [.slice A l.length c] 28) _) _)
  have be : Blk W (w.heap.size + 1) [.int .i64 xh, .int .i64 xq, .int .i64 xd, .string xp, .string xb, .int .i64 xr, .int .i64 xs] 42 := by
    have := Blk.new (w.alloc (.cells #[.slice A l.length c] 28)) [.int .i64 xh, .int .i64 xq, .int .i64 xd, .string xp, .string xb, .int .i64 xr, .int .i64 xs] 42
    rw [eW]; refine Blk.alloc ?_ _; simpa using this
  have bh : Blk W (w.heap.size + 1 + 1) [.int .i64 house] 3 := by
    have := Blk.new ((w.alloc (.cells #[.slice A l.length c] 28)).alloc (.cells #[.int .i64 xh, .int .i64 xq, .int .i64 xd, .string xp, .string xb, .int .i64 xr, .int .i64 xs] 42)) [.int .i64 house] 3
    rw [eW]; simpa using this
  have hb : Below w.heap.size w W := by
    rw [eW]; exact (((Below.refl _ w).alloc (Nat.le_refl _) _).alloc (by simp) _).alloc (by simp; omega) _
  rw [← eW]
  have c0 := bl.cellD 0 _ rfl
  have BL := Lib.hid bl
  have BE := Lib.hid be
  have BH := Lib.hid bh
  have HB := Lib.hid hb
  clear bl be bh hb eW
  go_step3
  go_wp2
  obtain ⟨cs, ecs⟩ : ∃ cs : List Value, cs = [.int .i64 3, (.func (.func 66) #[] #[.pointer (some ⟨W.heap.size, 0, none⟩), .pointer (some ⟨w.heap.size + 1, 0, none⟩)]), .int .i64 1, (.func (.func 67) #[] #[.pointer (some ⟨w.heap.size + 1, 0, none⟩), .pointer (some ⟨w.heap.size + 1 + 1, 0, none⟩), .pointer (some ⟨W.heap.size, 0, none⟩)]), .int .i64 15, (.func (.func 68) #[] #[.pointer (some ⟨W.heap.size, 0, none⟩), .pointer (some ⟨w.heap.size + 1, 0, none⟩), .pointer (some ⟨w.heap.size, 0, none⟩)])] := ⟨_, rfl⟩
  obtain ⟨V, eV⟩ : ∃ V, V = ((W.alloc (.cells #[.int .i64 l.length] 3)).alloc (.cells cs.toArray 96)) := ⟨_, rfl⟩
  have bn : Blk V W.heap.size [.int .i64 l.length] 3 := by rw [eV]; exact Blk.alloc (Blk.new W [.int .i64 l.length] 3) _
  have bc : Blk V (W.heap.size + 1) cs 96 := by
    have := Blk.new (W.alloc (.cells #[.int .i64 l.length] 3)) cs 96
    rw [eV]; simpa using this
  have hbv : Below W.heap.size W V := by rw [eV]; exact ((Below.refl _ W).alloc (Nat.le_refl _) _).alloc (by simp) _
  have BL2 := Lib.hid (BL.out.below hbv BL.out.lt)
  have BE2 := Lib.hid (BE.out.below hbv BE.out.lt)
  have BH2 := Lib.hid (BH.out.below hbv BH.out.lt)
  have HB2 := Lib.hid (HB.out.trans (hbv.mono HB.out.size))
  have BN := Lib.hid bn
  have BC := Lib.hid bc
  rw [ecs] at eV
  rw [← eV]
  have ECS := Lib.hid ecs
  clear bn bc hbv eV ecs BL BE BH HB c0
  go_step3
  go_wp2
  obtain ⟨e0, ee⟩ : ∃ e0 : E31, e0 = ⟨xh, xq, xd, xp, xb, xr, xs⟩ := ⟨_, rfl⟩
  have EE := Lib.hid ee
  have E0 : Hid (e0.house = xh ∧ e0.seq = xq ∧ e0.day = xd ∧ e0.body = xb) := by rw [ee]; exact ⟨rfl, rfl, rfl, rfl⟩
  have HST : Hid (RM V l e0 house (.int .i64 0) (.int .i64 0) V) := ⟨0, by decide, rfl, rfl, Below.refl _ _, fun h => by omega, fun h => by omega, fun h => by omega⟩
  clear ee
  go_loopw [8, 23] (fun fd i wr => RM V l e0 house fd i wr) (fun _ i _ => 3 - (intOf i).toNat)
  case atStart => exact HST.out
  case round =>
    clear HST
    obtain ⟨k, hk, rfl, rfl, hb, g1, g2, g3⟩ := hrel
    have bc := BC.out.below hb BC.out.lt
    have be := BE2.out.below hb BE2.out.lt
    have bn := BN.out.below hb BN.out.lt
    have bh := BH2.out.below hb BH2.out.lt
    have bl := BL2.out.below hb BL2.out.lt
    rw [ECS.out] at bc
    have hsz := hb.size
    match k, hk with
    | 0, _ =>
      have d0 := bc.cellD 0 _ rfl
      have d1 := bc.cellD 1 _ rfl
      have C1 : Hid (∀ w' : World, Below wr.heap.size wr w' → Calls Tryd.prog 66 #[.pointer (some ⟨W.heap.size, 0, none⟩), .pointer (some ⟨w.heap.size + 1, 0, none⟩)] w' fun en w2 => en = .returned (.bool (limB l.length e0)) ∧ Below w'.heap.size w' w2) := fun w' h => (lim_any W.heap.size (w.heap.size + 1) l.length e0 w' ((bn.below h bn.lt).cellD 0 _ rfl) (by rw [E0.out.2.2.2]; exact (be.below h be.lt).cellD 4 _ rfl)).mono (by rintro e v ⟨rfl, rfl⟩; exact ⟨rfl, Below.refl _ _⟩)
      have HBK := Lib.hid hb
      clear bc be bn bh bl hb g1 g2 g3
      go_wp2_with (with_reducible refine wpList_store_row rfl 96 (.tmp 11) (.tmp 26) rfl wr.heap.size #[.int .i64 3, (.func (.func 66) #[] #[.pointer (some ⟨W.heap.size, 0, none⟩), .pointer (some ⟨w.heap.size + 1, 0, none⟩)])] rfl rfl 96 #[.int .i64 0, .nilFunc] (heap_alloc_last wr _) (stInfo _ _ _ _) (stSize _ _ _ _) (stAll _ _ _ _) ?_; rw [World.setRow_alloc_new])
      refine (C1.out _ ((Below.refl _ _).alloc (Nat.le_refl _) _)).mono ?_
      rintro e w2 ⟨rfl, hb2⟩
      have H2 := Lib.hid ((HBK.out.alloc HBK.out.size (.cells #[.int .i64 3, (.func (.func 66) #[] #[.pointer (some ⟨W.heap.size, 0, none⟩), .pointer (some ⟨w.heap.size + 1, 0, none⟩)])] 96)).trans (hb2.mono (by simp; omega)))
      have cz : w2.cell? ⟨wr.heap.size, 0, none⟩ = some (.int .i64 3) := ((Blk.new wr [.int .i64 3, (.func (.func 66) #[] #[.pointer (some ⟨W.heap.size, 0, none⟩), .pointer (some ⟨w.heap.size + 1, 0, none⟩)])] 96).below hb2 (by simp)).cellD 0 _ rfl
      clear hb2 d0 d1 C1
      cases hL : limB l.length e0 with
      | true =>
        have KEY : Hid (RM V l e0 house (.int .i64 0) (.int .i64 1) w2) := ⟨1, by decide, rfl, rfl, H2.out, fun _ => hL, fun h => by omega, fun h => by omega⟩
        clear hL
        go_wp2_with fail
        go_roundw
        case rel =>
          go_light
          have key := KEY.out
          first | exact key | ((repeat apply Exists.intro); exact ⟨key, rfl⟩)
        case measure => simp [intOf]
      | false =>
        have FIN := Lib.hid (HB2.out.trans (H2.out.mono HB2.out.size))
        have hm : misp l e0 house = 3 := by unfold misp; rw [hL]; rfl
        have HM := Lib.hid hm
        clear hm hL
        go_wp2_with fail
        rw [Exit.noGoto_ret]
        go_ret
        exact ⟨by rw [← EE.out, HM.out]; rfl, FIN.out⟩
    | 1, _ =>
      have d0 := bc.cellD 2 _ rfl
      have d1 := bc.cellD 3 _ rfl
      have C1 : Hid (∀ w' : World, Below wr.heap.size wr w' → Calls Tryd.prog 67 #[.pointer (some ⟨w.heap.size + 1, 0, none⟩), .pointer (some ⟨w.heap.size + 1 + 1, 0, none⟩), .pointer (some ⟨W.heap.size, 0, none⟩)] w' fun en w2 => en = .returned (.bool (argB l.length e0 house)) ∧ Below w'.heap.size w' w2) := fun w' h => (arg_any W.heap.size (w.heap.size + 1) (w.heap.size + 1 + 1) l.length e0 house w' ((bn.below h bn.lt).cellD 0 _ rfl) ((bh.below h bh.lt).cellD 0 _ rfl) (by rw [E0.out.1]; exact (be.below h be.lt).cellD 0 _ rfl) (by rw [E0.out.2.1]; exact (be.below h be.lt).cellD 1 _ rfl) (by rw [E0.out.2.2.1]; exact (be.below h be.lt).cellD 2 _ rfl)).mono (by rintro e v ⟨rfl, rfl⟩; exact ⟨rfl, Below.refl _ _⟩)
      have HBK := Lib.hid hb
      have G1 := Lib.hid (g1 (by decide))
      clear bc be bn bh bl hb g1 g2 g3
      go_wp2_with (with_reducible refine wpList_store_row rfl 96 (.tmp 11) (.tmp 26) rfl wr.heap.size #[.int .i64 1, (.func (.func 67) #[] #[.pointer (some ⟨w.heap.size + 1, 0, none⟩), .pointer (some ⟨w.heap.size + 1 + 1, 0, none⟩), .pointer (some ⟨W.heap.size, 0, none⟩)])] rfl rfl 96 #[.int .i64 0, .nilFunc] (heap_alloc_last wr _) (stInfo _ _ _ _) (stSize _ _ _ _) (stAll _ _ _ _) ?_; rw [World.setRow_alloc_new])
      refine (C1.out _ ((Below.refl _ _).alloc (Nat.le_refl _) _)).mono ?_
      rintro e w2 ⟨rfl, hb2⟩
      have H2 := Lib.hid ((HBK.out.alloc HBK.out.size (.cells #[.int .i64 1, (.func (.func 67) #[] #[.pointer (some ⟨w.heap.size + 1, 0, none⟩), .pointer (some ⟨w.heap.size + 1 + 1, 0, none⟩), .pointer (some ⟨W.heap.size, 0, none⟩)])] 96)).trans (hb2.mono (by simp; omega)))
      have cz : w2.cell? ⟨wr.heap.size, 0, none⟩ = some (.int .i64 1) := ((Blk.new wr [.int .i64 1, (.func (.func 67) #[] #[.pointer (some ⟨w.heap.size + 1, 0, none⟩), .pointer (some ⟨w.heap.size + 1 + 1, 0, none⟩), .pointer (some ⟨W.heap.size, 0, none⟩)])] 96).below hb2 (by simp)).cellD 0 _ rfl
      clear hb2 d0 d1 C1
      cases hL : argB l.length e0 house with
      | true =>
        have KEY : Hid (RM V l e0 house (.int .i64 0) (.int .i64 2) w2) := ⟨2, by decide, rfl, rfl, H2.out, fun _ => G1.out, fun _ => hL, fun h => by omega⟩
        clear hL
        go_wp2_with fail
        go_roundw
        case rel =>
          go_light
          have key := KEY.out
          first | exact key | ((repeat apply Exists.intro); exact ⟨key, rfl⟩)
        case measure => simp [intOf]
      | false =>
        have FIN := Lib.hid (HB2.out.trans (H2.out.mono HB2.out.size))
        have hm : misp l e0 house = 1 := by unfold misp; rw [G1.out, hL]; rfl
        have HM := Lib.hid hm
        clear hm hL
        go_wp2_with fail
        rw [Exit.noGoto_ret]
        go_ret
        exact ⟨by rw [← EE.out, HM.out]; rfl, FIN.out⟩
    | 2, _ =>
      have d0 := bc.cellD 4 _ rfl
      have d1 := bc.cellD 5 _ rfl
      have C1 : Hid (∀ w' : World, Below wr.heap.size wr w' → Calls Tryd.prog 68 #[.pointer (some ⟨W.heap.size, 0, none⟩), .pointer (some ⟨w.heap.size + 1, 0, none⟩), .pointer (some ⟨w.heap.size, 0, none⟩)] w' fun en w2 => en = .returned (.bool (ordB l e0)) ∧ Below w'.heap.size w' w2) := fun w' h => ord_any W.heap.size (w.heap.size + 1) w.heap.size A c l e0 w' hl ((bn.below h bn.lt).cellD 0 _ rfl) ((bl.below h bl.lt).cellD 0 _ rfl) (HS.out.below ((HB2.out.trans (hb.mono HB2.out.size)).trans (h.mono (Nat.le_trans HB2.out.size hsz))) (Nat.le_refl _)) (by rw [E0.out.2.2.1]; exact (be.below h be.lt).cellD 2 _ rfl)
      have HBK := Lib.hid hb
      have G1 := Lib.hid (g1 (by decide))
      have G2 := Lib.hid (g2 (by decide))
      clear bc be bn bh bl hb g1 g2 g3
      go_wp2_with (with_reducible refine wpList_store_row rfl 96 (.tmp 11) (.tmp 26) rfl wr.heap.size #[.int .i64 15, (.func (.func 68) #[] #[.pointer (some ⟨W.heap.size, 0, none⟩), .pointer (some ⟨w.heap.size + 1, 0, none⟩), .pointer (some ⟨w.heap.size, 0, none⟩)])] rfl rfl 96 #[.int .i64 0, .nilFunc] (heap_alloc_last wr _) (stInfo _ _ _ _) (stSize _ _ _ _) (stAll _ _ _ _) ?_; rw [World.setRow_alloc_new])
      refine (C1.out _ ((Below.refl _ _).alloc (Nat.le_refl _) _)).mono ?_
      rintro e w2 ⟨rfl, hb2⟩
      have H2 := Lib.hid ((HBK.out.alloc HBK.out.size (.cells #[.int .i64 15, (.func (.func 68) #[] #[.pointer (some ⟨W.heap.size, 0, none⟩), .pointer (some ⟨w.heap.size + 1, 0, none⟩), .pointer (some ⟨w.heap.size, 0, none⟩)])] 96)).trans (hb2.mono (by simp; omega)))
      have cz : w2.cell? ⟨wr.heap.size, 0, none⟩ = some (.int .i64 15) := ((Blk.new wr [.int .i64 15, (.func (.func 68) #[] #[.pointer (some ⟨W.heap.size, 0, none⟩), .pointer (some ⟨w.heap.size + 1, 0, none⟩), .pointer (some ⟨w.heap.size, 0, none⟩)])] 96).below hb2 (by simp)).cellD 0 _ rfl
      clear hb2 d0 d1 C1
      cases hL : ordB l e0 with
      | true =>
        have KEY : Hid (RM V l e0 house (.int .i64 0) (.int .i64 3) w2) := ⟨3, by decide, rfl, rfl, H2.out, fun _ => G1.out, fun _ => G2.out, fun _ => hL⟩
        clear hL
        go_wp2_with fail
        go_roundw
        case rel =>
          go_light
          have key := KEY.out
          first | exact key | ((repeat apply Exists.intro); exact ⟨key, rfl⟩)
        case measure => simp [intOf]
      | false =>
        have FIN := Lib.hid (HB2.out.trans (H2.out.mono HB2.out.size))
        have hm : misp l e0 house = 15 := by unfold misp; rw [G1.out, G2.out, hL]; rfl
        have HM := Lib.hid hm
        clear hm hL
        go_wp2_with fail
        rw [Exit.noGoto_ret]
        go_ret
        exact ⟨by rw [← EE.out, HM.out]; rfl, FIN.out⟩
    | 3, _ =>
      have FIN := Lib.hid (HB2.out.trans (hb.mono HB2.out.size))
      have hm : misp l e0 house = 0 := by unfold misp; rw [g1 (by decide), g2 (by decide), g3 (by decide)]; rfl
      have HM := Lib.hid hm
      clear bc be bn bh bl hb g1 g2 g3 hm
      go_wp2_with fail
      first | rw [Exit.noGoto_ret] | skip
      go_ret
      exact ⟨by rw [← EE.out, HM.out]; rfl, FIN.out⟩
end Go.Proofs.YtamiaalfjmppaaaDoor

namespace Go.Proofs.YtamiaalfjmppaaaDoor
open Go.RowKit Go.Blk Go.Opn

/-- The error of the entry with an index. -/
def chk1 (l : List E31) (k : Nat) (e : E31) (house pub : Int) : Int :=
  if misp (l.take k) e house = 0 then (if (e.prev.toList == (prevE (l.take k)).toList) then (if verB pub (txE e) e.r e.s then 0 else 17) else 17) else misp (l.take k) e house
def chkGo (l : List E31) (house pub : Int) : Nat → Nat → Int × Int
  | 0, _ => (0, -1)
  | n + 1, k => match l[k]? with
    | none => (0, -1)
    | some e => if chk1 l k e house pub = 0 then chkGo l house pub n (k + 1) else (chk1 l k e house pub, k)
def keysOk (house pub : Int) : Prop := 0 ≤ house ∧ house < 12 ∧ 1 ≤ pub ∧ pub < 2147483647
instance (house pub : Int) : Decidable (keysOk house pub) := by unfold keysOk; infer_instance
def chk (l : List E31) (house pub : Int) : Int × Int := if keysOk house pub then chkGo l house pub l.length 0 else (1, -1)
theorem chkGo_ok {l : List E31} {house pub : Int} {n k : Nat} {e : E31} (h : l[k]? = some e) (h0 : chk1 l k e house pub = 0) : chkGo l house pub (n + 1) k = chkGo l house pub n (k + 1) := by
  rw [chkGo, h]; simp only; rw [if_pos h0]
theorem chkGo_bad {l : List E31} {house pub : Int} {n k : Nat} {e : E31} (h : l[k]? = some e) (h0 : chk1 l k e house pub ≠ 0) : chkGo l house pub (n + 1) k = (chk1 l k e house pub, (k : Int)) := by
  rw [chkGo, h]; simp only; rw [if_neg h0]
def RK (w : World) (l : List E31) (house pub : Int) (i : Value) (wr : World) : Prop :=
  ∃ k : Nat, k ≤ l.length ∧ i = .int .i64 k ∧ Below w.heap.size w wr ∧ chk l house pub = chkGo l house pub (l.length - k) k
def ChkPost (w : World) (r : Int × Int) (e : Ending) (w' : World) : Prop := e = .returned (.tuple #[.int .i64 r.1, .int .i64 r.2]) ∧ Below w.heap.size w w'
set_option maxRecDepth 100000 in
set_option maxHeartbeats 8000000 in
theorem check_any (A : Option Addr) (c : Nat) (l : List E31) (house pub : Int) (w : World) (h : SL w 7 encE A l) (hl : l.length ≤ 9223372036854775807) (hlc : l.length ≤ c) (hf : Few l) (hT : HasT w) :
    Calls Tryd.prog 17 #[.slice A l.length c, .int .i64 house, .int .i64 pub] w (ChkPost w (chk l house pub)) := by
  by_cases hh0 : house < 0
  · have hm : chk l house pub = (1, -1) := by unfold chk; rw [if_neg (by unfold keysOk; omega)]
    have HM := Lib.hid hm
    clear hm
    go_enter Tryd.func17, Tryd.ntmps17
    go_wp2
    go_ret2
    exact ⟨by rw [HM.out]; rfl, Below.refl _ _⟩
  by_cases hh1 : 12 ≤ house
  · have hm : chk l house pub = (1, -1) := by unfold chk; rw [if_neg (by unfold keysOk; omega)]
    have HM := Lib.hid hm
    clear hm
    go_enter Tryd.func17, Tryd.ntmps17
    go_wp2
    go_ret2
    exact ⟨by rw [HM.out]; rfl, Below.refl _ _⟩
  by_cases hp0 : pub < 1
  · have hm : chk l house pub = (1, -1) := by unfold chk; rw [if_neg (by unfold keysOk; omega)]
    have HM := Lib.hid hm
    clear hm
    go_enter Tryd.func17, Tryd.ntmps17
    go_wp2
    go_ret2
    exact ⟨by rw [HM.out]; rfl, Below.refl _ _⟩
  by_cases hp1 : 2147483647 ≤ pub
  · have hm : chk l house pub = (1, -1) := by unfold chk; rw [if_neg (by unfold keysOk; omega)]
    have HM := Lib.hid hm
    clear hm
    go_enter Tryd.func17, Tryd.ntmps17
    go_wp2
    go_ret2
    exact ⟨by rw [HM.out]; rfl, Below.refl _ _⟩
  have HST : Hid (RK w l house pub (.int .i64 0) w) := ⟨0, Nat.zero_le _, rfl, Below.refl _ _, by unfold chk; rw [if_pos (by unfold keysOk; omega)]; rfl⟩
  have HS := Lib.hid h
  have HF := Lib.hid hf
  have HT := Lib.hid hT
  obtain ⟨R, eR⟩ : ∃ R, R = chk l house pub := ⟨_, rfl⟩
  rw [← eR]
  have ER := Lib.hid eR
  clear h hf hT eR
  go_enter Tryd.func17, Tryd.ntmps17
  go_wp2_with fail
  go_loopw [27] (fun i wr => RK w l house pub i wr) (fun i _ => l.length - (intOf i).toNat)
  case atStart => exact HST.out
  case round =>
    clear HST
    obtain ⟨k, hk, rfl, hb, hR⟩ := hrel
    rw [← ER.out] at hR
    by_cases hlt : k < l.length
    · obtain ⟨x, hx⟩ : ∃ x, l[k]? = some x := ⟨_, List.getElem?_eq_getElem hlt⟩
      obtain ⟨bb, off, rfl, hc⟩ := (HS.out.below hb (Nat.le_refl _)).at_ hx
      obtain ⟨n, hn⟩ : ∃ n, l.length - k = n + 1 := ⟨l.length - k - 1, by omega⟩
      rw [hn] at hR
      have hno : chk1 l k x house pub = 0 → R = chkGo l house pub (l.length - (k + 1)) (k + 1) := fun h0 => by
        rw [hR, chkGo_ok hx h0]; congr 1; omega
      have hyes : chk1 l k x house pub ≠ 0 → R = (chk1 l k x house pub, (k : Int)) := fun h0 => by rw [hR, chkGo_bad hx h0]
      obtain ⟨f1, f2, f3⟩ := HF.out x (List.mem_of_getElem? hx)
      have hft : Few (l.take k) := fun e he => HF.out e (List.mem_of_mem_take he)
      have hlk : (l.take k).length = k := by rw [List.length_take]; omega
      have HNO := Lib.hid hno
      have HYES := Lib.hid hyes
      obtain ⟨ms, ems⟩ : ∃ ms, ms = misp (l.take k) x house := ⟨_, rfl⟩
      obtain ⟨pv, epv⟩ : ∃ pv, pv = prevE (l.take k) := ⟨_, rfl⟩
      obtain ⟨tx, etx⟩ : ∃ tx, tx = txE x := ⟨_, rfl⟩
      obtain ⟨vb, evb⟩ : ∃ vb, vb = verB pub tx x.r x.s := ⟨_, rfl⟩
      have htx : tx.size ≤ 1000000000000 := by have := txE_size f1; rw [etx]; omega
      have C1 : Hid (∀ w' : World, Below w.heap.size w w' → Calls Tryd.prog 41 #[.slice (some ⟨bb, off, none⟩) k c, .agg (encE x).toArray, .int .i64 house] w' fun en w2 => en = .returned (.int .i64 ms) ∧ Below w'.heap.size w' w2) := fun w' h => by
        have := misp_any (some ⟨bb, off, none⟩) c (l.take k) x house w' (by omega) ((HS.out.below h (Nat.le_refl _)).take k)
        rw [hlk, ← ems] at this; exact this
      have C2 : Hid (∀ w' : World, Below w.heap.size w w' → Calls Tryd.prog 42 #[.slice (some ⟨bb, off, none⟩) k c] w' fun en w2 => en = .returned (.string pv) ∧ Below w'.heap.size w' w2) := fun w' h => by
        have := prev_any (some ⟨bb, off, none⟩) c (l.take k) w' ((HS.out.below h (Nat.le_refl _)).take k) (by omega) hft (HT.out.below h (Nat.le_refl _))
        rw [hlk, ← epv] at this; exact this
      have C3 : Hid (∀ w' : World, Below w.heap.size w w' → Calls Tryd.prog 44 #[.agg (encE x).toArray] w' fun en w2 => en = .returned (.string tx) ∧ Below w'.heap.size w' w2) := fun w' h => by
        have := text31_any x w' f1 f2 f3 (HT.out.below h (Nat.le_refl _))
        rw [← etx] at this; exact this
      have C4 : Hid (∀ w' : World, Below w.heap.size w w' → Calls Tryd.prog 49 #[.int .i64 pub, .string tx, .agg #[.int .i64 x.r, .int .i64 x.s]] w' fun en w2 => en = .returned (.bool vb) ∧ Below w'.heap.size w' w2) := fun w' h => by
        have := ver_any pub tx x.r x.s w' htx (HT.out.below h (Nat.le_refl _))
        rw [← evb] at this; exact this
      have c1 : chk1 l k x house pub = if ms = 0 then (if (x.prev.toList == pv.toList) then (if vb then 0 else 17) else 17) else ms := by
        unfold chk1; rw [← ems, ← epv, ← etx, ← evb]
      have CH := Lib.hid c1
      obtain ⟨xh, xq, xd, xp, xb, xr, xs⟩ := x
      have i0 := hc 0 _ rfl
      have i1 := hc 1 _ rfl
      have i2 := hc 2 _ rfl
      have i3 := hc 3 _ rfl
      have i4 := hc 4 _ rfl
      have i5 := hc 5 _ rfl
      have i6 := hc 6 _ rfl
      simp only [← Nat.add_assoc, Nat.add_zero] at i0 i1 i2 i3 i4 i5 i6
      have hki : (k : Int) < (l.length : Int) := by omega
      have k00 : (0 : Int) ≤ (k : Int) := by omega
      have hkc : (k : Int) ≤ (c : Int) := by omega
      have HB := Lib.hid hb
      clear hc hn hR hno hyes f1 f2 f3 hft hlk ems epv etx evb htx c1 hb hx
      go_wp2_with fail
      obtain ⟨V, eV⟩ : ∃ V, V = wr.alloc (.cells #[.int .i64 xh, .int .i64 xq, .int .i64 xd, .string xp, .string xb, .int .i64 xr, .int .i64 xs] 42) := ⟨_, rfl⟩
      have bk : Blk V wr.heap.size [.int .i64 xh, .int .i64 xq, .int .i64 xd, .string xp, .string xb, .int .i64 xr, .int .i64 xs] 42 := by rw [eV]; exact Blk.new wr [.int .i64 xh, .int .i64 xq, .int .i64 xd, .string xp, .string xb, .int .i64 xr, .int .i64 xs] 42
      have hbV : Below w.heap.size w V := by rw [eV]; exact HB.out.alloc HB.out.size _
      rw [← eV]
      have c0 := bk.cellD 0 _ rfl
      have c1 := bk.cellD 1 _ rfl
      have c2 := bk.cellD 2 _ rfl
      have c3 := bk.cellD 3 _ rfl
      have c4 := bk.cellD 4 _ rfl
      have c5 := bk.cellD 5 _ rfl
      have c6 := bk.cellD 6 _ rfl
      refine Free.wp_region_free 6 [(5, .det (.int .i64 ms))] (fun w2 => Below w.heap.size w w2 ∧ w2.cell? ⟨wr.heap.size, 0, none⟩ = some (.int .i64 xh) ∧ w2.cell? ⟨wr.heap.size, 1, none⟩ = some (.int .i64 xq) ∧ w2.cell? ⟨wr.heap.size, 2, none⟩ = some (.int .i64 xd) ∧ w2.cell? ⟨wr.heap.size, 3, none⟩ = some (.string xp) ∧ w2.cell? ⟨wr.heap.size, 4, none⟩ = some (.string xb) ∧ w2.cell? ⟨wr.heap.size, 5, none⟩ = some (.int .i64 xr) ∧ w2.cell? ⟨wr.heap.size, 6, none⟩ = some (.int .i64 xs)) (by kernel_rfl) (by kernel_rfl) ?_ ⟨hbV.drew, c0, c1, c2, c3, c4, c5, c6⟩ (fun _ _ h g => ⟨h.1.trans (Below.mono g h.1.size), grow_cell h.2.1 g, grow_cell h.2.2.1 g, grow_cell h.2.2.2.1 g, grow_cell h.2.2.2.2.1 g, grow_cell h.2.2.2.2.2.1 g, grow_cell h.2.2.2.2.2.2.1 g, grow_cell h.2.2.2.2.2.2.2 g⟩) ?_
      · intro j mk r hf
        simp only [Free.find] at hf
        repeat' split at hf
        all_goals (first | cases hf | skip)
      simp only [List.take_succ_cons, List.take_zero]
      clear c0 c1 c2 c3 c4 c5 c6 i0 i1 i2 i3 i4 i5 i6 eV hbV bk HB
      iterate 5 (apply Free.chain_still (by first | exact Free.wanted_of rfl rfl rfl | rfl) rfl; (intro w' hB hA; obtain ⟨qT, q0, q1, q2, q3, q4, q5, q6⟩ := hB; clear hA  qT; go_light; go_simp <;> rfl); (try simp only [Act.put, List.setIfInBounds_toArray, List.set_cons_succ, List.set_cons_zero]))
      apply Free.chain_det rfl rfl
      · intro w' hB hA
        refine Free.opRun_call (f := 41) (args := #[.slice (some ⟨bb, off, none⟩) k c, .agg (encE ⟨xh, xq, xd, xp, xb, xr, xs⟩).toArray, .int .i64 house]) (by clear hB hA; go_simp <;> rfl) ?_
        refine (C1.out _ hB.1).mono ?_
        rintro e w3 ⟨rfl, hb3⟩
        exact ⟨_, rfl, hb3, rfl⟩
      simp only [Act.put, List.setIfInBounds_toArray, List.set_cons_succ, List.set_cons_zero]
      apply Free.chain_nil
      intro wz hBz hg _
      simp only [List.drop_succ_cons, List.drop_zero]
      have HBZ := Lib.hid hBz.1
      obtain ⟨_, z0, z1, z2, z3, z4, z5, z6⟩ := hBz
      clear hg C1
      by_cases hms : ms = 0
      · subst hms
        have p0 : wz.drew.cell? ⟨wr.heap.size, 0, none⟩ = some (.int .i64 xh) := z0
        have p1 : wz.drew.cell? ⟨wr.heap.size, 1, none⟩ = some (.int .i64 xq) := z1
        have p2 : wz.drew.cell? ⟨wr.heap.size, 2, none⟩ = some (.int .i64 xd) := z2
        have p3 : wz.drew.cell? ⟨wr.heap.size, 3, none⟩ = some (.string xp) := z3
        have p4 : wz.drew.cell? ⟨wr.heap.size, 4, none⟩ = some (.string xb) := z4
        have p5 : wz.drew.cell? ⟨wr.heap.size, 5, none⟩ = some (.int .i64 xr) := z5
        have p6 : wz.drew.cell? ⟨wr.heap.size, 6, none⟩ = some (.int .i64 xs) := z6
        clear z0 z1 z2 z3 z4 z5 z6
        cases hpp : (xp.toList == pv.toList) with
        | false =>
          have hr : R = (17, (k : Int)) := by
            have := CH.out; simp only [if_true, hpp, Bool.false_eq_true, if_false] at this
            have h2 := HYES.out (by rw [this]; decide)
            rw [this] at h2; exact h2
          have HR := Lib.hid hr
          clear hr
          go_wp2_with fail
          refine Free.wp_region_free 16 [(5, .det (.string pv))] (fun w2 => Below w.heap.size w w2 ∧ w2.cell? ⟨wr.heap.size, 0, none⟩ = some (.int .i64 xh) ∧ w2.cell? ⟨wr.heap.size, 1, none⟩ = some (.int .i64 xq) ∧ w2.cell? ⟨wr.heap.size, 2, none⟩ = some (.int .i64 xd) ∧ w2.cell? ⟨wr.heap.size, 3, none⟩ = some (.string xp) ∧ w2.cell? ⟨wr.heap.size, 4, none⟩ = some (.string xb) ∧ w2.cell? ⟨wr.heap.size, 5, none⟩ = some (.int .i64 xr) ∧ w2.cell? ⟨wr.heap.size, 6, none⟩ = some (.int .i64 xs)) (by kernel_rfl) (by kernel_rfl) ?_ ⟨HBZ.out.drew, p0, p1, p2, p3, p4, p5, p6⟩ (fun _ _ h g => ⟨h.1.trans (Below.mono g h.1.size), grow_cell h.2.1 g, grow_cell h.2.2.1 g, grow_cell h.2.2.2.1 g, grow_cell h.2.2.2.2.1 g, grow_cell h.2.2.2.2.2.1 g, grow_cell h.2.2.2.2.2.2.1 g, grow_cell h.2.2.2.2.2.2.2 g⟩) ?_
          · intro j mk r hf
            simp only [Free.find] at hf
            repeat' split at hf
            all_goals (first | cases hf | skip)
          simp only [List.take_succ_cons, List.take_zero]
          clear p0 p1 p2 p3 p4 p5 p6
          iterate 5 (apply Free.chain_still (by first | exact Free.wanted_of rfl rfl rfl | rfl) rfl; (intro w' hB hA; obtain ⟨qT, q0, q1, q2, q3, q4, q5, q6⟩ := hB; clear hA  qT; go_light; go_simp <;> rfl); (try simp only [Act.put, List.setIfInBounds_toArray, List.set_cons_succ, List.set_cons_zero]))
          apply Free.chain_det rfl rfl
          · intro w' hB hA
            refine Free.opRun_call (f := 42) (args := #[.slice (some ⟨bb, off, none⟩) k c]) (by clear hB hA; go_simp <;> rfl) ?_
            refine (C2.out _ hB.1).mono ?_
            rintro e w3 ⟨rfl, hb3⟩
            exact ⟨_, rfl, hb3, rfl⟩
          simp only [Act.put, List.setIfInBounds_toArray, List.set_cons_succ, List.set_cons_zero]
          iterate 2 (apply Free.chain_still (by first | exact Free.wanted_of rfl rfl rfl | rfl) rfl; (intro w' hB hA; obtain ⟨qT, q0, q1, q2, q3, q4, q5, q6⟩ := hB; clear hA  qT; go_light; go_simp <;> rfl); (try simp only [Act.put, List.setIfInBounds_toArray, List.set_cons_succ, List.set_cons_zero]))
          iterate 7 (apply Free.chain_skip (by exact unwanted2 rfl rfl rfl rfl); simp only [Act.put, List.setIfInBounds_toArray, List.set_cons_succ, List.set_cons_zero])
          iterate 1 (apply Free.chain_still (by first | exact Free.wanted_of rfl rfl rfl | rfl) rfl; (intro w' hB hA; obtain ⟨qT, q0, q1, q2, q3, q4, q5, q6⟩ := hB; clear hA  qT; go_light; go_simp <;> rfl); (try simp only [Act.put, List.setIfInBounds_toArray, List.set_cons_succ, List.set_cons_zero]))
          apply Free.chain_nil
          intro wy hBz hg _
          simp only [List.drop_succ_cons, List.drop_zero]
          have HBY := Lib.hid hBz.1
          clear hBz hg C2 C3 C4
          go_wp2_with fail
          go_ret2
          exact ⟨by rw [HR.out]; rfl, HBY.out⟩
        | true =>
          cases vb with
          | true =>
            have hr : R = chkGo l house pub (l.length - (k + 1)) (k + 1) := HNO.out (by have := CH.out; simpa [hpp] using this)
            have HR := Lib.hid hr
            clear hr
            go_wp2_with fail
            refine Free.wp_region_free 16 [(5, .det (.string pv)), (10, .det (.string tx)), (13, .det (.bool true))] (fun w2 => Below w.heap.size w w2 ∧ w2.cell? ⟨wr.heap.size, 0, none⟩ = some (.int .i64 xh) ∧ w2.cell? ⟨wr.heap.size, 1, none⟩ = some (.int .i64 xq) ∧ w2.cell? ⟨wr.heap.size, 2, none⟩ = some (.int .i64 xd) ∧ w2.cell? ⟨wr.heap.size, 3, none⟩ = some (.string xp) ∧ w2.cell? ⟨wr.heap.size, 4, none⟩ = some (.string xb) ∧ w2.cell? ⟨wr.heap.size, 5, none⟩ = some (.int .i64 xr) ∧ w2.cell? ⟨wr.heap.size, 6, none⟩ = some (.int .i64 xs)) (by kernel_rfl) (by kernel_rfl) ?_ ⟨HBZ.out.drew, p0, p1, p2, p3, p4, p5, p6⟩ (fun _ _ h g => ⟨h.1.trans (Below.mono g h.1.size), grow_cell h.2.1 g, grow_cell h.2.2.1 g, grow_cell h.2.2.2.1 g, grow_cell h.2.2.2.2.1 g, grow_cell h.2.2.2.2.2.1 g, grow_cell h.2.2.2.2.2.2.1 g, grow_cell h.2.2.2.2.2.2.2 g⟩) ?_
            · intro j mk r hf
              simp only [Free.find] at hf
              repeat' split at hf
              all_goals (first | cases hf | skip)
            simp only [List.take_succ_cons, List.take_zero]
            clear p0 p1 p2 p3 p4 p5 p6
            iterate 5 (apply Free.chain_still (by first | exact Free.wanted_of rfl rfl rfl | rfl) rfl; (intro w' hB hA; obtain ⟨qT, q0, q1, q2, q3, q4, q5, q6⟩ := hB; clear hA  qT; go_light; go_simp <;> rfl); (try simp only [Act.put, List.setIfInBounds_toArray, List.set_cons_succ, List.set_cons_zero]))
            apply Free.chain_det rfl rfl
            · intro w' hB hA
              refine Free.opRun_call (f := 42) (args := #[.slice (some ⟨bb, off, none⟩) k c]) (by clear hB hA; go_simp <;> rfl) ?_
              refine (C2.out _ hB.1).mono ?_
              rintro e w3 ⟨rfl, hb3⟩
              exact ⟨_, rfl, hb3, rfl⟩
            simp only [Act.put, List.setIfInBounds_toArray, List.set_cons_succ, List.set_cons_zero]
            iterate 4 (apply Free.chain_still (by first | exact Free.wanted_of rfl rfl rfl | rfl) rfl; (intro w' hB hA; obtain ⟨qT, q0, q1, q2, q3, q4, q5, q6⟩ := hB; clear hA  qT; go_light; go_simp <;> rfl); (try simp only [Act.put, List.setIfInBounds_toArray, List.set_cons_succ, List.set_cons_zero]))
            apply Free.chain_det rfl rfl
            · intro w' hB hA
              refine Free.opRun_call (f := 44) (args := #[.agg (encE ⟨xh, xq, xd, xp, xb, xr, xs⟩).toArray]) (by clear hB hA; go_simp <;> rfl) ?_
              refine (C3.out _ hB.1).mono ?_
              rintro e w3 ⟨rfl, hb3⟩
              exact ⟨_, rfl, hb3, rfl⟩
            simp only [Act.put, List.setIfInBounds_toArray, List.set_cons_succ, List.set_cons_zero]
            iterate 2 (apply Free.chain_still (by first | exact Free.wanted_of rfl rfl rfl | rfl) rfl; (intro w' hB hA; obtain ⟨qT, q0, q1, q2, q3, q4, q5, q6⟩ := hB; clear hA  qT; go_light; go_simp <;> rfl); (try simp only [Act.put, List.setIfInBounds_toArray, List.set_cons_succ, List.set_cons_zero]))
            apply Free.chain_det rfl rfl
            · intro w' hB hA
              refine Free.opRun_call (f := 49) (args := #[.int .i64 pub, .string tx, .agg #[.int .i64 xr, .int .i64 xs]]) (by clear hB hA; go_simp <;> rfl) ?_
              refine (C4.out _ hB.1).mono ?_
              rintro e w3 ⟨rfl, hb3⟩
              exact ⟨_, rfl, hb3, rfl⟩
            simp only [Act.put, List.setIfInBounds_toArray, List.set_cons_succ, List.set_cons_zero]
            iterate 2 (apply Free.chain_still (by first | exact Free.wanted_of rfl rfl rfl | rfl) rfl; (intro w' hB hA; obtain ⟨qT, q0, q1, q2, q3, q4, q5, q6⟩ := hB; clear hA  qT; go_light; go_simp <;> rfl); (try simp only [Act.put, List.setIfInBounds_toArray, List.set_cons_succ, List.set_cons_zero]))
            apply Free.chain_nil
            intro wy hBz hg _
            simp only [List.drop_succ_cons, List.drop_zero]
            have HBY := Lib.hid hBz.1
            have key : RK w l house pub (.int .i64 ((k : Int) + 1)) wy := ⟨k + 1, hlt, by go_num, HBY.out, by rw [← ER.out]; exact HR.out⟩
            have KEY := Lib.hid key
            clear hBz hg C2 C3 C4 key
            go_wp2_with fail
            go_roundw
            case rel =>
              go_light
              have key := KEY.out
              first | exact key | ((repeat apply Exists.intro); exact ⟨key, rfl⟩)
            case measure => simp [intOf]; omega
          | false =>
            have hr : R = (17, (k : Int)) := by
              have h1 : chk1 l k ⟨xh, xq, xd, xp, xb, xr, xs⟩ house pub = 17 := by have := CH.out; simpa [hpp] using this
              have h2 := HYES.out (by rw [h1]; decide)
              rw [h1] at h2; exact h2
            have HR := Lib.hid hr
            clear hr
            go_wp2_with fail
            refine Free.wp_region_free 16 [(5, .det (.string pv)), (10, .det (.string tx)), (13, .det (.bool false))] (fun w2 => Below w.heap.size w w2 ∧ w2.cell? ⟨wr.heap.size, 0, none⟩ = some (.int .i64 xh) ∧ w2.cell? ⟨wr.heap.size, 1, none⟩ = some (.int .i64 xq) ∧ w2.cell? ⟨wr.heap.size, 2, none⟩ = some (.int .i64 xd) ∧ w2.cell? ⟨wr.heap.size, 3, none⟩ = some (.string xp) ∧ w2.cell? ⟨wr.heap.size, 4, none⟩ = some (.string xb) ∧ w2.cell? ⟨wr.heap.size, 5, none⟩ = some (.int .i64 xr) ∧ w2.cell? ⟨wr.heap.size, 6, none⟩ = some (.int .i64 xs)) (by kernel_rfl) (by kernel_rfl) ?_ ⟨HBZ.out.drew, p0, p1, p2, p3, p4, p5, p6⟩ (fun _ _ h g => ⟨h.1.trans (Below.mono g h.1.size), grow_cell h.2.1 g, grow_cell h.2.2.1 g, grow_cell h.2.2.2.1 g, grow_cell h.2.2.2.2.1 g, grow_cell h.2.2.2.2.2.1 g, grow_cell h.2.2.2.2.2.2.1 g, grow_cell h.2.2.2.2.2.2.2 g⟩) ?_
            · intro j mk r hf
              simp only [Free.find] at hf
              repeat' split at hf
              all_goals (first | cases hf | skip)
            simp only [List.take_succ_cons, List.take_zero]
            clear p0 p1 p2 p3 p4 p5 p6
            iterate 5 (apply Free.chain_still (by first | exact Free.wanted_of rfl rfl rfl | rfl) rfl; (intro w' hB hA; obtain ⟨qT, q0, q1, q2, q3, q4, q5, q6⟩ := hB; clear hA  qT; go_light; go_simp <;> rfl); (try simp only [Act.put, List.setIfInBounds_toArray, List.set_cons_succ, List.set_cons_zero]))
            apply Free.chain_det rfl rfl
            · intro w' hB hA
              refine Free.opRun_call (f := 42) (args := #[.slice (some ⟨bb, off, none⟩) k c]) (by clear hB hA; go_simp <;> rfl) ?_
              refine (C2.out _ hB.1).mono ?_
              rintro e w3 ⟨rfl, hb3⟩
              exact ⟨_, rfl, hb3, rfl⟩
            simp only [Act.put, List.setIfInBounds_toArray, List.set_cons_succ, List.set_cons_zero]
            iterate 4 (apply Free.chain_still (by first | exact Free.wanted_of rfl rfl rfl | rfl) rfl; (intro w' hB hA; obtain ⟨qT, q0, q1, q2, q3, q4, q5, q6⟩ := hB; clear hA  qT; go_light; go_simp <;> rfl); (try simp only [Act.put, List.setIfInBounds_toArray, List.set_cons_succ, List.set_cons_zero]))
            apply Free.chain_det rfl rfl
            · intro w' hB hA
              refine Free.opRun_call (f := 44) (args := #[.agg (encE ⟨xh, xq, xd, xp, xb, xr, xs⟩).toArray]) (by clear hB hA; go_simp <;> rfl) ?_
              refine (C3.out _ hB.1).mono ?_
              rintro e w3 ⟨rfl, hb3⟩
              exact ⟨_, rfl, hb3, rfl⟩
            simp only [Act.put, List.setIfInBounds_toArray, List.set_cons_succ, List.set_cons_zero]
            iterate 2 (apply Free.chain_still (by first | exact Free.wanted_of rfl rfl rfl | rfl) rfl; (intro w' hB hA; obtain ⟨qT, q0, q1, q2, q3, q4, q5, q6⟩ := hB; clear hA  qT; go_light; go_simp <;> rfl); (try simp only [Act.put, List.setIfInBounds_toArray, List.set_cons_succ, List.set_cons_zero]))
            apply Free.chain_det rfl rfl
            · intro w' hB hA
              refine Free.opRun_call (f := 49) (args := #[.int .i64 pub, .string tx, .agg #[.int .i64 xr, .int .i64 xs]]) (by clear hB hA; go_simp <;> rfl) ?_
              refine (C4.out _ hB.1).mono ?_
              rintro e w3 ⟨rfl, hb3⟩
              exact ⟨_, rfl, hb3, rfl⟩
            simp only [Act.put, List.setIfInBounds_toArray, List.set_cons_succ, List.set_cons_zero]
            iterate 2 (apply Free.chain_still (by first | exact Free.wanted_of rfl rfl rfl | rfl) rfl; (intro w' hB hA; obtain ⟨qT, q0, q1, q2, q3, q4, q5, q6⟩ := hB; clear hA  qT; go_light; go_simp <;> rfl); (try simp only [Act.put, List.setIfInBounds_toArray, List.set_cons_succ, List.set_cons_zero]))
            apply Free.chain_nil
            intro wy hBz hg _
            simp only [List.drop_succ_cons, List.drop_zero]
            have HBY := Lib.hid hBz.1
            clear hBz hg C2 C3 C4
            go_wp2_with fail
            go_ret2
            exact ⟨by rw [HR.out]; rfl, HBY.out⟩
      · have hr : R = (ms, (k : Int)) := by
          have h1 := CH.out
          rw [if_neg hms] at h1
          have h2 := HYES.out (by rw [h1]; exact hms)
          rw [h1] at h2; exact h2
        have HR := Lib.hid hr
        have hmb : (ms != 0) = true := by simp [hms]
        clear hr
        go_wp2_with fail
        go_ret2
        exact ⟨by rw [HR.out]; rfl, HBZ.out⟩
    · obtain rfl : k = l.length := by omega
      have hm : R = (0, -1) := by rw [hR, Nat.sub_self]; rfl
      have HM := Lib.hid hm
      have HB := Lib.hid hb
      clear hm hb hR
      go_wp2_with fail
      go_ret2
      exact ⟨by rw [HM.out]; rfl, HB.out⟩
end Go.Proofs.YtamiaalfjmppaaaDoor

namespace Go.Proofs.YtamiaalfjmppaaaDoor
open Go.RowKit Go.Blk Go.Opn

def sgnB (e : E31) (pub : Int) : Bool := verB pub (txE e) e.r e.s
def smallE (e : E31) : Bool := decide (e.prev.size ≤ 100) && decide (e.body.size ≤ 2100)
def fewB (l : List E31) (n : Nat) : Bool := decide (l.length ≤ n) && l.all smallE
def RF (l : List E31) (i : Value) : Prop := ∃ k : Nat, k ≤ l.length ∧ i = .int .i64 k ∧ (l.take k).all smallE = true
theorem take_all31 (l : List E31) (k : Nat) (x : E31) (hx : l[k]? = some x) (h : (l.take k).all smallE = true) (hp : smallE x = true) : (l.take (k + 1)).all smallE = true := by
  obtain ⟨hk, rfl⟩ := List.getElem?_eq_some_iff.1 hx
  rw [List.take_succ_eq_append_getElem hk, List.all_append, h]; simp [hp]
theorem all_no31 (l : List E31) (k : Nat) (x : E31) (hx : l[k]? = some x) (hp : smallE x = false) : l.all smallE = false := by
  cases h : l.all smallE
  · rfl
  · have := List.all_eq_true.1 h x (List.mem_of_getElem? hx); rw [this] at hp; cases hp
end Go.Proofs.YtamiaalfjmppaaaDoor

namespace Go.Proofs.YtamiaalfjmppaaaDoor
open Go.RowKit Go.Blk Go.Opn

def eqB (a b : E31) : Bool := decide (a.house = b.house ∧ a.seq = b.seq ∧ a.day = b.day ∧ a.prev.toList = b.prev.toList ∧ a.body.toList = b.body.toList ∧ a.r = b.r ∧ a.s = b.s)
def forkB (a b : E31) (pub : Int) : Bool := !eqB a b && (decide (a.house = b.house) && (decide (a.seq = b.seq) && (sgnB a pub && sgnB b pub)))
theorem fork_same {a b : E31} {pub : Int} (h : eqB a b = true) : forkB a b pub = false := by unfold forkB; rw [h]; rfl
theorem fork_house {a b : E31} {pub : Int} (h : ¬ a.house = b.house) : forkB a b pub = false := by unfold forkB; rw [decide_eq_false h, Bool.false_and, Bool.and_false]
theorem fork_seq {a b : E31} {pub : Int} (h : ¬ a.seq = b.seq) : forkB a b pub = false := by unfold forkB; rw [decide_eq_false h, Bool.false_and, Bool.and_false, Bool.and_false]
theorem fork_yes {a b : E31} {pub : Int} (h0 : eqB a b = false) (h1 : a.house = b.house) (h2 : a.seq = b.seq) : forkB a b pub = (sgnB a pub && sgnB b pub) := by
  unfold forkB; rw [h0, decide_eq_true h1, decide_eq_true h2]; simp
theorem box3 (w : World) (la lb : List Value) (v : Value) (T U : TypeId) : Blk (((w.alloc (.cells la.toArray T)).alloc (.cells lb.toArray T)).alloc (.cells #[v] U)) w.heap.size la T ∧
    Blk (((w.alloc (.cells la.toArray T)).alloc (.cells lb.toArray T)).alloc (.cells #[v] U)) (w.heap.size + 1) lb T ∧
    Blk (((w.alloc (.cells la.toArray T)).alloc (.cells lb.toArray T)).alloc (.cells #[v] U)) (w.heap.size + 1 + 1) [v] U ∧
    Below w.heap.size w (((w.alloc (.cells la.toArray T)).alloc (.cells lb.toArray T)).alloc (.cells #[v] U)) := by
  refine ⟨Blk.alloc (Blk.alloc (Blk.new w la T) _) _, ?_, ?_, (((Below.refl _ w).alloc (Nat.le_refl _) _).alloc (by simp) _).alloc (by simp; omega) _⟩
  · have := Blk.new (w.alloc (.cells la.toArray T)) lb T
    refine Blk.alloc ?_ _; simpa using this
  · have := Blk.new ((w.alloc (.cells la.toArray T)).alloc (.cells lb.toArray T)) [v] U
    simpa using this
end Go.Proofs.YtamiaalfjmppaaaDoor

namespace Go.Proofs.YtamiaalfjmppaaaDoor

theorem tl_data (a : ByteArray) : a.toList = a.data.toList := Go.ByteArray.toList_eq a
theorem tl_inj {a b : ByteArray} (h : a.toList = b.toList) : a = b := by
  rw [tl_data, tl_data] at h
  cases a; cases b; simp at h; subst h; rfl
theorem eqB_iff (a b : E31) : eqB a b = true ↔ a = b := by
  unfold eqB
  rw [decide_eq_true_iff]
  constructor
  · rintro ⟨h1, h2, h3, h4, h5, h6, h7⟩
    have h4 := tl_inj h4
    have h5 := tl_inj h5
    cases a; cases b; simp_all
  · rintro rfl; exact ⟨rfl, rfl, rfl, rfl, rfl, rfl, rfl⟩
theorem eqB_symm (a b : E31) : eqB a b = eqB b a := by
  cases h : eqB a b
  · cases h2 : eqB b a
    · rfl
    · have := (eqB_iff b a).1 h2
      subst this
      rw [(eqB_iff b b).2 rfl] at h; cases h
  · have := (eqB_iff a b).1 h
    subst this
    exact ((eqB_iff a a).2 rfl).symm
theorem forkB_symm (a b : E31) (pub : Int) : forkB a b pub = forkB b a pub := by
  unfold forkB
  rw [eqB_symm a b, Bool.and_comm (sgnB a pub)]
  have e1 : decide (a.house = b.house) = decide (b.house = a.house) := decide_eq_decide.2 ⟨Eq.symm, Eq.symm⟩
  have e2 : decide (a.seq = b.seq) = decide (b.seq = a.seq) := decide_eq_decide.2 ⟨Eq.symm, Eq.symm⟩
  rw [e1, e2]
theorem forkB_self (a : E31) (pub : Int) : forkB a a pub = false := fork_same ((eqB_iff a a).2 rfl)
end Go.Proofs.YtamiaalfjmppaaaDoor

namespace Go.Proofs.YtamiaalfjmppaaaDoor

theorem chk1_take {l : List E31} {k m : Nat} (h : k ≤ m) (e : E31) (house pub : Int) : chk1 (l.take m) k e house pub = chk1 l k e house pub := by
  unfold chk1
  rw [List.take_take, Nat.min_eq_left h]
theorem chkGo_all {l : List E31} {house pub : Int} : ∀ (n k : Nat), k + n = l.length → (∀ i e, k ≤ i → l[i]? = some e → chk1 l i e house pub = 0) → chkGo l house pub n k = (0, -1)
  | 0, _, _, _ => rfl
  | n + 1, k, hn, h => by
    obtain ⟨e, he⟩ : ∃ e, l[k]? = some e := ⟨_, List.getElem?_eq_getElem (by omega)⟩
    rw [chkGo_ok he (h k e (Nat.le_refl _) he)]
    exact chkGo_all n (k + 1) (by omega) (fun i e hi he => h i e (by omega) he)
set_option maxRecDepth 10000 in
theorem chkGo_zero {l : List E31} {house pub : Int} : ∀ (n k : Nat), k + n = l.length → (chkGo l house pub n k).1 = 0 → ∀ i e, k ≤ i → l[i]? = some e → chk1 l i e house pub = 0
  | 0, k, hn, _, i, e, hi, he => by
    have := (List.getElem?_eq_some_iff.1 he).1
    omega
  | n + 1, k, hn, h, i, e, hi, he => by
    obtain ⟨x, hx⟩ : ∃ x, l[k]? = some x := ⟨_, List.getElem?_eq_getElem (by omega)⟩
    by_cases h0 : chk1 l k x house pub = 0
    · rw [chkGo_ok hx h0] at h
      by_cases hik : i = k
      · subst hik
        rw [hx] at he
        cases he
        exact h0
      · exact chkGo_zero n (k + 1) (by omega) h i e (by omega) he
    · rw [chkGo_bad hx h0] at h
      dsimp only at h
      exact (h0 h).elim
/-- A list is a chain exactly if each entry has no error. -/
theorem chk_ok_iff (l : List E31) (house pub : Int) : (chk l house pub).1 = 0 ↔ keysOk house pub ∧ ∀ i e, l[i]? = some e → chk1 l i e house pub = 0 := by
  unfold chk
  by_cases hk : keysOk house pub
  · rw [if_pos hk]
    constructor
    · intro h
      exact ⟨hk, fun i e he => chkGo_zero l.length 0 (by omega) h i e (Nat.zero_le _) he⟩
    · rintro ⟨_, h⟩
      rw [chkGo_all l.length 0 (by omega) (fun i e _ he => h i e he)]
  · rw [if_neg hk]
    constructor
    · intro h; exact absurd h (by decide)
    · rintro ⟨h, _⟩; exact absurd h hk
theorem chk_ok {l : List E31} {house pub : Int} (h : (chk l house pub).1 = 0) : chk l house pub = (0, -1) := by
  obtain ⟨hk, ha⟩ := (chk_ok_iff l house pub).1 h
  unfold chk
  rw [if_pos hk]
  exact chkGo_all l.length 0 (by omega) (fun i e _ he => ha i e he)
/-- The beginning of a chain is a chain. -/
theorem chk_take {l : List E31} {house pub : Int} (m : Nat) (h : (chk l house pub).1 = 0) : (chk (l.take m) house pub).1 = 0 := by
  obtain ⟨hk, ha⟩ := (chk_ok_iff l house pub).1 h
  refine (chk_ok_iff _ _ _).2 ⟨hk, fun i e he => ?_⟩
  rw [List.getElem?_take] at he
  split at he
  · rename_i hi
    rw [chk1_take (by omega)]
    exact ha i e he
  · cases he
end Go.Proofs.YtamiaalfjmppaaaDoor
