/- Package version: the amendments that count, as an iterator. Condition: the amendments lie in memory. -/
import Derived.Test.YtekfoaenomgjgaaGreatDoorVeC
import Derived.Test.YtekfoaenomgjgaaGreatDoorKpX
import Derived.Test.YtekfoaenomgjgaaGreatDoorFreT
set_option maxRecDepth 100000
set_option linter.unusedSimpArgs false
set_option linter.unusedVariables false
namespace Go.Proofs.YtekfoaenomgjgaaGreatDoor
open Go.RowKit Go.W32 Go.Blk Go.Cs Go.Lib Go.Opn Go.Mg Go.Rf
attribute [local go_sem] Oper.semAt_some

/-- One of some amendments. -/
abbrev AmIn (am : List (Pr × Hd)) := { x : Pr × Hd // x ∈ am }
def valsA {am : List (Pr × Hd)} (l : List (AmIn am)) : List (Pr × Hd) := l.map (·.1)
theorem valsA_snoc {am : List (Pr × Hd)} (l : List (AmIn am)) (x : AmIn am) : valsA (l ++ [x]) = valsA l ++ [x.1] := by simp [valsA]
theorem valsA_len {am : List (Pr × Hd)} (l : List (AmIn am)) : (valsA l).length = l.length := by simp [valsA]
abbrev encA1 {am : List (Pr × Hd)} (x : AmIn am) : Array Value := #[.agg (encAm x.1).toArray]
/-- The amendments of an order that are known by a day. -/
def knownL (kn : Int) (pl : List Pl) : List (Pr × Hd) := (pl.map (·.1)).filter fun x => decide (x.1.known ≤ kn)
/-- An order of amendments. -/
def Ord (am : List (Pr × Hd)) (pl : List Pl) : Prop := pl.Perm (pls am) ∧ pl.Pairwise (fun a b => ¬ b.lt a)
theorem counting_any (A : Option Addr) (c n : Nat) (kn : Int) (w : World) :
  Calls Tryz.prog 27 #[.slice A n c, .int .i64 kn] w fun e w' => e = .returned (.func (.func 64) #[] #[.pointer (some ⟨w.heap.size, 0, none⟩), .pointer (some ⟨w.heap.size + 1, 0, none⟩)]) ∧ w' = (w.alloc (.cells #[.slice A n c] 35)).alloc (.cells #[.int .i64 kn] 3) := by
 have hmf : ∀ (fn : Fn) (first cap : Array Value) (w : World), (Instr.makeFunc fn first cap).run Tryz.prog w = .ok (.func fn first cap) w := fun _ _ _ _ => rfl
 go_enter Tryz.func27, Tryz.ntmps27
 go_wp2_with fail
 go_ret
 exact ⟨rfl, rfl⟩
/-- What the iterator reads. -/
structure CtIs (X : Nat → Prop) (b b1 b2 : Nat) (A : Option Addr) (c : Nat) (am : List (Pr × Hd)) (kn : Int) (w : World) : Prop where
 c1 : w.cell? ⟨b1, 0, none⟩ = some (.slice A am.length c)
 c2 : w.cell? ⟨b2, 0, none⟩ = some (.int .i64 kn)
 sl : SL w 22 encAm A am
 x1 : ¬ X b1 ∧ obAt b w ≠ some b1
 x2 : ¬ X b2 ∧ obAt b w ≠ some b2
 xb : b < w.heap.size
 xA : am ≠ [] → ∀ k, A.map (·.block) = some k → k < w.heap.size ∧ (∃ c t f, w.heap[k]? = some (.cells c t f)) ∧ ¬ X k ∧ obAt b w ≠ some k
theorem ob_same {X : Nat → Prop} {b k : Nat} {w w' : World} (h : KpX X b w w') (hk : k < w.heap.size) (ho : obAt b w ≠ some k) : obAt b w' ≠ some k := by
 rcases h.own with e | ⟨j, e, hj⟩
 ·rw [e]; exact ho
 ·rw [e]; intro e2; injection e2 with e2; omega
theorem CtIs.keep {X : Nat → Prop} {b b1 b2 : Nat} {A : Option Addr} {c : Nat} {am : List (Pr × Hd)} {kn : Int} {w w' : World} (h : CtIs X b b1 b2 A c am kn w) (hk : KpX X b w w') : CtIs X b b1 b2 A c am kn w' := by
 have l1 := World.block_lt_of_cell? w _ h.c1
 have l2 := World.block_lt_of_cell? w _ h.c2
 refine ⟨?_, ?_, ?_, ⟨h.x1.1, ob_same hk l1 h.x1.2⟩, ⟨h.x2.1, ob_same hk l2 h.x2.2⟩, Nat.lt_of_lt_of_le h.xb hk.size, fun hne k e => ?_⟩
 ·rw [World.cell?_of_block (a := ⟨b1, 0, none⟩) (hk.keep b1 l1 (cells_of h.c1) h.x1.1 h.x1.2)]; exact h.c1
 ·rw [World.cell?_of_block (a := ⟨b2, 0, none⟩) (hk.keep b2 l2 (cells_of h.c2) h.x2.1 h.x2.2)]; exact h.c2
 ·by_cases hne : am = []
  ·rw [hne]; exact SL.nil
  ·refine sl_keepB h.sl fun k e => ?_
   obtain ⟨q1, q2, q3, q4⟩ := h.xA hne k e
   exact hk.keep k q1 q2 q3 q4
 ·obtain ⟨q1, q2, q3, q4⟩ := h.xA hne k e
  exact ⟨Nat.lt_of_lt_of_le q1 hk.size, by rw [hk.keep k q1 q2 q3 q4]; exact q2, q3, ob_same hk q1 q4⟩
/-- The order that it reads. -/
structure OrdI (X : Nat → Prop) (b : Nat) (A : Option Addr) (pl : List Pl) (w : World) : Prop where
 sl : SL w 1 Cs.encI A (pl.map (·.2))
 off : ∀ k, A.map (·.block) = some k → k < w.heap.size ∧ (∃ c t f, w.heap[k]? = some (.cells c t f)) ∧ ¬ X k ∧ obAt b w ≠ some k
theorem OrdI.keep {X : Nat → Prop} {b : Nat} {A : Option Addr} {pl : List Pl} {w w' : World} (h : OrdI X b A pl w) (hk : KpX X b w w') : OrdI X b A pl w' :=
 ⟨sl_keepB h.sl fun k e => by
  obtain ⟨q1, q2, q3, q4⟩ := h.off k e
  exact hk.keep k q1 q2 q3 q4, fun k e => by
  obtain ⟨q1, q2, q3, q4⟩ := h.off k e
  exact ⟨Nat.lt_of_lt_of_le q1 hk.size, by rw [hk.keep k q1 q2 q3 q4]; exact q2, q3, ob_same hk q1 q4⟩⟩
theorem pls_mem {l : List (Pr × Hd)} {x : Pl} (h : x ∈ pls l) : ∃ i : Nat, x.2 = (i : Int) ∧ l[i]? = some x.1 := by
 obtain ⟨p, hp, rfl⟩ := List.mem_map.1 h
 exact ⟨p.2, rfl, by have := List.mem_zipIdx hp; simp at this; rw [List.getElem?_eq_getElem this.1]; simp [this.2]⟩
theorem knownL_take {kn : Int} {pl : List Pl} {k : Nat} {x : Pl} (h : pl[k]? = some x) : knownL kn (pl.take (k + 1)) = if x.1.1.known ≤ kn then knownL kn (pl.take k) ++ [x.1] else knownL kn (pl.take k) := by
 unfold knownL
 rw [List.take_add_one, h, Option.toList_some, List.map_append, List.filter_append]
 by_cases hx : x.1.1.known ≤ kn <;> simp [hx]
theorem knownL_len (kn : Int) (pl : List Pl) (k : Nat) : (knownL kn (pl.take k)).length ≤ k := by
 unfold knownL
 refine Nat.le_trans (List.length_filter_le _ _) ?_
 rw [List.length_map, List.length_take]; omega
theorem knownL_prefix (kn : Int) (pl : List Pl) (k : Nat) : knownL kn (pl.take k) <+: knownL kn pl := by
 unfold knownL
 exact List.IsPrefix.filter _ ((List.take_prefix k pl).map _)
theorem unwanted2 {o : Oper} {ops : Array Oper} {a : Act} {j t : Nat} {b b' : Bool} (hg : o.guard = some (j, b')) (hj : (ops[j]?).bind (·.dst) = some t) (ht : a.tmps[t]? = some (.bool b)) (hne : (b == b') = false) : Region.wanted o (yielded ops a.tmps) = false := by
 unfold Region.wanted yielded
 rw [hg]
 simp only [hj, Option.bind_some, ht]
 simpa using hne
theorem listIn_skip {m : Nat} {P : Program} {ops : Array Oper} {Q : Exit → Act → World → Prop} {a : Act} {w : World} {o : Oper} {rest : List Oper} (h : Region.wanted o (yielded ops a.tmps) = false)
  (k : wpListIn Fence.wide m P ops Q rest (a.put o.dst undef) w) : wpListIn Fence.wide m P ops Q (o :: rest) a w := by
 unfold wpListIn
 rw [if_neg (by simp [h])]
 exact ⟨fun _ _ => trivial, k⟩
set_option maxHeartbeats 2000000 in
theorem count1_in (n : Nat) (hn : 1 ≤ n) (l b b1 b2 : Nat) (X : Nat → Prop) (A : Option Addr) (c : Nat) (am : List (Pr × Hd)) (kn : Int) (ham : am.length ≤ 4000) (J Jx : List (AmIn am) → World → Prop) (B : Nat) (hJ : AbidesFrom B J)
  (hY : ∀ pre x W, J pre W → pre.length < am.length → YieldAt Fence.wide (n - 1) Tryz.prog l (encA1 x) W fun e W' =>
   (e = .returned (.bool true) ∧ J (pre ++ [x]) W' ∧ KpX X b W W') ∨ (e = .returned (.bool false) ∧ Jx (pre ++ [x]) W'))
  (W : World) (hb : b < W.heap.size) (hX : ∀ k, X k → k < W.heap.size) (hob : obAt b W = none) (hC : CtIs X b b1 b2 A c am kn W) (h0 : J [] W) :
  CallsIn Fence.wide n Tryz.prog 64 #[.func (.yield l) #[] #[], .pointer (some ⟨b1, 0, none⟩), .pointer (some ⟨b2, 0, none⟩)] W fun e W' => (∃ v, e = .returned v) ∧
   ((∃ ys : List (AmIn am), (∃ pl, Ord am pl ∧ valsA ys = knownL kn pl) ∧ J ys W') ∨ (∃ pre : List (AmIn am), (∃ pl, Ord am pl ∧ valsA pre <+: knownL kn pl) ∧ Jx pre W')) := by
 obtain ⟨R, eR⟩ : ∃ R : Ending → World → Prop, R = fun e W' => (∃ v, e = .returned v) ∧ ((∃ ys : List (AmIn am), (∃ pl, Ord am pl ∧ valsA ys = knownL kn pl) ∧ J ys W') ∨ (∃ pre : List (AmIn am), (∃ pl, Ord am pl ∧ valsA pre <+: knownL kn pl) ∧ Jx pre W')) := ⟨_, rfl⟩
 rw [← eR]
 have FA : Hid (∀ v W' pl ys, Ord am pl → valsA ys = knownL kn pl → J ys W' → R (.returned v) W') := Lib.hid fun v W' pl ys ho hv h => by rw [eR]; exact ⟨⟨_, rfl⟩, .inl ⟨ys, ⟨pl, ho, hv⟩, h⟩⟩
 have FB : Hid (∀ v W' pl pre, Ord am pl → valsA pre <+: knownL kn pl → Jx pre W' → R (.returned v) W') := Lib.hid fun v W' pl pre ho hp h => by rw [eR]; exact ⟨⟨_, rfl⟩, .inr ⟨_, ⟨pl, ho, hp⟩, h⟩⟩
 clear eR
 have H0 := Lib.hid h0
 have HY := Lib.hid hY
 have HC := Lib.hid hC
 have HX := Lib.hid hX
 have HOB := Lib.hid hob
 have HBW := Lib.hid hb
 have c1 := hC.c1
 have CO := Lib.hid (or2_any A c am W hC.sl ham)
 clear h0 hY hC hX hob hb
 refine callsIn_of_wp Tryz.func64 rfl trivial ?_ rfl
 simp only [Tryz.ntmps64, List.size_toArray, List.length_cons, List.length_nil, Nat.reduceAdd, Nat.reduceSub, Array.replicate_succ, Array.replicate_zero, List.push_toArray, List.append_toArray, List.nil_append, List.cons_append]
 gi_wp2
 refine ⟨trivial, ?_⟩
 refine (callsIn_wide.2 CO.out).mono ?_
 rintro e2 w2 ⟨hb2, Ao, co, pl, rfl, hsl, hpp, hpw, hao⟩
 have hord : Ord am pl := ⟨hpp, hpw⟩
 have hpl : pl.length = am.length := by rw [hpp.length_eq, pls_len]
 have HC2 := Lib.hid (HC.out.keep (KpX.below hb2 HBW.out))
 have HJ2 := Lib.hid (abide hJ H0.out hb2)
 have hOI : OrdI X b Ao pl w2 := ⟨hsl, fun k e => by
  obtain ⟨hge, hc⟩ := hao k e
  have hlt : k < w2.heap.size := by obtain ⟨_, _, _, hh⟩ := hc; exact (Array.getElem?_eq_some_iff.1 hh).1
  refine ⟨hlt, hc, fun hx => absurd (HX.out k hx) (by omega), ?_⟩
  rw [obAt_block (hb2.block b HBW.out), HOB.out]; simp⟩
 have HOI := Lib.hid hOI
 have HORD := Lib.hid hord
 have HPL := Lib.hid hpl
 clear c1 CO HC H0 hsl hpp hpw hao hb2 hOI HX HOB hord hpl
 gi_wp2
 rw [HPL.out]
 gi_loopw [9] (fun v wr => ∃ (k : Nat) (pre : List (AmIn am)), v = .int .i64 (k : Int) ∧ k ≤ am.length ∧ Hid (valsA pre = knownL kn (pl.take k)) ∧ J pre wr ∧ CtIs X b b1 b2 A c am kn wr ∧ OrdI X b Ao pl wr) (fun v _ => (am.length : Int).toNat - (RowKit.intOf v).toNat)
 case atStart => exact ⟨0, [], rfl, Nat.zero_le _, Lib.hid rfl, HJ2.out, HC2.out, HOI.out⟩
 case round =>
  clear HJ2 HC2 HOI
  obtain ⟨k, pre, rfl, hk, HPR, hJ1, hC1, hO1⟩ := hrel
  have HJ := Lib.hid hJ1
  have HC := Lib.hid hC1
  have HO := Lib.hid hO1
  clear hJ1
  rcases Nat.lt_or_eq_of_le hk with hkl | hkl
  ·have hki : (k : Int) < (am.length : Int) := by omega
   have hkb : (k : Int) + 1 ≤ 9223372036854775807 := by omega
   obtain ⟨x, ex⟩ : ∃ x, pl[k]? = some x := ⟨_, List.getElem?_eq_getElem (by rw [HPL.out]; exact hkl)⟩
   have hsl := hO1.sl
   obtain ⟨bo, oo, rfl⟩ := sl_addr hsl (fun e => by
    have h : pl.length = 0 := by rw [List.map_eq_nil_iff.1 e]; rfl
    have := HPL.out
    omega)
   have cd := sl_cell1 hsl (show (pl.map (·.2))[k]? = some x.2 by rw [List.getElem?_map, ex]; rfl)
   obtain ⟨i, ei, hi⟩ := pls_mem (HORD.out.1.mem_iff.1 (List.mem_of_getElem? ex))
   have hil : i < am.length := (List.getElem?_eq_some_iff.1 hi).1
   have hii : (i : Int) < (am.length : Int) := by omega
   have hsa := hC1.sl
   obtain ⟨bA, oA, rfl⟩ := sl_addr hsa (fun e => by rw [e] at hil; simp at hil)
   have c1 := hC1.c1
   have c2 := hC1.c2
   obtain ⟨cs, ecs⟩ : ∃ cs, cs = encAm x.1 := ⟨_, rfl⟩
   have hrg : wr.rangeAt bA (oA + i * 22) cs := by rw [ecs]; exact sl_range hsa hi
   have c3 : wr.cell? ⟨bA, oA + i * 22 + 2, none⟩ = some (.int .i64 x.1.1.known) := hrg 2 _ (by rw [ecs]; rfl)
   have HIC : Hid ((Tryz.prog.info? 62).map (·.size) = some cs.length) := by show _ = _; rw [ecs]; kernel_rfl
   have hmix : Tryz.prog.follows .mixedOrders = true := by kernel_rfl
   have ECS := Lib.hid ecs
   have HKT := Lib.hid (knownL_take (kn := kn) ex)
   have HKL : Hid (pre.length < am.length) := Lib.hid (by rw [← valsA_len, HPR.out]; exact Nat.lt_of_le_of_lt (knownL_len kn pl k) hkl)
   have HXM : Hid (x.1 ∈ am) := Lib.hid (List.mem_of_getElem? hi)
   rw [ei] at cd
   clear ex hsl hsa ecs hi ei hC1 hO1 hil hk
   gi_wp2
   by_cases hx : x.1.1.known ≤ kn
   ·have hq : decide (x.1.1.known ≤ kn) = true := decide_eq_true hx
    have HKT2 : Hid (knownL kn (pl.take (k + 1)) = knownL kn (pl.take k) ++ [x.1]) := Lib.hid (by rw [HKT.out, if_pos hx])
    clear HKT hx cd
    refine Free.wpIn_region_freeT (.inl rfl) 13 [] (fun w2 => Below wr.heap.size wr w2 ∧ w2.cell? ⟨b1, 0, none⟩ = some (.slice (some ⟨bA, oA, none⟩) am.length c) ∧ w2.cell? ⟨b2, 0, none⟩ = some (.int .i64 kn) ∧ w2.cell? ⟨bA, oA + i * 22 + 2, none⟩ = some (.int .i64 x.1.1.known) ∧ w2.rangeAt bA (oA + i * 22) cs) (by kernel_rfl) (by kernel_rfl) (by kernel_rfl) (Free.mono_det (fun j mk r hf => by cases hf)) ⟨(Below.refl _ _).drew, c1, c2, c3, hrg⟩ (fun w1 _ h g => ⟨h.1.trans (Below.mono g h.1.size), cell_grow h.2.1 g, cell_grow h.2.2.1 g, cell_grow h.2.2.2.1 g, below_range h.2.2.2.2 g (Nat.le_refl _)⟩) ?_
    simp only [List.take_succ_cons, List.take_zero]
    clear c1 c2 c3 hrg
    iterate 12 (apply Free.chain_still (by first|exact Free.wanted_of rfl rfl rfl|rfl) rfl; (intro w' hB hA; obtain ⟨qB, q1, q2, q3, q4⟩ := hB; clear hA  qB q4; go_light; go_simp <;> rfl); (try simp only [Act.put, Pt1, Pt2, Pt3]))
    apply Free.chain_still (by first|exact Free.wanted_of rfl rfl rfl|rfl) rfl
    ·intro w' hB hA
     exact Hk.exec_mid 62 (.tmp 24) rfl bA (oA + i * 22) rfl cs _ hB.2.2.2.2 Tryz.underlying62 rfl HIC.out
    simp only [Act.put, Pt1, Pt2, Pt3]
    apply Free.chain_nil
    intro w1 hB1 _ _
    simp only [List.drop_succ_cons, List.drop_zero]
    obtain ⟨fn, tmps, assign, body, hy, hR⟩ := HY.out _ ⟨x.1, HXM.out⟩ w1 (abide hJ HJ.out hB1.1) HKL.out
    have HC2 := Lib.hid (HC.out.keep (KpX.below hB1.1 HC.out.xb))
    have HO2 := Lib.hid (HO.out.keep (KpX.below hB1.1 HC.out.xb))
    dsimp only [encA1] at hy
    rw [← ECS.out] at hy
    have HR := Lib.hid hR
    clear hR HJ HC HO hB1 HKL
    gi_wp2
    refine HR.out.mono ?_
    rintro e3 wy (⟨rfl, hJ3, hk3⟩ | ⟨rfl, hJx3⟩)
    ·have HJ3 := Lib.hid hJ3
     have HC3 := Lib.hid (HC2.out.keep hk3)
     have HO3 := Lib.hid (HO2.out.keep hk3)
     clear hJ3 hk3 HR hy HC2 HO2
     gi_wp2
     go_roundw
     case rel => exact ⟨k + 1, _, rfl, hkl, Lib.hid (by rw [valsA_snoc, HKT2.out, HPR.out]), HJ3.out, HC3.out, HO3.out⟩
     case measure => simp [RowKit.intOf]; omega
    ·have G := Lib.hid (FB.out (.tuple #[]) wy pl _ HORD.out (by rw [valsA_snoc, HPR.out, ← HKT2.out]; exact knownL_prefix kn pl (k + 1)) hJx3)
     clear hJx3 HR hy HC2 HO2
     gi_wp2
     first
      | exact G.out
      | exact bodyPost_ret (results_none rfl _ _ _) rfl G.out
   ·have hq : decide (x.1.1.known ≤ kn) = false := decide_eq_false hx
    have HKT2 : Hid (knownL kn (pl.take (k + 1)) = knownL kn (pl.take k)) := Lib.hid (by rw [HKT.out, if_neg hx])
    clear HKT hx cd
    refine Free.wpIn_region_freeT (.inl rfl) 13 [] (fun w2 => Below wr.heap.size wr w2 ∧ w2.cell? ⟨b1, 0, none⟩ = some (.slice (some ⟨bA, oA, none⟩) am.length c) ∧ w2.cell? ⟨b2, 0, none⟩ = some (.int .i64 kn) ∧ w2.cell? ⟨bA, oA + i * 22 + 2, none⟩ = some (.int .i64 x.1.1.known)) (by kernel_rfl) (by kernel_rfl) (by kernel_rfl) (Free.mono_det (fun j mk r hf => by cases hf)) ⟨(Below.refl _ _).drew, c1, c2, c3⟩ (fun w1 _ h g => ⟨h.1.trans (Below.mono g h.1.size), cell_grow h.2.1 g, cell_grow h.2.2.1 g, cell_grow h.2.2.2 g⟩) ?_
    simp only [List.take_succ_cons, List.take_zero]
    clear c1 c2 c3 hrg
    iterate 8 (apply Free.chain_still (by first|exact Free.wanted_of rfl rfl rfl|rfl) rfl; (intro w' hB hA; obtain ⟨qB, q1, q2, q3⟩ := hB; clear hA  qB; go_light; go_simp <;> rfl); (try simp only [Act.put, Pt1, Pt2, Pt3]))
    iterate 5 (apply Free.chain_skip (by exact unwanted2 rfl rfl rfl rfl); simp only [Act.put, Pt1, Pt2, Pt3])
    apply Free.chain_nil
    intro w1 hB1 _ _
    simp only [List.drop_succ_cons, List.drop_zero]
    have HJ3 := Lib.hid (abide hJ HJ.out hB1.1)
    have HC3 := Lib.hid (HC.out.keep (KpX.below hB1.1 HC.out.xb))
    have HO3 := Lib.hid (HO.out.keep (KpX.below hB1.1 HC.out.xb))
    clear HJ HC HO hB1 HKL
    iterate 2 (refine listIn_skip (unwanted2 rfl rfl rfl rfl) ?_; simp only [Act.put, Pt1, Pt2, Pt3])
    gi_wp2
    go_roundw
    case rel => exact ⟨k + 1, _, rfl, hkl, Lib.hid (by rw [HKT2.out, HPR.out]), HJ3.out, HC3.out, HO3.out⟩
    case measure => simp [RowKit.intOf]; omega
  ·have hki : ¬ (k : Int) < (am.length : Int) := by omega
   have G := Lib.hid (FA.out (.tuple #[]) wr pl pre HORD.out (by have := HPR.out; rw [List.take_of_length_le (by rw [HPL.out]; omega)] at this; exact this) HJ.out)
   clear HJ HC HO hC1 hO1
   gi_wp2
   first
    | exact G.out
    | (go_end0; exact G.out)
    | exact bodyPost_ret (results_none rfl _ _ _) rfl G.out
theorem counting_seq (m : Nat) (hm : 1 ≤ m) (b b1 b2 : Nat) (X : Nat → Prop) (A : Option Addr) (c : Nat) (am : List (Pr × Hd)) (kn : Int) (ham : am.length ≤ 4000) (w : World) (hb : b < w.heap.size) (hX : ∀ k, X k → k < w.heap.size) (hob : obAt b w = none) (hC : CtIs X b b1 b2 A c am kn w) :
  SeqStopsK Fence.wide m Tryz.prog 64 #[.pointer (some ⟨b1, 0, none⟩), .pointer (some ⟨b2, 0, none⟩)] (encA1 (am := am)) (KpX X b) (fun ys => ∃ pl, Ord am pl ∧ valsA ys = knownL kn pl) (fun pre => ∃ pl, Ord am pl ∧ valsA pre <+: knownL kn pl) am.length w := fun l J Jx W hW hJ _ hY h0 =>
 count1_in m hm l b b1 b2 X A c am kn ham J Jx _ hJ hY W (Nat.lt_of_lt_of_le hb hW.size) (fun k hk => Nat.lt_of_lt_of_le (hX k hk) hW.size) (by rw [obAt_block (hW.block b hb)]; exact hob) (hC.keep (KpX.below hW hb)) h0
end Go.Proofs.YtekfoaenomgjgaaGreatDoor
