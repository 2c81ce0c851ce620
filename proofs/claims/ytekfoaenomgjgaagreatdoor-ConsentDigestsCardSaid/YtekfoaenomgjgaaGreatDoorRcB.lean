/- The reference of layer 24: the numbers of a patch. Condition: the patch lies in memory, its lists are short. -/
import Derived.Test.YtekfoaenomgjgaaGreatDoorRcA
import Derived.Test.YtekfoaenomgjgaaGreatDoorYF
namespace Go.Proofs.YtekfoaenomgjgaaGreatDoor
open Go.RowKit Go.W32 Go.Blk Go.Cs Go.Lib Go.Opn Go.Mg

theorem run_append_nilc {P : Program} {w : World} (base : Nat) (t ty e : TypeId) (i : TypeInfo) (size : Nat) (ht : P.underlying t = some (.slice e)) (hi : P.info? e = some i) (v : Value) (n : Nat) (xs : List Value) (hown : w.ownsRow base e size v n xs) (c : Nat) :
    (Builtin.append_ #[t, t] ty #[v, .slice none 0 c]).run P w = .ok v w := by
  rcases hown.2 with ⟨rfl, rfl⟩ | ⟨g, cap, cur, rfl, _, _, hnc, _⟩
  · simp [Builtin.append_, run_underlying ht, sizeOf, typeInfo, hi, Builtin.lenOf, Builtin.firstCells]
  · simp [Builtin.append_, run_underlying ht, sizeOf, typeInfo, hi, Builtin.lenOf, Builtin.firstCells, hnc, storeCells]
theorem encI_one (l : List Int) : ∀ u ∈ l.flatMap Cs.encI, u.oneCell' = true := fun u hu => by
  obtain ⟨n, _, h⟩ := List.mem_flatMap.1 hu
  simp [Cs.encI] at h
  rw [h]; rfl
theorem encI_len (l : List Int) : (l.flatMap Cs.encI).length = l.length := by
  induction l with
  | nil => rfl
  | cons x r ih => rw [List.flatMap_cons, List.length_append, ih]; simp [Cs.encI]; omega
/-- A row of numbers that the call has made. -/
structure Nums (W w : World) (v : Value) (l : List Int) : Prop where
  own : w.ownsRow W.heap.size 3 1 v l.length (l.flatMap Cs.encI)
  below : Below W.heap.size W w
theorem Nums.grow {W w w' : World} {v : Value} {l : List Int} (h : Nums W w v l) (hb : Below w.heap.size w w') : Nums W w' v l :=
  ⟨owns_keep h.own fun g hg => hb.block _ (owns_lt h.own hg).2, h.below.trans (hb.mono h.below.size)⟩
set_option maxRecDepth 100000 in
/-- Numbers behind a row of numbers. -/
theorem nums_append {W w : World} {v : Value} {l m : List Int} {A : Option Addr} {c : Nat} (h : Nums W w v l) (hm : SL w 1 Cs.encI A m) (hn : l.length + m.length ≤ 100000) (s x : Operand) (Q : Exit → Act → World → Prop) (ops : Array Oper) (rest : List Oper) (o : Oper) (a : Act) (hgd : o.guard = none)
    (ho : o.op = .call { callee := .builtin .append, args := #[s, x], argTypes := #[22, 22] }) (hs : a.eval s = v) (hx : a.eval x = .slice A m.length c)
    (hk : ∀ u w', Nums W w' u (l ++ m) → wpList Tryz.prog ops Q rest (a.put o.dst u) w') : wpList Tryz.prog ops Q (o :: rest) a w := by
  obtain ⟨i1, hi1, hz1, hs1, hy1⟩ := info_of info_num
  cases A with
  | none =>
    have hm0 : m = [] := by
      cases m with
      | nil => rfl
      | cons y r => obtain ⟨b, off, e, _⟩ := hm.cells (by simp); cases e
    subst hm0
    refine wpList_plain hgd fun K hK => ?_
    have hrun := run_append_nilc (P := Tryz.prog) (w := w) W.heap.size 22 o.type 3 i1 1 Tryz.underlying22 hi1 v l.length _ h.own c
    unfold Oper.wp
    simp only [List.length_nil] at hx
    simp [execOp, ho, resolve, invoke, builtin, hs, hx, hrun, Result.andThen]
    exact hK _ _ (hk v w (by simpa using h))
  | some ad =>
    have hcl : ∀ (j : Nat) u, (m.flatMap Cs.encI)[j]? = some u → w.cell? (ad.add j) = some u := by
      intro j u hj
      have hne : m ≠ [] := by rintro rfl; simp at hj
      obtain ⟨b, off, e, _⟩ := hm.cells hne
      injection e with e
      subst e
      exact Apl.sl_flat (ec := Cs.encI) (fun _ => rfl) hm j u hj
    refine wpList_append_own_at w hgd s x 22 ho W.heap.size 3 i1 _ 1 8 Tryz.underlying22 hi1 hz1 hs1 hy1 rfl (by decide) v _ _ hs h.own ad m.length c (m.flatMap Cs.encI) hx (by rw [encI_len]; omega) hcl (encI_one m) (by unfold maxLen; omega) (by omega) h.below.size ?_
    intro u w9 ho9 hg9 _ _
    refine hk u w9 ⟨?_, h.below.trans (below_grown hg9 (fun g hg => (owns_lt h.own hg).1) h.below.size)⟩
    rw [List.length_append, List.flatMap_append]
    exact ho9
theorem row_sl {w : World} {b : Nat} {l : List Int} (h : Row w b 3 (l.flatMap Cs.encI)) : SL w 1 Cs.encI (some ⟨b, 0, none⟩) l :=
  Apl.sl_of_cells (fun _ => rfl) h (fun j u hj => by simpa using hj)
theorem Nums.lit (W : World) (l : List Int) (h : l.length ≤ 1000) : Nums W (W.alloc (.cells (l.flatMap Cs.encI).toArray 3)) (.slice (some ⟨W.heap.size, 0, none⟩) l.length l.length) l := by
  refine ⟨?_, (Below.refl _ _).alloc (Nat.le_refl _) _⟩
  have := World.ownsRow_lit (base := W.heap.size) (e := 3) (size := 1) W (l.flatMap Cs.encI).toArray l.length (Nat.le_refl _) (by unfold maxLen; omega) (by rw [List.size_toArray, encI_len]; omega)
  simpa using this
theorem lit_sl (W : World) (l : List Int) : SL (W.alloc (.cells (l.flatMap Cs.encI).toArray 3)) 1 Cs.encI (some ⟨W.heap.size, 0, none⟩) l := row_sl (Row.new _ _ _)
def l16 (p : Pat) : List Int := [p.new.kind, p.new.role, p.new.act, p.new.need, p.new.after, p.new.grace, b2i p.new.bus, b2i p.new.fin, p.new.pause, p.new.resume, p.new.num, p.new.den, p.new.unit, p.new.to, b2i p.new.waived, (p.new.start.length : Int)]
def stL (m : List (Int × Int)) : List Int := m.flatMap fun s => [s.1, s.2]
theorem nums_split (p : Pat) : p.nums = (([p.kind, p.days, (p.cl.length : Int)] ++ p.cl) ++ l16 p) ++ stL p.new.start := by
  simp [Pat.nums, Cls.nums, Cls.front, Cls.back, l16, stL]
theorem stL_more {m : List (Int × Int)} {k : Nat} {x : Int × Int} (h : m[k]? = some x) : stL (m.take (k + 1)) = stL (m.take k) ++ [x.1, x.2] := by
  unfold stL
  rw [List.take_add_one, h, Option.toList_some, List.flatMap_append]
  simp
theorem stL_len (m : List (Int × Int)) : (stL m).length = 2 * m.length := by
  unfold stL
  induction m with
  | nil => rfl
  | cons s r ih => rw [List.flatMap_cons, List.length_append, ih]; simp; omega
theorem bit_below (b : Bool) (w : World) : Calls Tryz.prog 115 #[.bool b] w fun e w' => e = .returned (.int .i64 (b2i b)) ∧ Below w.heap.size w w' :=
  (bit24_any b w).mono fun _ _ ⟨h1, h2⟩ => ⟨h1, by subst h2; exact Below.refl _ _⟩
/-- The cells of a clause. -/
structure ClsC (w : World) (b : Nat) (k : Cls) (st : Value) : Prop where
  q0 : w.cell? ⟨b, 0, none⟩ = some (.int .i64 k.kind)
  q1 : w.cell? ⟨b, 1, none⟩ = some (.int .i64 k.role)
  q2 : w.cell? ⟨b, 2, none⟩ = some (.int .i64 k.act)
  q3 : w.cell? ⟨b, 3, none⟩ = some (.int .i64 k.need)
  q4 : w.cell? ⟨b, 4, none⟩ = some st
  q5 : w.cell? ⟨b, 5, none⟩ = some (.int .i64 k.after)
  q6 : w.cell? ⟨b, 6, none⟩ = some (.int .i64 k.grace)
  q7 : w.cell? ⟨b, 7, none⟩ = some (.bool k.bus)
  q8 : w.cell? ⟨b, 8, none⟩ = some (.bool k.fin)
  q9 : w.cell? ⟨b, 9, none⟩ = some (.int .i64 k.pause)
  q10 : w.cell? ⟨b, 10, none⟩ = some (.int .i64 k.resume)
  q11 : w.cell? ⟨b, 11, none⟩ = some (.int .i64 k.num)
  q12 : w.cell? ⟨b, 12, none⟩ = some (.int .i64 k.den)
  q13 : w.cell? ⟨b, 13, none⟩ = some (.int .i64 k.unit)
  q14 : w.cell? ⟨b, 14, none⟩ = some (.int .i64 k.to)
  q15 : w.cell? ⟨b, 15, none⟩ = some (.bool k.waived)
theorem ClsC.of {w : World} {b : Nat} {T : TypeId} {k : Cls} {st : Value} (h : Row w b T (encCls k st)) : ClsC w b k st :=
  ⟨h.at rfl, h.at rfl, h.at rfl, h.at rfl, h.at rfl, h.at rfl, h.at rfl, h.at rfl, h.at rfl, h.at rfl, h.at rfl, h.at rfl, h.at rfl, h.at rfl, h.at rfl, h.at rfl⟩
theorem mono16 (p : Pat) {x y z : Value} : Free.LoudMono [(15, .det x), (18, .det y), (35, .det z), (39, .ind (fun b => .slice (some ⟨b, 0, none⟩) 16 16) (fun b w => SL w 1 Cs.encI (some ⟨b, 0, none⟩) (l16 p)))] := by
  intro j mk r hf x w w' hr hg
  simp only [Free.find] at hf
  repeat' split at hf
  all_goals first | (cases hf; done) | skip
  injection hf with hf
  injection hf with e1 e2
  subst e2
  exact SL.below hr hg (Nat.le_refl _)
theorem build16 {a : Act} {o : Oper} {p : Pat} {w : World} (h : (execOp a.eval o).run Tryz.prog w = .ok (.value (.slice (some ⟨w.heap.size, 0, none⟩) 16 16)) (w.alloc (.cells ((l16 p).flatMap Cs.encI).toArray 3))) :
    Free.opRun Tryz.prog o a.eval w fun u w2 => Free.Grow w w2 ∧ ∃ x, u = .slice (some ⟨x, 0, none⟩) 16 16 ∧ SL w2 1 Cs.encI (some ⟨x, 0, none⟩) (l16 p) :=
  Free.opRun_of h ⟨Free.Grow.alloc _ _, w.heap.size, rfl, lit_sl w (l16 p)⟩
/-- The numbers so far. -/
def NumR (W2 : World) (l : List Int) (m : List (Int × Int)) (u v : Value) (wr : World) : Prop := ∃ k : Nat, v = .int .i64 (k : Int) ∧ k ≤ m.length ∧ Nums W2 wr u (l ++ stL (m.take k))
theorem mono2 {x y : Int} {K : List (Nat × Free.Loud)} (hK : K = [(13, .ind (fun b => .slice (some ⟨b, 0, none⟩) 2 2) (fun b w => SL w 1 Cs.encI (some ⟨b, 0, none⟩) [x, y]))]) : Free.LoudMono K := by
  subst hK
  intro j mk r hf a w w' hr hg
  simp only [Free.find] at hf
  repeat' split at hf
  all_goals first | (cases hf; done) | skip
  injection hf with hf
  injection hf with e1 e2
  subst e2
  exact SL.below hr hg (Nat.le_refl _)
theorem build2 {a : Act} {o : Oper} {x y : Int} {w : World} (h : (execOp a.eval o).run Tryz.prog w = .ok (.value (.slice (some ⟨w.heap.size, 0, none⟩) 2 2)) (w.alloc (.cells ([x, y].flatMap Cs.encI).toArray 3))) :
    Free.opRun Tryz.prog o a.eval w fun u w2 => Free.Grow w w2 ∧ ∃ b, u = .slice (some ⟨b, 0, none⟩) 2 2 ∧ SL w2 1 Cs.encI (some ⟨b, 0, none⟩) [x, y] :=
  Free.opRun_of h ⟨Free.Grow.alloc _ _, w.heap.size, rfl, lit_sl w [x, y]⟩
def NPost (W : World) (p : Pat) (e : Ending) (w' : World) : Prop := ∃ v, e = .returned v ∧ Nums W w' v p.nums
set_option maxRecDepth 100000 in
set_option maxHeartbeats 4000000 in
theorem nums24_any (p : Pat) (h : Hd) (W : World) (hp : PatAt W p h) (hs : p.cl.length ≤ 500 ∧ p.new.start.length ≤ 20) : Calls Tryz.prog 82 #[.agg (encPat p h).toArray] W (NPost W p) := by
  obtain ⟨R, eR⟩ : ∃ R, R = NPost W p := ⟨_, rfl⟩
  rw [← eR]
  have ER : Hid (∀ v w', Nums W w' v p.nums → R (.returned v) w') := Lib.hid fun v w' h => by rw [eR]; exact ⟨v, rfl, h⟩
  clear eR
  obtain ⟨cs, ecs⟩ : ∃ cs, cs = encPat p h := ⟨_, rfl⟩
  obtain ⟨ks, eks⟩ : ∃ ks, ks = encCls p.new (stV p h) := ⟨_, rfl⟩
  rw [← ecs]
  obtain ⟨W1, e1⟩ : ∃ W1, W1 = W.alloc (.cells cs.toArray 47) := ⟨_, rfl⟩
  have hr1 : Row W1 W.heap.size 47 cs := by rw [e1]; exact Row.new _ _ _
  have hb1 : Below W.heap.size W W1 := by rw [e1]; exact (Below.refl _ _).alloc (Nat.le_refl _) _
  obtain ⟨W2, e2⟩ : ∃ W2, W2 = W1.alloc (.cells ks.toArray 45) := ⟨_, rfl⟩
  have hr2 : Row W2 W1.heap.size 45 ks := by rw [e2]; exact Row.new _ _ _
  have hb2 : Below W1.heap.size W1 W2 := by rw [e2]; exact (Below.refl _ _).alloc (Nat.le_refl _) _
  have hkl : ks.length = 16 := by rw [eks]; rfl
  have hk1 : ∀ v ∈ ks, v.oneCell' = true := by rw [eks]; exact encCls_one _ _ rfl
  have E1 : Hid (W.alloc (.cells cs.toArray 47) = W1) := Lib.hid e1.symm
  have HIK : Hid ((Tryz.prog.info? 45).map (·.size) = some ks.length) := Lib.hid (by rw [hkl]; kernel_rfl)
  have HMK : Hid (W1.rangeAt W.heap.size 2 ks) := Lib.hid (hr1.range fun j v hj => by rw [ecs]; rw [eks] at hj; exact pat_new hj)
  have HST : Hid (∀ (Q : Exit → Act → World → Prop) (ops : Array Oper) (rest : List Oper) (o : Oper) (a : Act), o.guard = none → o.op = .store 45 (.tmp 3) (.tmp 7) → a.eval (.tmp 3) = .pointer (some ⟨W1.heap.size, 0, none⟩) → a.eval (.tmp 7) = .agg ks.toArray → ∀ old : Array Value, old.size = 16 → wpList Tryz.prog ops Q rest (a.put o.dst undef) W2 → wpList Tryz.prog ops Q (o :: rest) a (W1.alloc (.cells old 45))) := Lib.hid (by
    intro Q ops rest o a hgd ho hx hy old hold hk
    rw [e2] at hk
    exact Hk.wpList_store_fresh hgd 45 (.tmp 3) (.tmp 7) ho W1.heap.size _ hx hy old 45 rfl (by rw [HIK.out]; simp) (by rw [hold]; simp [hkl]) (all_oneCell_toArray hk1) hk)
  have hr12 := hr1.below hb2 hr1.lt
  obtain ⟨l1, el1⟩ : ∃ l1, l1 = [p.kind, p.days, (p.cl.length : Int)] := ⟨_, rfl⟩
  obtain ⟨W3, e3⟩ : ∃ W3, W3 = W2.alloc (.cells #[.int .i64 p.kind, .int .i64 p.days, .int .i64 (p.cl.length : Int)] 3) := ⟨_, rfl⟩
  have hn3 : Nums W2 W3 (.slice (some ⟨W2.heap.size, 0, none⟩) 3 3) l1 := by
    have := Nums.lit W2 l1 (by rw [el1]; simp)
    rw [el1] at this ⊢
    rw [e3]; exact this
  have hb3 := hn3.below
  have E3 : Hid (W2.alloc (.cells #[.int .i64 p.kind, .int .i64 p.days, .int .i64 (p.cl.length : Int)] 3) = W3) := Lib.hid e3.symm
  have c0 := hr12.at (show cs[0]? = some (.int .i64 p.kind) by rw [ecs]; rfl)
  have c1 := hr12.at (show cs[1]? = some (.slice h.A p.cl.length h.c) by rw [ecs]; rfl)
  have c18 := hr12.at (show cs[18]? = some (.int .i64 p.days) by rw [ecs]; rfl)
  have c1' := (hr12.below hb3 hr12.lt).at (show cs[1]? = some (.slice h.A p.cl.length h.c) by rw [ecs]; rfl)
  have hbW2 : Below W.heap.size W W2 := hb1.trans (hb2.mono hb1.size)
  have hbW3 : Below W.heap.size W W3 := hbW2.trans (hb3.mono hbW2.size)
  have HAP : Hid (∀ (Q : Exit → Act → World → Prop) (ops : Array Oper) (rest : List Oper) (o : Oper) (a : Act), o.guard = none → o.op = .call { callee := .builtin .append, args := #[.tmp 16, .tmp 18], argTypes := #[22, 22] } → a.eval (.tmp 16) = .slice (some ⟨W2.heap.size, 0, none⟩) 3 3 → a.eval (.tmp 18) = .slice h.A p.cl.length h.c → (∀ u w', Hid (Nums W2 w' u (l1 ++ p.cl)) → wpList Tryz.prog ops Q rest (a.put o.dst u) w') → wpList Tryz.prog ops Q (o :: rest) a W3) := Lib.hid (by
    intro Q ops rest o a hgd ho hs hx hk
    exact nums_append hn3 (hp.cl.below hbW3 (Nat.le_refl _)) (by rw [el1]; simp; omega) (.tmp 16) (.tmp 18) Q ops rest o a hgd ho hs hx (fun u w' h => hk u w' (Lib.hid h)))
  have HR2 : Hid (∀ w', Below W2.heap.size W2 w' → Row w' W1.heap.size 45 ks) := Lib.hid fun w' hb => hr2.below hb hr2.lt
  have HST2 : Hid (∀ w', Below W2.heap.size W2 w' → SL w' 2 encCond h.B p.new.start) := Lib.hid fun w' hb => hp.st.below (hbW2.trans (hb.mono hbW2.size)) (Nat.le_refl _)
  have HBW2 := Lib.hid hbW2
  have HSZ := Lib.hid hs
  have HLT := Lib.hid hr2.lt
  have EKS := Lib.hid eks
  have EL1 := Lib.hid el1
  clear ecs e1 e2 hk1 eks el1 e3 hn3 hb3 hr12 hbW2 hbW3 hr1 hr2 hb1 hb2 hkl hp hs
  go_enter Tryz.func82, Tryz.ntmps82
  go_wp2_with (first
    | (simp only [E1.out])
    | (simp only [E3.out])
    | (refine at_load (.tmp 6) ?_; refine wpList_load_mid rfl 45 (.tmp 6) rfl W.heap.size 2 rfl ks _ HMK.out Tryz.underlying45 rfl HIK.out ?_)
    | (refine at_store (.tmp 3) ?_; refine HST.out _ _ _ _ _ rfl rfl rfl rfl _ (by simp) ?_; simp only [Act.put, List.setIfInBounds_toArray, List.set_cons_succ, List.set_cons_zero])
    | (refine at_app (.tmp 16) (.tmp 18) ?_; refine HAP.out _ _ _ _ _ rfl rfl rfl rfl ?_; intro u w4 H4; simp only [Act.put, List.setIfInBounds_toArray, List.set_cons_succ, List.set_cons_zero]))
  have HKS : Hid (∀ w', Below w4.heap.size w4 w' → ClsC w' W1.heap.size p.new (stV p h)) := Lib.hid fun w' hb => ClsC.of (T := 45) (by rw [← EKS.out]; exact HR2.out w' (H4.out.below.trans (hb.mono H4.out.below.size)))
  refine Free.wp_region_free 40 [(15, .det (.int .i64 (b2i p.new.bus))), (18, .det (.int .i64 (b2i p.new.fin))), (35, .det (.int .i64 (b2i p.new.waived))), (39, .ind (fun b => .slice (some ⟨b, 0, none⟩) 16 16) (fun b w => SL w 1 Cs.encI (some ⟨b, 0, none⟩) (l16 p)))] (fun w' => Below w4.heap.size w4 w') (by kernel_rfl) (by kernel_rfl) (mono16 p) (Below.refl _ _).drew (fun _ _ h g => h.trans (Below.mono g h.size)) ?_
  simp only [List.take_succ_cons, List.take_zero]
  iterate 15 (apply Free.chain_still (by first | exact Free.wanted_of rfl rfl rfl | rfl) rfl; (intro w' hB hA; obtain ⟨q0, q1, q2, q3, q4, q5, q6, q7, q8, q9, q10, q11, q12, q13, q14, q15⟩ := HKS.out w' hB; clear hA; go_light; go_simp <;> rfl); (try simp only [Act.put, List.setIfInBounds_toArray, List.set_cons_succ, List.set_cons_zero]))
  apply Free.chain_det (by first | exact Free.wanted_of rfl rfl rfl | rfl) rfl
  · intro w' hB hA
    refine Free.opRun_call (f := 115) (args := #[.bool p.new.bus]) (by clear hB hA; go_simp <;> rfl) ?_
    refine (bit_below _ _).mono ?_
    rintro e w3 ⟨rfl, hb3⟩
    exact ⟨_, rfl, hb3, rfl⟩
  simp only [Act.put, List.setIfInBounds_toArray, List.set_cons_succ, List.set_cons_zero]
  iterate 2 (apply Free.chain_still (by first | exact Free.wanted_of rfl rfl rfl | rfl) rfl; (intro w' hB hA; obtain ⟨q0, q1, q2, q3, q4, q5, q6, q7, q8, q9, q10, q11, q12, q13, q14, q15⟩ := HKS.out w' hB; clear hA; go_light; go_simp <;> rfl); (try simp only [Act.put, List.setIfInBounds_toArray, List.set_cons_succ, List.set_cons_zero]))
  apply Free.chain_det (by first | exact Free.wanted_of rfl rfl rfl | rfl) rfl
  · intro w' hB hA
    refine Free.opRun_call (f := 115) (args := #[.bool p.new.fin]) (by clear hB hA; go_simp <;> rfl) ?_
    refine (bit_below _ _).mono ?_
    rintro e w3 ⟨rfl, hb3⟩
    exact ⟨_, rfl, hb3, rfl⟩
  simp only [Act.put, List.setIfInBounds_toArray, List.set_cons_succ, List.set_cons_zero]
  iterate 16 (apply Free.chain_still (by first | exact Free.wanted_of rfl rfl rfl | rfl) rfl; (intro w' hB hA; obtain ⟨q0, q1, q2, q3, q4, q5, q6, q7, q8, q9, q10, q11, q12, q13, q14, q15⟩ := HKS.out w' hB; clear hA; go_light; go_simp <;> rfl); (try simp only [Act.put, List.setIfInBounds_toArray, List.set_cons_succ, List.set_cons_zero]))
  apply Free.chain_det (by first | exact Free.wanted_of rfl rfl rfl | rfl) rfl
  · intro w' hB hA
    refine Free.opRun_call (f := 115) (args := #[.bool p.new.waived]) (by clear hB hA; go_simp <;> rfl) ?_
    refine (bit_below _ _).mono ?_
    rintro e w3 ⟨rfl, hb3⟩
    exact ⟨_, rfl, hb3, rfl⟩
  simp only [Act.put, List.setIfInBounds_toArray, List.set_cons_succ, List.set_cons_zero]
  iterate 3 (apply Free.chain_still (by first | exact Free.wanted_of rfl rfl rfl | rfl) rfl; (intro w' hB hA; obtain ⟨q0, q1, q2, q3, q4, q5, q6, q7, q8, q9, q10, q11, q12, q13, q14, q15⟩ := HKS.out w' hB; clear hA; go_light; go_simp <;> rfl); (try simp only [Act.put, List.setIfInBounds_toArray, List.set_cons_succ, List.set_cons_zero]))
  apply Free.chain_ind rfl rfl
  · intro w' hB hA
    refine build16 ?_
    clear hB hA
    go_light
    go_simp <;> rfl
  intro b6
  simp only [Act.put, List.setIfInBounds_toArray, List.set_cons_succ, List.set_cons_zero]
  apply Free.chain_nil
  intro w5 hw5 _ hh
  have hs6 := hh _ List.mem_cons_self
  dsimp only at hs6
  have hn5 := H4.out.grow hw5
  have HAP2 : Hid (∀ (Q : Exit → Act → World → Prop) (ops : Array Oper) (rest : List Oper) (o : Oper) (a : Act), o.guard = none → o.op = .call { callee := .builtin .append, args := #[.tmp 20, .tmp 59], argTypes := #[22, 22] } → a.eval (.tmp 20) = u → a.eval (.tmp 59) = .slice (some ⟨b6, 0, none⟩) 16 16 → (∀ u w', Hid (Nums W2 w' u ((l1 ++ p.cl) ++ l16 p)) → wpList Tryz.prog ops Q rest (a.put o.dst u) w') → wpList Tryz.prog ops Q (o :: rest) a w5) := Lib.hid (by
    intro Q ops rest o a hgd ho hs hx hk
    exact nums_append hn5 hs6 (by have := HSZ.out; rw [EL1.out]; simp [l16]; omega) (.tmp 20) (.tmp 59) Q ops rest o a hgd ho hs hx (fun u w' h => hk u w' (Lib.hid h)))
  simp only [List.drop_succ_cons, List.drop_zero]
  clear hs6 hn5 hw5 hh HKS H4
  go_wp2_with (first
    | (refine at_app (.tmp 20) (.tmp 59) ?_; refine HAP2.out _ _ _ _ _ rfl rfl rfl rfl ?_; intro u w6 H6; simp only [Act.put, List.setIfInBounds_toArray, List.set_cons_succ, List.set_cons_zero]))
  have hst : NumR W2 ((l1 ++ p.cl) ++ l16 p) p.new.start u (.int .i64 0) w6 := ⟨0, rfl, Nat.zero_le _, by simpa [stL] using H6.out⟩
  have HST := Lib.hid hst
  have hq6 := (ClsC.of (T := 45) (by rw [← EKS.out]; exact HR2.out w6 H6.out.below)).q4
  clear hst H6 HAP2
  obtain ⟨base, ebase⟩ : ∃ base, base = (l1 ++ p.cl) ++ l16 p := ⟨_, rfl⟩
  rw [← ebase] at HST
  have HFE : Hid (p.nums = base ++ stL p.new.start) := Lib.hid (by rw [nums_split, ebase, EL1.out])
  have HBL : Hid (base.length ≤ 600) := Lib.hid (by have := HSZ.out; rw [ebase, EL1.out]; simp [l16]; omega)
  clear ebase hq6
  go_loopw [4, 5] (fun u v wr => NumR W2 base p.new.start u v wr) (fun _ v _ => (p.new.start.length : Int).toNat - (RowKit.intOf v).toNat)
  case atStart => exact HST.out
  case round =>
    clear HST
    obtain ⟨k, rfl, hk, hn⟩ := hrel
    have hq4 := (ClsC.of (T := 45) (by rw [← EKS.out]; exact HR2.out wr hn.below)).q4
    unfold stV at hq4
    rcases Nat.lt_or_eq_of_le hk with hkl | hkl
    · have hki : (k : Int) < (p.new.start.length : Int) := by omega
      have hkb : (k : Int) ≤ 20 := by have := HSZ.out; omega
      have hS := HST2.out wr hn.below
      obtain ⟨b, off, eB⟩ := sl_addr hS (by intro e; rw [e] at hkl; simp at hkl)
      rw [eB] at hq4
      obtain ⟨x, ex⟩ : ∃ x, p.new.start[k]? = some x := ⟨_, List.getElem?_eq_getElem hkl⟩
      have HC : Hid (∀ w', Below wr.heap.size wr w' → w'.cell? ⟨b, off + k * 2, none⟩ = some (.int .i64 x.1) ∧ w'.cell? ⟨b, off + k * 2 + 1, none⟩ = some (.int .i64 x.2) ∧ w'.cell? ⟨W1.heap.size, 4, none⟩ = some (.slice (some ⟨b, off, none⟩) p.new.start.length h.d)) := Lib.hid fun w' hb => by
        have h2 := HST2.out w' (hn.below.trans (hb.mono hn.below.size))
        rw [eB] at h2
        have hr := sl_range h2 ex
        refine ⟨by have h := hr 0 (.int .i64 x.1) rfl; rwa [Nat.add_zero] at h, hr 1 _ rfl, ?_⟩
        have := (ClsC.of (T := 45) (by rw [← EKS.out]; exact HR2.out w' (hn.below.trans (hb.mono hn.below.size)))).q4
        unfold stV at this
        rw [eB] at this
        exact this
      have HN := Lib.hid hn
      have EX := Lib.hid ex
      clear hn ex hS eB
      go_wp2_with fail
      refine Free.wp_region_free 14 [(13, .ind (fun b => .slice (some ⟨b, 0, none⟩) 2 2) (fun b w => SL w 1 Cs.encI (some ⟨b, 0, none⟩) [x.1, x.2]))] (fun w' => Below wr.heap.size wr w') (by kernel_rfl) (by kernel_rfl) (mono2 rfl) (Below.refl _ _).drew (fun _ _ h g => h.trans (Below.mono g h.size)) ?_
      simp only [List.take_succ_cons, List.take_zero]
      iterate 13 (apply Free.chain_still (by first | exact Free.wanted_of rfl rfl rfl | rfl) rfl; (intro w' hB hA; obtain ⟨q0, q1, q4⟩ := HC.out w' hB; clear hA; go_light; go_simp <;> rfl); (try simp only [Act.put, List.setIfInBounds_toArray, List.set_cons_succ, List.set_cons_zero]))
      apply Free.chain_ind rfl rfl
      · intro w' hB hA
        refine build2 ?_
        clear hB hA
        go_light
        go_simp <;> rfl
      intro b6
      simp only [Act.put, List.setIfInBounds_toArray, List.set_cons_succ, List.set_cons_zero]
      apply Free.chain_nil
      intro w7 hw7 _ hh
      have hs6 := hh _ List.mem_cons_self
      dsimp only at hs6
      have hn7 := HN.out.grow hw7
      have HAP3 : Hid (∀ (Q : Exit → Act → World → Prop) (ops : Array Oper) (rest : List Oper) (o : Oper) (a : Act), o.guard = none → o.op = .call { callee := .builtin .append, args := #[.tmp 68, .tmp 81], argTypes := #[22, 22] } → a.eval (.tmp 68) = u4 → a.eval (.tmp 81) = .slice (some ⟨b6, 0, none⟩) 2 2 → (∀ u w', Hid (Nums W2 w' u ((base ++ stL (p.new.start.take k)) ++ [x.1, x.2])) → wpList Tryz.prog ops Q rest (a.put o.dst u) w') → wpList Tryz.prog ops Q (o :: rest) a w7) := Lib.hid (by
        intro Q ops rest o a hgd ho hs hx hk
        exact nums_append hn7 hs6 (by
          have h1 := HBL.out
          have h2 := HSZ.out
          have h3 : (stL (p.new.start.take k)).length ≤ 40 := by rw [stL_len, List.length_take]; omega
          rw [List.length_append]; simp; omega) (.tmp 68) (.tmp 81) Q ops rest o a hgd ho hs hx (fun u w' h => hk u w' (Lib.hid h)))
      simp only [List.drop_succ_cons, List.drop_zero]
      clear hs6 hn7 hw7 hh HC
      go_wp2_with (first
        | (refine at_app (.tmp 68) (.tmp 81) ?_; refine HAP3.out _ _ _ _ _ rfl rfl rfl rfl ?_; intro u w8 H8; simp only [Act.put, List.setIfInBounds_toArray, List.set_cons_succ, List.set_cons_zero]))
      go_roundw
      case rel => exact ⟨k + 1, rfl, hkl, by rw [stL_more EX.out, ← List.append_assoc]; exact H8.out⟩
      case measure => simp [RowKit.intOf]; omega
    · have hki : ¬ (k : Int) < (p.new.start.length : Int) := by omega
      have HF : Hid (R (.returned u4) wr) := Lib.hid (ER.out _ _ (by
        have h1 := hn
        rw [List.take_of_length_le (by omega)] at h1
        rw [HFE.out]
        exact ⟨owns_mono h1.own HBW2.out.size, HBW2.out.trans (h1.below.mono HBW2.out.size)⟩))
      clear hn hk
      go_wp2_with fail
      exact HF.out
end Go.Proofs.YtekfoaenomgjgaaGreatDoor
