/- Appending lists of records to a row of one's own, in any order with other work. No condition. -/
import Derived.Test.YthfjaaigncjhlaaGreatDoorApk
import Derived.Test.YthfjaaigncjhlaaGreatDoorFre2
import Derived.Test.YthfjaaigncjhlaaGreatDoorOpn
import Derived.Test.YthfjaaigncjhlaaGreatDoorBlk
namespace Go.Apl
open Go Go.RowKit Go.Blk Go.Opn

/-- Every block but one is as it was; this one keeps its first cells, and the whole once it is full. -/
structure RowL (g : Nat) (T : TypeId) (X E : List Value) (w w' : World) : Prop where
  os : w'.os = w.os
  tape : w'.tape = w.tape
  output : w'.output = w.output
  size : w.heap.size ≤ w'.heap.size
  block : ∀ k, k < w.heap.size → k ≠ g → w'.heap[k]? = w.heap[k]?
  row : ∀ cur : Array Value, w.heap[g]? = some (.cells cur T (0, 0)) → ∃ cur' : Array Value, w'.heap[g]? = some (.cells cur' T (0, 0)) ∧ cur'.size = cur.size ∧ (cur.toList.take X.length = X → cur'.toList.take X.length = X) ∧ (cur.toList = X ++ E → cur'.toList = X ++ E)
section
variable {g : Nat} {T : TypeId} {X E : List Value}
theorem RowL.refl (w : World) : RowL g T X E w w := ⟨rfl, rfl, rfl, Nat.le_refl _, fun _ _ _ => rfl, fun cur h => ⟨cur, h, rfl, id, id⟩⟩
theorem RowL.trans (a b c : World) (h : RowL g T X E a b) (k : RowL g T X E b c) : RowL g T X E a c :=
  ⟨k.os.trans h.os, k.tape.trans h.tape, k.output.trans h.output, Nat.le_trans h.size k.size, fun i hi hn => (k.block i (Nat.lt_of_lt_of_le hi h.size) hn).trans (h.block i hi hn), fun cur hc => by
    obtain ⟨c1, h1, h2, h3, h4⟩ := h.row cur hc
    obtain ⟨c2, k1, k2, k3, k4⟩ := k.row c1 h1
    exact ⟨c2, k1, k2.trans h2, fun e => k3 (h3 e), fun e => k4 (h4 e)⟩⟩
theorem RowL.grow {w w' : World} (h : Below w.heap.size w w') : RowL g T X E w w' :=
  ⟨h.os, h.tape, h.output, h.size, fun k hk _ => h.block k hk, fun cur hc => ⟨cur, (h.block g (Array.getElem?_eq_some_iff.1 hc).1).trans hc, rfl, id, id⟩⟩
theorem RowL.of_set {w w' : World} {cc c2 : Array Value} (hg : w.grownBy w' (some g)) (hc : w.heap[g]? = some (.cells cc T (0, 0))) (h2 : w'.heap[g]? = some (.cells c2 T (0, 0))) (hs : c2.size = cc.size)
    (h3 : cc.toList.take X.length = X → c2.toList.take X.length = X) (h4 : cc.toList = X ++ E → c2.toList = X ++ E) : RowL g T X E w w' :=
  ⟨hg.os, hg.tape, hg.output, hg.size, fun k hk hn => hg.block k hk (by simpa using hn), fun cur h => by rw [hc] at h; cases h; exact ⟨c2, h2, hs, h3, h4⟩⟩
end
theorem spl_first (cc : Array Value) (X : List Value) : (Apk.spl cc 0 X).toList = X ++ cc.toList.drop X.length := by simp [Apk.spl]
theorem spl_first_take (cc : Array Value) (X : List Value) : (Apk.spl cc 0 X).toList.take X.length = X := by simp [Apk.spl]
theorem spl_first_full (cc : Array Value) (X E : List Value) (h : cc.toList = X ++ E) : (Apk.spl cc 0 X).toList = X ++ E := by rw [spl_first cc X, h]; simp
theorem spl_last_full (cc : Array Value) (X E : List Value) (h : cc.toList.take X.length = X) (hs : cc.size = X.length + E.length) : (Apk.spl cc X.length E).toList = X ++ E := by
  have hd : cc.toList.drop (X.length + E.length) = [] := List.drop_eq_nil_iff.2 (by simp; omega)
  simp only [Apk.spl, h, hd, List.append_nil]

section
variable {α : Type} {ec : α → List Value} {sz : Nat}
theorem flat_len (hz : ∀ e, (ec e).length = sz) : ∀ l : List α, (l.flatMap ec).length = l.length * sz
  | [] => by simp
  | x :: l => by
    rw [List.flatMap_cons, List.length_append, hz, flat_len hz l, List.length_cons, Nat.add_mul]; omega
theorem flat_get (hz : ∀ e, (ec e).length = sz) : ∀ (l : List α) (j : Nat) (u : Value), (l.flatMap ec)[j]? = some u → ∃ i e p, l[i]? = some e ∧ (ec e)[p]? = some u ∧ j = i * sz + p
  | [], j, u, h => by simp at h
  | x :: l, j, u, h => by
    rw [List.flatMap_cons] at h
    by_cases hj : j < sz
    · rw [List.getElem?_append_left (by rw [hz]; exact hj)] at h
      exact ⟨0, x, j, rfl, h, by omega⟩
    · rw [List.getElem?_append_right (by rw [hz]; omega), hz] at h
      obtain ⟨i, e, p, h1, h2, h3⟩ := flat_get hz l _ u h
      exact ⟨i + 1, e, p, h1, h2, by rw [Nat.add_mul]; omega⟩
theorem flat_at (hz : ∀ e, (ec e).length = sz) : ∀ (l : List α) (i : Nat) (e : α) (p : Nat) (u : Value), l[i]? = some e → (ec e)[p]? = some u → (l.flatMap ec)[i * sz + p]? = some u
  | [], i, e, p, u, h, _ => by simp at h
  | x :: l, 0, e, p, u, h, hp => by
    simp at h; subst h
    have := (List.getElem?_eq_some_iff.1 hp).1
    rw [List.flatMap_cons, Nat.zero_mul, Nat.zero_add, List.getElem?_append_left this]; exact hp
  | x :: l, i + 1, e, p, u, h, hp => by
    rw [List.flatMap_cons, List.getElem?_append_right (by rw [hz, Nat.add_mul]; omega), hz]
    have := flat_at hz l i e p u (by simpa using h) hp
    rw [← this]; congr 1; rw [Nat.add_mul]; omega
/-- A block whose first cells are those of a list. -/
theorem sl_of_cells {w : World} {b : Nat} {cur : Array Value} {T : TypeId} {l : List α} (hz : ∀ e, (ec e).length = sz) (hb : w.heap[b]? = some (.cells cur T (0, 0))) (hc : ∀ (j : Nat) (u : Value), (l.flatMap ec)[j]? = some u → cur[j]? = some u) : SL w sz ec (some ⟨b, 0, none⟩) l :=
  ⟨fun _ => ⟨b, 0, rfl, fun i e hi p u hu => by
    have := hc _ u (flat_at hz l i e p u hi hu)
    simp [World.cell?, hb, this]⟩⟩
theorem sl_flat {w : World} {b off : Nat} {l : List α} (hz : ∀ e, (ec e).length = sz) (h : SL w sz ec (some ⟨b, off, none⟩) l) : ∀ j u, (l.flatMap ec)[j]? = some u → w.cell? ((⟨b, off, none⟩ : Addr).add j) = some u := by
  intro j u hu
  obtain ⟨i, e, p, h1, h2, rfl⟩ := flat_get hz l j u hu
  obtain ⟨b', off', e1, h3⟩ := h.cells (by rintro rfl; simp at h1)
  cases e1
  rw [addr_add]; exact h3 i e h1 p u h2
/-- Appending a list to a row that has room for it. -/
theorem append_list {P : Program} (w : World) (t ty e : TypeId) (i : TypeInfo) (ht : P.underlying t = some (.slice e)) (hi : P.info? e = some i) (hsz : i.size = sz) (hz : ∀ x, (ec x).length = sz) (h1 : ∀ x, ∀ u ∈ ec x, u.oneCell' = true)
    (g n cap : Nat) (cur : Array Value) (hg : w.heap[g]? = some (.cells cur e (0, 0))) (A : Option Addr) (c : Nat) (l : List α) (hs : SL w sz ec A l) (hroom : n + l.length ≤ cap) (hcs : cur.size = cap * sz) :
    ∃ w', (Builtin.append_ #[t, t] ty #[.slice (some ⟨g, 0, none⟩) n cap, .slice A l.length c]).run P w = .ok (.slice (some ⟨g, 0, none⟩) (n + l.length) cap) w' ∧ w.grownBy w' (some g) ∧ w'.heap[g]? = some (.cells (Apk.spl cur (n * sz) (l.flatMap ec)) e (0, 0)) := by
  cases A with
  | some a =>
    have hnews : ∀ j u, (l.flatMap ec)[j]? = some u → w.cell? (a.add j) = some u := by
      intro j u hu
      obtain ⟨i, x, p, k1, _⟩ := flat_get hz l j u hu
      obtain ⟨b, off, e1, _⟩ := hs.cells (by rintro rfl; simp at k1)
      injection e1 with e1
      subst e1
      exact sl_flat hz hs j u hu
    refine ⟨_, Apk.append_room (P := P) w t ty e i sz ht hi hsz g n cap cur hg a l.length c (l.flatMap ec) (flat_len hz l) hnews (fun u hu => ?_) hroom hcs, ?_, setRow_heap w g cur _ e _ hg⟩
    · obtain ⟨x, _, hx⟩ := List.mem_flatMap.1 hu
      exact h1 x u hx
    · exact ⟨rfl, rfl, rfl, by simp [World.setRow], fun k hk hn => by
        have : k ≠ g := by simpa using hn
        simp only [World.setRow, Array.getElem?_modify]; rw [if_neg (Ne.symm this)]⟩
  | none =>
    have hl : l = [] := by
      cases l with
      | nil => rfl
      | cons x l => obtain ⟨b, off, e1, _⟩ := hs.cells (by simp); cases e1
    subst hl
    refine ⟨w, ?_, ⟨rfl, rfl, rfl, Nat.le_refl _, fun _ _ _ => rfl⟩, ?_⟩
    · simp at hroom
      simp [Builtin.append_, run_underlying ht, sizeOf, typeInfo, hi, Builtin.lenOf, hroom, run_firstCells_none, storeCells]
    · rw [hg]; simp [Apk.spl]
end
/-- Appending a list to any row of one's own. -/
theorem append_own {α : Type} {ec : α → List Value} {sz : Nat} {P : Program} (w : World) (base : Nat) (t ty e : TypeId) (i : TypeInfo) (z : Value) (bytes : Nat) (ht : P.underlying t = some (.slice e)) (hi : P.info? e = some i) (hz : i.zero = some z)
    (hsize : i.size = sz) (hby : i.bytes = bytes) (hzs : z.cells.size = sz) (hsz : 0 < sz) (hec : ∀ x, (ec x).length = sz) (h1 : ∀ x, ∀ u ∈ ec x, u.oneCell' = true)
    (v : Value) (n : Nat) (xs : List Value) (hown : w.ownsRow base e sz v n xs) (A : Option Addr) (c : Nat) (l : List α) (hs : SL w sz ec A l)
    (h63 : n + l.length ≤ maxLen) (hbytes : (n + l.length) * bytes ≤ 140737488355328) (hbase : base ≤ w.heap.size) :
    ∃ v' w', (Builtin.append_ #[t, t] ty #[v, .slice A l.length c]).run P w = .ok v' w' ∧ w'.ownsRow base e sz v' (n + l.length) (xs ++ l.flatMap ec) ∧ w.grownBy w' v.ownBlock ∧ (v'.ownBlock = v.ownBlock ∨ v'.ownBlock = some w.heap.size) := by
  cases A with
  | some a =>
    have hnews : ∀ (j : Nat) u, (l.flatMap ec)[j]? = some u → w.cell? (a.add j) = some u := by
      intro j u hu
      obtain ⟨i, x, p, k1, _⟩ := flat_get hec l j u hu
      obtain ⟨b, off, e1, _⟩ := hs.cells (by rintro rfl; simp at k1)
      injection e1 with e1
      subst e1
      exact sl_flat hec hs j u hu
    obtain ⟨v', w', k1, k2, k3, _, k5⟩ := run_append_own_at (P := P) w base t ty e i z sz bytes ht hi hz hsize hby hzs hsz v n xs hown a l.length c (l.flatMap ec) (flat_len hec l) hnews (fun u hu => by
      obtain ⟨x, _, hx⟩ := List.mem_flatMap.1 hu
      exact h1 x u hx) h63 hbytes hbase
    exact ⟨v', w', k1, k2, k3, k5⟩
  | none =>
    have hl : l = [] := by
      cases l with
      | nil => rfl
      | cons x l => obtain ⟨b, off, e1, _⟩ := hs.cells (by simp); cases e1
    subst hl
    refine ⟨v, w, ?_, by simpa using hown, ⟨rfl, rfl, rfl, Nat.le_refl _, fun _ _ _ => rfl⟩, .inl rfl⟩
    rcases hown.2 with ⟨rfl, rfl⟩ | ⟨g, cap, cur, rfl, _, _, hnc, _⟩
    · simp [Builtin.append_, run_underlying ht, sizeOf, typeInfo, hi, Builtin.lenOf, run_firstCells_none]
    · simp [Builtin.append_, run_underlying ht, sizeOf, typeInfo, hi, Builtin.lenOf, hnc, run_firstCells_none, storeCells]
theorem wpList_append_list {α : Type} {ec : α → List Value} {sz : Nat} {P : Program} {w : World} {ops : Array Oper} {rest : List Oper} {o : Oper} {a : Act} {Q : Exit → Act → World → Prop} (hgd : o.guard = none) (s x : Operand) (t : TypeId)
    (ho : o.op = .call { callee := .builtin .append, args := #[s, x], argTypes := #[t, t] })
    (base : Nat) (e : TypeId) (i : TypeInfo) (z : Value) (bytes : Nat) (ht : P.underlying t = some (.slice e)) (hi : P.info? e = some i) (hz : i.zero = some z)
    (hsize : i.size = sz) (hby : i.bytes = bytes) (hzs : z.cells.size = sz) (hsz : 0 < sz) (hec : ∀ x, (ec x).length = sz) (h1 : ∀ x, ∀ u ∈ ec x, u.oneCell' = true)
    (v : Value) (n : Nat) (xs : List Value) (hs : a.eval s = v) (hown : w.ownsRow base e sz v n xs)
    (A : Option Addr) (c : Nat) (l : List α) (hx : a.eval x = .slice A l.length c) (hsl : SL w sz ec A l)
    (h63 : n + l.length ≤ maxLen) (hbytes : (n + l.length) * bytes ≤ 140737488355328) (hbase : base ≤ w.heap.size)
    (h : ∀ v' w', w'.ownsRow base e sz v' (n + l.length) (xs ++ l.flatMap ec) → w.grownBy w' v.ownBlock → (v'.ownBlock = v.ownBlock ∨ v'.ownBlock = some w.heap.size) → wpList P ops Q rest (a.put o.dst v') w') :
    wpList P ops Q (o :: rest) a w := by
  refine wpList_plain hgd fun K hK => ?_
  obtain ⟨v', w', hr, h2, h3, h5⟩ := append_own (P := P) w base t o.type e i z bytes ht hi hz hsize hby hzs hsz hec h1 v n xs hown A c l hsl h63 hbytes hbase
  unfold Oper.wp execOp
  simp only [ho, resolve, invoke, builtin, Sem.run_bind, Sem.run_pure, Result.andThen_ok, List.map_toArray, List.map_cons, List.map_nil, hs, hx, hr]
  exact hK _ _ (h v' w' h2 h3 h5)
/-- A row of one's own with at least one element: where it lies, and that it reads as the list. -/
theorem own_at {α : Type} {ec : α → List Value} {sz : Nat} {w : World} {base : Nat} {e : TypeId} {v : Value} {l : List α} (hec : ∀ x, (ec x).length = sz) (h : w.ownsRow base e sz v l.length (l.flatMap ec)) (hl : l ≠ []) :
    ∃ g cap cur, v = .slice (some ⟨g, 0, none⟩) l.length cap ∧ base ≤ g ∧ w.heap[g]? = some (.cells cur e (0, 0)) ∧ l.length ≤ cap ∧ cap ≤ maxLen ∧ cur.toList.take (l.length * sz) = l.flatMap ec ∧ SL w sz ec (some ⟨g, 0, none⟩) l := by
  obtain ⟨_, ⟨_, h0⟩ | ⟨g, cap, cur, h1, h2, h3, h4, h5, h6, h7⟩⟩ := h
  · exact absurd (List.length_eq_zero_iff.1 h0) hl
  · refine ⟨g, cap, cur, h1, h2, h3, h4, h5, h7, sl_of_cells hec h3 (fun j u hu => ?_)⟩
    rw [← h7] at hu
    rw [List.getElem?_take] at hu
    split at hu
    · simpa using hu
    · cases hu
/-- A cell of an element of a row is written. -/
theorem sl_set {α : Type} {ec : α → List Value} {sz : Nat} {w : World} {g : Nat} {cur : Array Value} {T : TypeId} {l : List α} (hec : ∀ x, (ec x).length = sz) (hg : w.heap[g]? = some (.cells cur T (0, 0))) (hs : SL w sz ec (some ⟨g, 0, none⟩) l)
    {i p : Nat} {e e' : α} {v : Value} (hi : l[i]? = some e) (hp : p < sz) (he : ec e' = (ec e).set p v) : SL (w.setCell ⟨g, i * sz + p, none⟩ v) sz ec (some ⟨g, 0, none⟩) (l.set i e') := by
  have hb : Blk w g cur.toList T := by unfold Blk; simpa using hg
  have hb2 := hb.set (i * sz + p) v
  have hlen : l ≠ [] := by rintro rfl; simp at hi
  obtain ⟨b, off, e1, hc⟩ := hs.cells hlen
  cases e1
  have hil : i < l.length := (List.getElem?_eq_some_iff.1 hi).1
  refine ⟨fun _ => ⟨g, 0, rfl, fun j x hj q u hu => ?_⟩⟩
  rw [Nat.zero_add]
  have hq : q < sz := by rw [← hec x]; exact (List.getElem?_eq_some_iff.1 hu).1
  have key : (cur.toList.set (i * sz + p) v)[j * sz + q]? = some u := by
    have hold : ∀ j x q u, l[j]? = some x → (ec x)[q]? = some u → cur.toList[j * sz + q]? = some u := fun j x q u hj hu => by
      have := hc j x hj q u hu
      simp only [World.cell?, hg, Nat.zero_add] at this
      simpa using this
    by_cases hji : j = i
    · subst hji
      rw [List.getElem?_set_self hil] at hj
      cases hj
      rw [he] at hu
      by_cases hqp : q = p
      · subst hqp
        rw [List.getElem?_set_self (by rw [hec]; exact hp)] at hu
        cases hu
        have hlt : j * sz + q < cur.toList.length := by
          obtain ⟨u0, hu0⟩ : ∃ u0, (ec e)[q]? = some u0 := ⟨_, List.getElem?_eq_getElem (by rw [hec]; exact hp)⟩
          exact (List.getElem?_eq_some_iff.1 (hold j e q u0 hi hu0)).1
        rw [List.getElem?_set_self hlt]
      · rw [List.getElem?_set_ne (Ne.symm hqp)] at hu
        rw [List.getElem?_set_ne (by omega)]
        exact hold j e q u hi hu
    · rw [List.getElem?_set_ne (fun e => hji e.symm)] at hj
      have hne : i * sz + p ≠ j * sz + q := by
        intro h
        apply hji
        have h1 : (i * sz + p) / sz = i := by rw [Nat.mul_comm, Nat.mul_add_div (by omega), Nat.div_eq_of_lt hp, Nat.add_zero]
        have h2 : (j * sz + q) / sz = j := by rw [Nat.mul_comm, Nat.mul_add_div (by omega), Nat.div_eq_of_lt hq, Nat.add_zero]
        rw [← h1, ← h2, h]
      rw [List.getElem?_set_ne hne]
      exact hold j x q u hj hu
  exact hb2.cellD _ u key
theorem set_heap {w : World} {g k : Nat} {cur : Array Value} {T : TypeId} {v : Value} (hg : w.heap[g]? = some (.cells cur T (0, 0))) : (w.setCell ⟨g, k, none⟩ v).heap[g]? = some (.cells (cur.toList.set k v).toArray T (0, 0)) := by
  have hb : Blk w g cur.toList T := by unfold Blk; simpa using hg
  exact hb.set k v
theorem row_frozen {w : World} {g k : Nat} {cur : Array Value} {T : TypeId} (hg : w.heap[g]? = some (.cells cur T (0, 0))) : w.frozen? ⟨g, k, none⟩ = false := by
  have hb : Blk w g cur.toList T := by unfold Blk; simpa using hg
  exact hb.frozen k
theorem exec_row {P : Program} {o : Oper} {ρ : Operand → Value} {w : World} {ty : TypeId} {x : Operand} {g : Nat} {t : TypeId} {cs : List Value} {dsc : TypeDesc} (ho : o.op = .load ty x) (hx : ρ x = .pointer (some ⟨g, 0, none⟩)) (hg : Blk w g cs t)
    (hu : P.underlying ty = some dsc) (hd : (match dsc with | .struct _ | .array _ _ => true | _ => false) = true) (hi : (P.info? ty).map (·.size) = some cs.toArray.size) : (execOp ρ o).run P w = .ok (.value (.agg cs.toArray)) w := by
  unfold execOp
  simp only [ho, hx, Instr.loadAt, Instr.sureAddr, Sem.run_bind, Sem.run_pure, Result.andThen_ok, run_loadVar_row w g t ty cs.toArray (0, 0) dsc hg hu hd hi]
theorem exec_slice {P : Program} {o : Oper} {ρ : Operand → Value} {w w' : World} {t : TypeId} {x : Operand} {v : Value} (ho : o.op = .buildSlice t 1 #[(0, x)]) (h : (Instr.buildSlice t 1 #[(0, ρ x)]).run P w = .ok v w') : (execOp ρ o).run P w = .ok (.value v) w' := by
  unfold execOp
  simp [ho, h]
theorem exec_append {P : Program} {o : Oper} {ρ : Operand → Value} {w w' : World} {t : TypeId} {s x : Operand} {u y v : Value} (ho : o.op = .call { callee := .builtin .append, args := #[s, x], argTypes := #[t, t] }) (hs : ρ s = u) (hx : ρ x = y)
    (h : (Builtin.append_ #[t, t] o.type #[u, y]).run P w = .ok v w') : (execOp ρ o).run P w = .ok (.value v) w' := by
  unfold execOp
  simp only [ho, resolve, invoke, builtin, Sem.run_bind, Sem.run_pure, Result.andThen_ok, List.map_toArray, List.map_cons, List.map_nil, hs, hx, h]
end Go.Apl
