/- A map from int to int as a function; what a look-up and a store do. No condition. -/
import Derived.MapKept
import Derived.WalkKit
import Derived.Below
import Derived.Lib.Hide
import Derived.ChangeMaps4
namespace Go.Mp
open Go Go.RowKit

instance decKey (v : Value) (k : Int) : Decidable (v = .int .i64 k) := by
  cases v with
  | int q a => exact if h : q = .i64 ∧ a = k then isTrue (by obtain ⟨rfl, rfl⟩ := h; rfl) else isFalse (fun e => by injection e with e1 e2; exact h ⟨e1, e2⟩)
  | _ => exact isFalse (fun e => by cases e)
def look : List MapEntry → Int → Option Int
  | [], _ => none
  | e :: r, k => if e.key = .int .i64 k then (match e.val with | .int _ v => some v | _ => none) else look r k
def Ints (l : List MapEntry) : Prop := ∀ e ∈ l, ∃ k v, e.key = .int .i64 k ∧ e.val = .int .i64 v
/-- Block b is a map that answers as f does. -/
def MapIs (w : World) (b : Nat) (f : Int → Option Int) : Prop :=
  ∃ (es : Array MapEntry) (clock : Nat), w.heap[b]? = some (.map es clock) ∧ Ints es.toList ∧ ∀ k, look es.toList k = f k
theorem MapIs.lt {w : World} {b : Nat} {f : Int → Option Int} (h : MapIs w b f) : b < w.heap.size := by
  obtain ⟨es, c, hb, _⟩ := h; exact (Array.getElem?_eq_some_iff.1 hb).1
theorem MapIs.keep {w w' : World} {b : Nat} {f : Int → Option Int} (h : MapIs w b f) (hk : w'.heap[b]? = w.heap[b]?) : MapIs w' b f := by
  obtain ⟨es, c, hb, h1, h2⟩ := h; exact ⟨es, c, hk.trans hb, h1, h2⟩
theorem MapIs.made (w : World) : MapIs (w.alloc (.map #[] 0)) w.heap.size (fun _ => none) :=
  ⟨#[], 0, by show (w.heap.push _)[w.heap.size]? = _; simp, fun e he => by simp at he, fun _ => rfl⟩

theorem find_none : ∀ (l : List MapEntry) (k : Int) (i : Nat), Ints l → look l k = none → Instr.findNow (.int .i64) (.int .i64 k) l i = some none
  | [], _, _, _, _ => rfl
  | e :: r, k, i, hi, h => by
    obtain ⟨a, v, ha, hv⟩ := hi e (by simp)
    unfold look at h
    rw [ha, hv] at h
    by_cases hak : a = k
    · subst hak; simp at h
    · rw [if_neg (by intro e; injection e with _ e; exact hak e)] at h
      unfold Instr.findNow
      rw [ha]
      have : Instr.sameNow (.int .i64) (.int .i64 k) (.int .i64 a) = some false := by simp [Instr.sameNow]; exact fun e => hak e.symm
      rw [this]
      exact find_none r k (i + 1) (fun e he => hi e (by simp [he])) h
theorem find_some : ∀ (l : List MapEntry) (k v : Int) (i : Nat), Ints l → look l k = some v → ∃ j e, Instr.findNow (.int .i64) (.int .i64 k) l i = some (some (i + j, .int .i64 v)) ∧ l[j]? = some e ∧ e.key = .int .i64 k ∧ ∀ m, m < j → ∀ e', l[m]? = some e' → e'.key ≠ .int .i64 k
  | [], _, _, _, _, h => by cases h
  | e :: r, k, v, i, hi, h => by
    obtain ⟨a, u, ha, hu⟩ := hi e (by simp)
    unfold look at h
    rw [ha, hu] at h
    by_cases hak : a = k
    · subst hak
      simp at h
      subst h
      refine ⟨0, e, ?_, rfl, ha, fun m hm => by omega⟩
      unfold Instr.findNow
      rw [ha]
      have : Instr.sameNow (.int .i64) (.int .i64 a) (.int .i64 a) = some true := by simp [Instr.sameNow]
      rw [this, hu]; rfl
    · rw [if_neg (by intro e; injection e with _ e; exact hak e)] at h
      obtain ⟨j, e', h1, h2, h3, h4⟩ := find_some r k v (i + 1) (fun e he => hi e (by simp [he])) h
      refine ⟨j + 1, e', ?_, by simpa using h2, h3, fun m hm e'' he'' => ?_⟩
      · unfold Instr.findNow
        rw [ha]
        have : Instr.sameNow (.int .i64) (.int .i64 k) (.int .i64 a) = some false := by simp [Instr.sameNow]; exact fun e => hak e.symm
        rw [this]
        simp only
        rw [h1, Nat.add_right_comm, Nat.add_assoc]
      · cases m with
        | zero => simp at he''; subst he''; rw [ha]; intro e; injection e with _ e; exact hak e
        | succ m => exact h4 m (by omega) e'' (by simpa using he'')

section
variable {P : Program} {w : World} {t k e : TypeId} {b : Nat} {f : Int → Option Int}
theorem run_find {es : List MapEntry} {x : Int} (hk : P.underlying k = some (.int .i64)) {r : Option (Nat × Value)} (h : Instr.findNow (.int .i64) (.int .i64 x) es 0 = some r) : (Instr.findKey k (.int .i64 x) es).run P w = .ok r w := by
  simp [Instr.findKey, run_underlying hk, h, Result.andThen]
theorem run_check {x : Int} (c : Bool) (hk : P.underlying k = some (.int .i64)) : (Instr.checkKey c 10000 k (.int .i64 x)).run P w = .ok () w := by
  have h : ∀ n, (Instr.checkKey c (n + 1) k (.int .i64 x)).run P w = .ok () w := fun n => by
    rw [Instr.checkKey]
    simp [run_underlying hk]
  exact h 9999
theorem MapIs.look_some (h : MapIs w b f) (ht : P.underlying t = some (.map k e)) (hk : P.underlying k = some (.int .i64)) {x v : Int} (hx : f x = some v) :
    (Instr.lookup t (.map (some b)) (.int .i64 x) true).run P w = .ok (.tuple #[.int .i64 v, .bool true]) w := by
  obtain ⟨es, c, hb, hi, hl⟩ := h
  obtain ⟨j, e', h1, _⟩ := find_some es.toList x v 0 hi (by rw [hl, hx])
  simp [Instr.lookup, run_underlying ht, MapKept.run_getObj_map hb, run_check _ hk, run_find hk h1, Result.andThen]
theorem MapIs.look_none (h : MapIs w b f) (ht : P.underlying t = some (.map k e)) (hk : P.underlying k = some (.int .i64)) (hz : (zeroValue e).run P w = .ok (.int .i64 0) w) {x : Int} (hx : f x = none) :
    (Instr.lookup t (.map (some b)) (.int .i64 x) true).run P w = .ok (.tuple #[.int .i64 0, .bool false]) w := by
  obtain ⟨es, c, hb, hi, hl⟩ := h
  have h1 := find_none es.toList x 0 hi (by rw [hl, hx])
  simp [Instr.lookup, run_underlying ht, MapKept.run_getObj_map hb, run_check _ hk, run_find hk h1, hz, Result.andThen]
theorem look_modify : ∀ (l : List MapEntry) (j : Nat) (x v : Int) (e : MapEntry), l[j]? = some e → e.key = .int .i64 x → (∀ m, m < j → ∀ e', l[m]? = some e' → e'.key ≠ .int .i64 x) →
    ∀ y, look (l.modify j fun e => { e with key := .int .i64 x, val := .int .i64 v }) y = if y = x then some v else look l y
  | [], j, _, _, _, h, _, _ => by simp at h
  | a :: r, 0, x, v, e, h, he, _ => fun y => by
    simp at h; subst h
    simp only [List.modify_zero_cons, look]
    by_cases hy : y = x
    · subst hy; simp
    · have hn : ¬ Value.int IntKind.i64 x = Value.int IntKind.i64 y := fun e => hy (by injection e with _ e; exact e.symm)
      rw [if_neg hn, he, if_neg hn, if_neg hy]
  | a :: r, j + 1, x, v, e, h, he, hm => fun y => by
    have ha := hm 0 (by omega) a rfl
    simp only [List.modify_succ_cons, look]
    by_cases hay : a.key = .int .i64 y
    · have hyx : y ≠ x := by rintro rfl; exact ha hay
      rw [if_pos hay, if_pos hay, if_neg hyx]
    · rw [if_neg hay, if_neg hay]
      exact look_modify r j x v e (by simpa using h) he (fun m hm' e' he' => hm (m + 1) (by omega) e' (by simpa using he')) y
theorem look_push : ∀ (l : List MapEntry) (x v : Int) (c : Nat), Ints l → look l x = none → ∀ y, look (l ++ [{ key := .int .i64 x, val := .int .i64 v, born := c }]) y = if y = x then some v else look l y
  | [], x, v, c, _, _ => fun y => by
    simp only [List.nil_append, look]
    by_cases hy : y = x
    · subst hy; simp
    · rw [if_neg hy, if_neg (fun e => hy (by injection e with _ e; exact e.symm))]
  | a :: r, x, v, c, hi, h => fun y => by
    obtain ⟨ak, av, ha, hv⟩ := hi a (by simp)
    unfold look at h
    have hax : ¬ a.key = .int .i64 x := by intro e; rw [if_pos e, hv] at h; cases h
    rw [if_neg hax] at h
    simp only [List.cons_append, look]
    by_cases hay : a.key = .int .i64 y
    · rw [if_pos hay, if_pos hay, if_neg (by rintro rfl; exact hax hay)]
    · rw [if_neg hay, if_neg hay]
      exact look_push r x v c (fun e he => hi e (by simp [he])) h y
/-- A store. -/
theorem MapIs.store (h : MapIs w b f) (ht : P.underlying t = some (.map k e)) (hk : P.underlying k = some (.int .i64)) (x v : Int) :
    ∃ w', (Instr.mapUpdate t (.map (some b)) (.int .i64 x) (.int .i64 v)).run P w = .ok () w' ∧ MapIs w' b (fun y => if y = x then some v else f y) ∧ w.grownBy w' (some b) := by
  obtain ⟨es, c, hb, hi, hl⟩ := h
  have hlt : b < w.heap.size := (Array.getElem?_eq_some_iff.1 hb).1
  cases hx : look es.toList x with
  | none =>
    have h1 := find_none es.toList x 0 hi hx
    refine ⟨{ w with heap := w.heap.setIfInBounds b (.map (es.push { key := .int .i64 x, val := .int .i64 v, born := c }) (c + 1)) }, ?_, ⟨es.push { key := .int .i64 x, val := .int .i64 v, born := c }, c + 1, by simp [hlt], ?_, ?_⟩, ⟨rfl, rfl, rfl, by simp, fun i _ hne => by
      rw [Array.getElem?_setIfInBounds_ne]; intro e; exact hne (by rw [e])⟩⟩
    · simp [Instr.mapUpdate, run_underlying ht, MapKept.run_getObj_map hb, run_check _ hk, run_find hk h1, MapKept.run_setObj_map _ hb, Result.andThen]
    · intro e' he'
      simp at he'
      rcases he' with he' | rfl
      · exact hi e' (by simpa using he')
      · exact ⟨x, v, rfl, rfl⟩
    · intro y
      rw [Array.toList_push, look_push _ x v c hi hx, hl]
  | some u =>
    obtain ⟨j, e0, h1, h2, h3, h4⟩ := find_some es.toList x u 0 hi hx
    have h2' : es[j]? = some e0 := by simpa using h2
    have hmod : ∀ y, look (es.modify j fun e => { e with key := .int .i64 x, val := .int .i64 v }).toList y = if y = x then some v else f y := fun y => by
      rw [Array.toList_modify, look_modify es.toList j x v e0 h2 h3 h4, hl]
    refine ⟨{ w with heap := w.heap.setIfInBounds b (.map (es.modify j fun e => { e with key := .int .i64 x, val := .int .i64 v }) c) }, ?_, ⟨_, c, by simp [hlt], ?_, hmod⟩, ⟨rfl, rfl, rfl, by simp, fun i _ hne => by
      rw [Array.getElem?_setIfInBounds_ne]; intro e; exact hne (by rw [e])⟩⟩
    · have hs : Instr.sameBits 10000 (.int .i64 x) (.int .i64 x) = true := by simp [Instr.sameBits]
      simp [Instr.mapUpdate, run_underlying ht, MapKept.run_getObj_map hb, run_check _ hk, run_find hk h1, MapKept.run_setObj_map _ hb, Result.andThen, Instr.keyThatStays, h2', h3, hs]
    · intro e' he'
      rw [Array.toList_modify] at he'
      obtain ⟨m, hm⟩ := List.mem_iff_getElem?.1 he'
      rw [List.getElem?_modify] at hm
      cases hem : es.toList[m]? with
      | none => rw [hem] at hm; simp at hm
      | some e1 =>
        rw [hem] at hm
        by_cases hjm : j = m
        · simp [hjm] at hm; subst hm; exact ⟨x, v, rfl, rfl⟩
        · simp [hjm] at hm; subst hm; exact hi _ (List.mem_of_getElem? hem)
theorem wpList_store {ops : Array Oper} {rest : List Oper} {o : Oper} {a : Act} {Q : Exit → Act → World → Prop} (hg : o.guard = none) (m x v : Operand) (hop : o.op = Op.mapUpdate t m x v)
    (h : MapIs w b f) (ht : P.underlying t = some (.map k e)) (hk : P.underlying k = some (.int .i64)) (xi vi : Int) (hm : a.eval m = .map (some b)) (hx : a.eval x = .int .i64 xi) (hv : a.eval v = .int .i64 vi)
    (hK : ∀ w', MapIs w' b (fun y => if y = xi then some vi else f y) → w.grownBy w' (some b) → wpList P ops Q rest (a.put o.dst undef) w') : wpList P ops Q (o :: rest) a w := by
  refine wpList_plain hg fun K' hK' => ?_
  obtain ⟨w', hrun, r1, r2⟩ := h.store ht hk xi vi
  unfold Oper.wp
  simp [execOp, hop, hm, hx, hv, hrun, Result.andThen]
  exact hK' _ _ (hK w' r1 r2)
end
end Go.Mp
