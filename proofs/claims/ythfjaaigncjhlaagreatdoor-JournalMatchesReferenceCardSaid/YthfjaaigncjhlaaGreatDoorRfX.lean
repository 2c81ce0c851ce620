/- A range over a function whose body may lean on what the iterator hands on next. No condition. -/
import Derived.Test.YthfjaaigncjhlaaGreatDoorRf
namespace Go.Rf
open Go Go.RowKit

/-- The iterator hands on x behind pre only where Nx pre x; all of S, or a part where a round has said 'no more'. -/
def SeqX {α : Type} (n : Nat) (P : Program) (gf : Nat) (lb : Array Value) (encs : α → Array Value) (n0 : Nat) (Nx : List α → α → Prop) (S Sp : List α → Prop) (w : World) : Prop :=
  ∀ (l : Nat) (J Jx : List α → World → Prop) (W : World), Below w.heap.size w W → AbidesFrom W.heap.size J → AbidesFrom W.heap.size Jx →
    (∀ pre x W1, J pre W1 → Nx pre x → YieldAt Fence.wide (n - 1) P l (encs x) W1 fun e W' => (e = .returned (.bool true) ∧ J (pre ++ [x]) W' ∧ Below n0 W1 W') ∨ (e = .returned (.bool false) ∧ Jx (pre ++ [x]) W')) →
    J [] W → CallsIn Fence.wide n P gf (#[.func (.yield l) #[] #[]] ++ lb) W fun e W' => (∃ v, e = .returned v) ∧ ((∃ xs, S xs ∧ J xs W') ∨ (∃ pre, Sp pre ∧ Jx pre W'))

section
variable {P : Program} {α : Type}
/-- The two blocks of the loop's books. -/
structure Books (d : Nat) (r : Loop) (W : World) : Prop where
  loop : W.heap[d + 1]? = some (.loop r)
  mark : W.heap[d]? = some (.deferred (some []))
theorem Books.keep {d : Nat} {r : Loop} {W W' : World} (h : Books d r W) (hk : KeepsFrom d W W') : Books d r W' :=
  ⟨hk.same _ _ (by omega) h.loop rfl, hk.same _ _ (Nat.le_refl _) h.mark rfl⟩
theorem Books.put {d : Nat} {r : Loop} {W : World} (h : Books d r W) (r' : Loop) : Books d r' (W.putObj (d + 1) (.loop r')) :=
  ⟨World.putObj_heap_same (Array.getElem?_eq_some_iff.1 h.loop).1, (World.putObj_heap_other (by omega)).trans h.mark⟩
theorem Books.abide {d : Nat} {r : Loop} {B : Nat} : AbidesFrom B (fun (_ : List α) W => Books d r W) := fun _ _ _ _ h hg hr =>
  ⟨(grownBy_keeps hg (fun r e => (hr r e).2) h.loop rfl).trans h.loop, (grownBy_keeps hg (fun r e => (hr r e).2) h.mark rfl).trans h.mark⟩
theorem own_put {β : Type} {d : Nat} {I : β → World → Prop} (hI : OwnFrom d I) {s : β} {r : Loop} {W : World} (h : Books d r W) (hs : I s W) (r' : Loop) : I s (W.putObj (d + 1) (.loop r')) :=
  hI.putObj _ hs (by omega) h.loop rfl
theorem below_put {n0 d : Nat} {r : Loop} {W : World} (hn : n0 ≤ d) (h : Books d r W) (r' : Loop) : Below n0 W (W.putObj (d + 1) (.loop r')) :=
  (Below.refl n0 W).grown (grownBy_putObj' W (d + 1) _) (by have := (Array.getElem?_eq_some_iff.1 h.loop).1; omega) (fun k e => by cases e; omega)
/-- THE LAW. -/
theorem wp_rangeX (n : Nat) (h1 : 1 ≤ n) {g : Operand} {ps : Array Tmp} {assign body : Code} {Q : Exit → Act → World → Prop} {a : Act} {w : World}
    {gf : Nat} {lb : Array Value} (hg : a.eval g = .func (.func gf) #[] lb) (eg : ∀ args w, (callFunc gf args).run P w = .ok (.enter gf args) w)
    {encs : α → Array Value} {n0 : Nat} {Nx : List α → α → Prop} {S Sp : List α → Prop} (hn0 : n0 ≤ w.heap.size) (hseq : SeqX (n - 1) P gf lb encs n0 Nx S Sp w) (hps : ∀ x, (encs x).size = ps.size)
    (I : List α → World → Prop) (Ix : Code → List α → World → Prop) (hI : OwnFrom w.heap.size I) (hIx : ∀ c, OwnFrom w.heap.size (Ix c)) (h0 : I [] w) (a₁ : α → Act)
    (hassign : ∀ (l : Nat) (x : α) (W : World) (K : Act → World → Prop), K (a₁ x) W →
      assign.wpIn (Fence.wide.inRound l) (n - 1 - 1) P (Exit.then K (fun _ _ _ => False)) { tmps := (ps.zip (encs x)).foldl (fun t (p, v) => t.setIfInBounds p v) a.tmps, defers := [] } W)
    (hbody : ∀ (l : Nat) (pre : List α) (x : α) (W : World), I pre W → Nx pre x → body.wpIn (Fence.wide.inRound l) (n - 1 - 1) P (ownPostG w.heap.size (Below n0) I Ix (pre ++ [x]) W) (a₁ x) W)
    (hdone : ∀ (D : Nat) (xs : List α) (W : World), w.heap.size ≤ D → S xs → I xs W → W.heap[D]? = some (.deferred (some [])) → Q .normal { a with defers := { target := .collected D, args := #[] } :: a.defers } W)
    (hstop : ∀ (D : Nat) (c : Code) (pre : List α) (W : World), w.heap.size ≤ D → Sp pre → Ix c pre W → W.heap[D]? = some (.deferred (some [])) → c.wp P Q { a with defers := { target := .collected D, args := #[] } :: a.defers } W) :
    (Code.rangeFunc g ps assign body).wp P Q a w := by
  refine (wpIn_wide (n := n)).1 (wpIn_rangeFunc fun fn _ => ?_)
  obtain ⟨rc, hrc⟩ : ∃ rc : LoopState → Option Code → Loop, rc = fun st pe => { state := st, pending := pe, fn, tmps := a.tmps, params := ps, assign, body, defers := w.heap.size } := ⟨_, rfl⟩
  have bk : Books w.heap.size (rc .ready none) ((w.alloc (.deferred (some []))).alloc (.loop (rc .ready none))) := ⟨new_at (by simp), old_at (new_at rfl)⟩
  have gr : Below w.heap.size w ((w.alloc (.deferred (some []))).alloc (.loop (rc .ready none))) := ((Below.refl _ w).alloc (Nat.le_refl _) _).alloc (by simp) _
  have far : ∀ (A : World) (row : Option Nat), (∀ r, row = some r → ((w.alloc (.deferred (some []))).alloc (.loop (rc .ready none))).heap.size ≤ r ∧ ∃ o : Obj, A.heap[r]? = some o ∧ o.isWalk = true) → (∀ r, row = some r → w.heap.size ≤ r ∧ ∃ o : Obj, A.heap[r]? = some o ∧ o.isCells = false) :=
    fun _ _ hr r e => ⟨by have := (hr r e).1; simp at this; omega, by obtain ⟨_, o, ho, hw⟩ := hr r e; exact ⟨o, ho, Obj.not_cells_of_walk hw⟩⟩
  obtain ⟨W1, hW1⟩ : ∃ W1, W1 = (w.alloc (.deferred (some []))).alloc (.loop (rc .ready none)) := ⟨_, rfl⟩
  rw [← hW1] at bk gr far
  refine ⟨w.heap.size + 1, [{ target := .collected w.heap.size, args := #[] }], W1, { target := .fn (.func gf) lb, args := #[.func (.yield (w.heap.size + 1)) #[] #[]] }, W1, gf, #[.func (.yield (w.heap.size + 1)) #[] #[]] ++ lb, W1, ?_, ?_, fun _ _ => trivial, ?_, fun _ => h1, ?_⟩
  · rw [hW1, hrc]; exact run_enterLoop_outer _ _ _ _ _
  · simp only [resolve, hg]
    simp [go_sem]
  · simp [invoke, go_sem, eg]
  refine (hseq (w.heap.size + 1) (fun pre W => I pre W ∧ Books w.heap.size (rc .ready none) W) (fun pre W => ∃ c, Ix c pre W ∧ Books w.heap.size (rc .done (some c)) W) _ gr
    (fun s A B row hs hg' hr => ⟨hI s A B row hs.1 hg' (far _ _ hr), Books.abide s A B row hs.2 hg' hr⟩)
    (fun s A B row hs hg' hr => by obtain ⟨c, hc, hb⟩ := hs; exact ⟨c, hIx c s A B row hc hg' (far _ _ hr), Books.abide s A B row hb hg' hr⟩) ?_ ⟨own_below hI h0 gr, bk⟩).mono ?_
  · rintro pre x W ⟨hi, hb⟩ hx
    have hy := run_yield (P := P) (args := encs x) hb.loop (by rw [hrc]; exact hps x)
    rw [hrc] at hy
    refine ⟨fn, _, assign, body, hy, roundIn_of_wpIn trivial (hassign _ x W _ ?_)⟩
    refine ⟨_, run_beginRound hb.loop (by rw [hrc]), ?_⟩
    have hb2 := hb.put { rc .ready none with state := .busy }
    have fin : ∀ (jump : Option Code) (W3 : World), KeepsFrom w.heap.size (W.putObj (w.heap.size + 1) (.loop { rc .ready none with state := .busy })) W3 →
        (Instr.endRound (w.heap.size + 1) jump).run P W3 = .ok (.bool jump.isNone) (W3.putObj (w.heap.size + 1) (.loop (rc (if jump.isNone then .ready else .done) jump))) ∧ Books w.heap.size { rc .ready none with state := .busy } W3 := fun jump W3 hk => by
      have hb3 := hb2.keep hk
      have h9 := run_endRound (P := P) jump hb3.loop
      refine ⟨?_, hb3⟩
      rw [h9, hrc]
    refine wpIn_mono (hbody _ pre x _ (own_put hI hb hi _) hx) ?_
    rintro e a3 W3 hp
    cases e with
    | normal =>
      obtain ⟨hk3, hkp, hi3⟩ := hp
      obtain ⟨hr, hb3⟩ := fin none W3 hk3
      exact ⟨_, _, hr, .inl ⟨rfl, ⟨own_put hI hb3 hi3 _, hb3.put _⟩, ((below_put hn0 hb _).trans hkp).trans (below_put hn0 hb3 _)⟩⟩
    | ret =>
      obtain ⟨hk3, hi3⟩ := hp
      obtain ⟨hr, hb3⟩ := fin (some .ret) W3 hk3
      exact ⟨_, _, hr, .inr ⟨rfl, .ret, own_put (hIx _) hb3 hi3 _, hb3.put _⟩⟩
    | exit id =>
      obtain ⟨hk3, hi3⟩ := hp
      obtain ⟨hr, hb3⟩ := fin (some (.exit id)) W3 hk3
      exact ⟨_, _, hr, .inr ⟨rfl, .exit id, own_put (hIx _) hb3 hi3 _, hb3.put _⟩⟩
    | goto t =>
      obtain ⟨hk3, hi3⟩ := hp
      obtain ⟨hr, hb3⟩ := fin (some (.goto t)) W3 hk3
      exact ⟨_, _, hr, .inr ⟨rfl, .goto t, own_put (hIx _) hb3 hi3 _, hb3.put _⟩⟩
    | panic ch => exact hp.elim
    | outgrown => exact hp.elim
  · rintro e W2 ⟨⟨v, rfl⟩, ⟨xs, hS, hi, hb⟩ | ⟨pre, hSp, c, hi, hb⟩⟩
    · exact ⟨none, _, by have := run_endLoop (P := P) hb.loop (by rw [hrc]; simp); rw [hrc] at this; exact this, hdone _ xs _ (Nat.le_refl _) hS (own_put hI hb hi _) ((hb.put _).mark)⟩
    · exact ⟨some c, _, by have := run_endLoop (P := P) hb.loop (by rw [hrc]; simp); rw [hrc] at this; exact this, wpIn_wide.2 (hstop _ c pre _ (Nat.le_refl _) hSp (own_put (hIx c) hb hi _) ((hb.put _).mark))⟩
end
end Go.Rf
