/- Arguments of the laws of layer 34 opened: lists of texts, claims. No condition. -/
import Derived.Test.YtamiaalfjmppaaaDoorDh2
import Derived.Test.YtamiaalfjmppaaaDoorOpl
namespace Go.Proofs.YtamiaalfjmppaaaDoor
open Go.RowKit Go.Blk Go.Sg Go.Opn Go.Di Go.ChangeShapes Go.WideShapes Go.Deep Go.OpenShut

theorem box2 (w : World) (la lb : List Value) (T : TypeId) : Blk ((w.alloc (.cells la.toArray T)).alloc (.cells lb.toArray T)) w.heap.size la T ∧
    Blk ((w.alloc (.cells la.toArray T)).alloc (.cells lb.toArray T)) (w.heap.size + 1) lb T ∧ Below w.heap.size w ((w.alloc (.cells la.toArray T)).alloc (.cells lb.toArray T)) := by
  refine ⟨Blk.alloc (Blk.new w la T) _, ?_, (((Below.refl _ w).alloc (Nat.le_refl _) _).alloc (by simp) _)⟩
  have := Blk.new (w.alloc (.cells la.toArray T)) lb T
  simpa using this
theorem unwanted2 {o : Oper} {ops : Array Oper} {a : Act} {j t : Nat} {b b' : Bool} (hg : o.guard = some (j, b')) (hj : (ops[j]?).bind (·.dst) = some t) (ht : a.tmps[t]? = some (.bool b)) (hne : (b == b') = false) : Region.wanted o (yielded ops a.tmps) = false := by
  unfold Region.wanted yielded
  rw [hg]
  simp only [hj, Option.bind_some, ht]
  exact hne
theorem cellsStr1 : Tryd.prog.cellsOf 9 = 1 := by kernel_rfl
theorem text_of {H : Type} {enc : TypeId × Value → H} {w : World} {base : Nat} {spare : Nat → Bool} {held : Bool} {fuel : Nat} {cs : List Value} {x : DataW H × List MemPlace} (h : DataW.trod enc Tryd.prog w base spare held fuel 9 cs = some x) :
    ∃ a : ByteArray, a.size ≤ 9223372036854775807 ∧ ∀ (p : Nat) u, (encS a)[p]? = some u → cs[p]? = some u := by
  obtain ⟨n, rfl, _, hs⟩ := DataW.trod_string Tryd.underlying9 h
  unfold maxLen at hs
  refine ⟨n, hs, fun p u hu => ?_⟩
  match p, hu with
  | 0, hu => exact hu
  | p + 1, hu => simp [encS] at hu
instance : Inhabited ByteArray := ⟨⟨#[]⟩⟩
set_option maxRecDepth 100000 in
theorem open_texts {H : Type} {enc : TypeId × Value → H} {w : World} {base : Nat} {spare : Nat → Bool} {held : Bool} {v : Value} {d : DataW H} {ps : List MemPlace} {r : Reach} {b0 : Nat} (hv : Value.okWide Tryd.prog w r b0 23 v) (h : DataW.Trod enc Tryd.prog w base spare held 23 v d ps) :
    ∃ (A : Option Addr) (c : Nat) (l : List ByteArray), v = .slice A l.length c ∧ l.length ≤ 9223372036854775807 ∧ l.length ≤ c ∧ SL w 1 encS A l ∧ ∀ a ∈ l, a.size ≤ 9223372036854775807 := by
  obtain ⟨f, x, hf⟩ := one_of Tryd.underlying23 hv h
  have := open_list (α := ByteArray) (ec := encS) (K := fun a => a.size ≤ 9223372036854775807) Tryd.underlying23 (by rw [cellsStr1]; decide) (fun f cs x h => text_of h) hf
  rw [cellsStr1] at this
  exact this
/-- A claim, but for its proof. -/
structure Clm where
  n : Int
  i : Int
  x : Fac
  s : ByteArray
  r : ByteArray
structure Clm.Ok (c : Clm) : Prop where
  n0 : -9223372036854775808 ≤ c.n
  n1 : c.n ≤ 9223372036854775807
  i0 : -9223372036854775808 ≤ c.i
  i1 : c.i ≤ 9223372036854775807
  x : c.x.Ok
  s : c.s.size ≤ 9223372036854775807
  r : c.r.size ≤ 9223372036854775807
def encC (c : Clm) (p : Value) : List Value := .int .i64 c.n :: .int .i64 c.i :: (encF c.x ++ [.string c.s, .string c.r, p])
theorem cellsClaim : Tryd.prog.cellsOf 50 = 11 := by kernel_rfl
theorem encC_len (c : Clm) (p : Value) : (encC c p).length = 11 := rfl
set_option maxRecDepth 100000 in
theorem open_claim {H : Type} {enc : TypeId × Value → H} {w : World} {base : Nat} {spare : Nat → Bool} {held : Bool} {v : Value} {d : DataW H} {ps : List MemPlace} {r : Reach} {b0 : Nat} (hv : Value.okWide Tryd.prog w r b0 50 v) (h : DataW.Trod enc Tryd.prog w base spare held 50 v d ps) :
    ∃ (x : Clm) (A : Option Addr) (c : Nat) (l : List ByteArray), v = .agg (encC x (.slice A l.length c)).toArray ∧ x.Ok ∧ l.length ≤ 9223372036854775807 ∧ l.length ≤ c ∧ SL w 1 encS A l ∧ ∀ a ∈ l, a.size ≤ 9223372036854775807 := by
  obtain ⟨cs, rfl, hsz⟩ := okWide_struct Tryd.underlying50 hv
  rw [cellsClaim] at hsz
  obtain ⟨fuel, hf⟩ := h
  obtain ⟨a0, h0, w0⟩ := leaf_int (f := 3) (p := 0) Tryd.underlying3 (by kernel_rfl) hf
  obtain ⟨a1, h1, w1⟩ := leaf_int (f := 3) (p := 1) Tryd.underlying3 (by kernel_rfl) hf
  obtain ⟨a2, h2, w2⟩ := leaf_int (f := 3) (p := 2) Tryd.underlying3 (by kernel_rfl) hf
  obtain ⟨a3, h3, w3⟩ := leaf_int (f := 3) (p := 3) Tryd.underlying3 (by kernel_rfl) hf
  obtain ⟨a4, h4, w4⟩ := leaf_int (f := 3) (p := 4) Tryd.underlying3 (by kernel_rfl) hf
  obtain ⟨a5, h5, w5⟩ := leaf_int (f := 3) (p := 5) Tryd.underlying3 (by kernel_rfl) hf
  obtain ⟨a6, h6, w6⟩ := leaf_int (f := 3) (p := 6) Tryd.underlying3 (by kernel_rfl) hf
  obtain ⟨a7, h7⟩ := leaf_bool (f := 3) (p := 7) Tryd.underlying4 (by kernel_rfl) hf
  obtain ⟨a8, h8, w8⟩ := leaf_string (f := 3) (p := 8) Tryd.underlying9 (by kernel_rfl) hf
  obtain ⟨a9, h9, w9⟩ := leaf_string (f := 3) (p := 9) Tryd.underlying9 (by kernel_rfl) hf
  obtain ⟨A, c, l, h10, e1, e2, e3, e4⟩ := leaf_list (α := ByteArray) (ec := encS) (K := fun a => a.size ≤ 9223372036854775807) (f := 3) (p := 10) Tryd.underlying23 (by rw [cellsStr1]; decide) (fun f cs x h => text_of h) (by kernel_rfl) hf
  rw [cellsStr1] at e3
  obtain ⟨b00, b01⟩ := bounds_i64 w0
  obtain ⟨b10, b11⟩ := bounds_i64 w1
  obtain ⟨b20, b21⟩ := bounds_i64 w2
  obtain ⟨b30, b31⟩ := bounds_i64 w3
  obtain ⟨b40, b41⟩ := bounds_i64 w4
  obtain ⟨b50, b51⟩ := bounds_i64 w5
  obtain ⟨b60, b61⟩ := bounds_i64 w6
  unfold maxLen at w8 w9
  refine ⟨⟨a0, a1, ⟨a2, a3, a4, a5, a6, a7⟩, a8, a9⟩, A, c, l, ?_, ⟨b00, b01, b10, b11, ⟨b20, b21, b30, b31, b40, b41, b50, b51, b60, b61⟩, w8, w9⟩, e1, e2, e3, e4⟩
  congr 1
  apply Array.ext'
  show cs.toList = encC ⟨a0, a1, ⟨a2, a3, a4, a5, a6, a7⟩, a8, a9⟩ (.slice A l.length c)
  apply List.ext_getElem?
  intro i
  match i with
  | 0 => exact h0
  | 1 => exact h1
  | 2 => exact h2
  | 3 => exact h3
  | 4 => exact h4
  | 5 => exact h5
  | 6 => exact h6
  | 7 => exact h7
  | 8 => exact h8
  | 9 => exact h9
  | 10 => exact h10
  | i + 11 => rw [List.getElem?_eq_none (by simp; omega), List.getElem?_eq_none (by rw [encC_len]; omega)]
theorem claim_fac {w : World} {b : Nat} {x : Clm} {v : Value} (h : Blk w b (encC x v) 50) : ∀ p u, (encF x.x)[p]? = some u → w.cell? ⟨b, 2 + p, none⟩ = some u := fun p u hu => by
  rw [Nat.add_comm]
  refine h.cellD (p + 2) u ?_
  have hp6 : p < (encF x.x).length := (List.getElem?_eq_some_iff.1 hu).1
  show (encF x.x ++ _)[p]? = _
  rw [List.getElem?_append_left hp6]; exact hu
theorem leafT_size (x : Fac) (s : ByteArray) (hx : x.Ok) (h1 : s.size ≤ 900000000) : (leafT x s).size ≤ 1000000000 := by
  have hs := bdP_size hx 6
  have s1 := dec_size (s.size : Int) (by omega) (by omega)
  have e : (leafT x s).size = 4 + 1 + (dec (s.size : Int)).size + 1 + s.size + (bdF x).size := by unfold leafT tagT; rw [ba_size, ba_size, ba_size, ba_size, ba_size]; rfl
  have : (bdF x).size = (bdP x 6).size := rfl
  omega
end Go.Proofs.YtamiaalfjmppaaaDoor
