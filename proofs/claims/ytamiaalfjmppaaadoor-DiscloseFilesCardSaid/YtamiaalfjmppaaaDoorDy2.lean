/- Package file: Open; files as arguments. Condition: at most 1000 facts and orders. -/
import Derived.Test.YtamiaalfjmppaaaDoorDy1
import Derived.Test.YtamiaalfjmppaaaDoorOpl
namespace Go.Proofs.YtamiaalfjmppaaaDoor
open Go.RowKit Go.Blk Go.Sg Go.Opn Go.Di Go.Apl Go.Rf Go.ChangeShapes Go.WideShapes Go.Deep Go.OpenShut

theorem cellsBef : Tryd.prog.cellsOf 121 = 2 := by kernel_rfl
theorem cellsFile : Tryd.prog.cellsOf 63 = 3 := by kernel_rfl
theorem bef_of {H : Type} {enc : TypeId × Value → H} {w : World} {base : Nat} {spare : Nat → Bool} {held : Bool} {fuel : Nat} {cs : List Value} {x : DataW H × List MemPlace} (h : DataW.trod enc Tryd.prog w base spare held fuel 121 cs = some x) :
    ∃ a : Int × Int, True ∧ ∀ (p : Nat) u, (encBf a)[p]? = some u → cs[p]? = some u := by
  obtain ⟨k, hk, _⟩ := leaf_int (f := 3) (p := 0) Tryd.underlying3 (by kernel_rfl) h
  obtain ⟨s, hs, _⟩ := leaf_int (f := 3) (p := 1) Tryd.underlying3 (by kernel_rfl) h
  refine ⟨(k, s), trivial, fun p u hu => ?_⟩
  match p, hu with
  | 0, hu => cases hu; exact hk
  | 1, hu => cases hu; exact hs
  | p + 2, hu => simp [encBf] at hu
set_option maxRecDepth 100000 in
theorem open_file {H : Type} {enc : TypeId × Value → H} {w : World} {base : Nat} {spare : Nat → Bool} {held : Bool} {v : Value} {d : DataW H} {ps : List MemPlace} {r : Reach} {b0 : Nat} (hv : Value.okWide Tryd.prog w r b0 63 v) (h : DataW.Trod enc Tryd.prog w base spare held 63 v d ps) :
    ∃ (x : Int) (A B : Option Addr) (c d : Nat) (l : List Fac) (os : List (Int × Int)), v = .agg #[.int .i64 x, .slice A l.length c, .slice B os.length d] ∧ l.length ≤ 9223372036854775807 ∧ os.length ≤ 9223372036854775807 ∧ l.length ≤ c ∧ os.length ≤ d ∧ SL w 6 encF A l ∧ SL w 2 encBf B os ∧ ∀ a ∈ l, a.Ok := by
  obtain ⟨cs, rfl, hsz⟩ := okWide_struct Tryd.underlying63 hv
  rw [cellsFile] at hsz
  obtain ⟨fuel, hf⟩ := h
  obtain ⟨a0, h0, w0⟩ := leaf_int (f := 3) (p := 0) Tryd.underlying3 (by kernel_rfl) hf
  obtain ⟨A, c, l, h1, e1, e2, e3, e4⟩ := leaf_list (α := Fac) (ec := encF) (K := fun a => a.Ok) (f := 3) (p := 1) Tryd.underlying22 (by rw [cellsFact]; decide) (fun f cs x h => fact_of h) (by kernel_rfl) hf
  obtain ⟨B, d, os, h2, f1, f2, f3, _⟩ := leaf_list (α := Int × Int) (ec := encBf) (K := fun _ => True) (f := 3) (p := 2) Tryd.underlying61 (by rw [cellsBef]; decide) (fun f cs x h => bef_of h) (by kernel_rfl) hf
  rw [cellsFact] at e3
  rw [cellsBef] at f3
  refine ⟨a0, A, B, c, d, l, os, ?_, e1, f1, e2, f2, e3, f3, e4⟩
  congr 1
  apply Array.ext'
  show cs.toList = [.int .i64 a0, .slice A l.length c, .slice B os.length d]
  apply List.ext_getElem?
  intro i
  match i with
  | 0 => exact h0
  | 1 => exact h1
  | 2 => exact h2
  | i + 3 => rw [List.getElem?_eq_none (by simp; omega), List.getElem?_eq_none (by simp)]
theorem open1_any (x : Fac) (w : World) : Calls Tryd.prog 61 #[.agg (encF x).toArray] w fun e w' => e = .returned (.bool (!x.secret)) ∧ Below w.heap.size w w' := by
  obtain ⟨xr, xa, xl, xh, xf, xs⟩ := x
  rw [show encF ⟨xr, xa, xl, xh, xf, xs⟩ = [.int .i64 xr, .int .i64 xa, .int .i64 xl, .int .i64 xh, .int .i64 xf, .bool xs] from rfl]
  go_enter Tryd.func61, Tryd.ntmps61
  go_wp2_with fail
  go_ret
  exact ⟨rfl, (Below.refl _ _).alloc (Nat.le_refl _) _⟩
theorem enters1 (args : Array Value) (w : World) : Sem.run Tryd.prog (callFunc 61 args) w = .ok (.enter 61 args) w := by
  have h := Tryd.func61
  simp [callFunc, h, Tryd.f61, go_sem]
theorem cell_blk {w w' : World} {b o : Nat} (h : w'.heap[b]? = w.heap[b]?) : w'.cell? ⟨b, o, none⟩ = w.cell? ⟨b, o, none⟩ := by
  unfold World.cell?
  rw [h]
/-- A slice of facts does not lie in a block of less than six cells. -/
theorem sl_off {w w' : World} {A : Option Addr} {l : List Fac} {b : Nat} {cs : List Value} {T : TypeId} (h : SL w 6 encF A l) (hb : Blk w b cs T) (hk : ∀ g, g ≠ b → w'.heap[g]? = w.heap[g]?) (hl : cs.length < 6) : SL w' 6 encF A l := by
  refine ⟨fun hn => ?_⟩
  obtain ⟨g, off, rfl, hc⟩ := h.cells hn
  have hne : g ≠ b := by
    rintro rfl
    obtain ⟨x, hx⟩ : ∃ x, l[0]? = some x := ⟨_, List.getElem?_eq_getElem (List.length_pos_iff.2 hn)⟩
    have h5 := hc 0 x hx 5 (.bool x.secret) rfl
    unfold Blk at hb
    simp only [World.cell?, hb] at h5
    simp only [List.getElem?_toArray] at h5
    have := (List.getElem?_eq_some_iff.1 h5).1
    omega
  exact ⟨g, off, rfl, fun i e hi p u hu => (cell_blk (hk g hne)).trans (hc i e hi p u hu)⟩
/-- The facts of an open file. -/
def openF (l : List Fac) : List Fac := l.filter (fun x => !x.secret)
def OpPost (house : Int) (l : List Fac) (w : World) (e : Ending) (w' : World) : Prop :=
  (∃ A' c' B' n d', e = .returned (.agg #[.int .i64 house, .slice A' (openF l).length c', .slice B' n d']) ∧ (openF l).length ≤ c' ∧ SL w' 6 encF A' (openF l)) ∧ Below w.heap.size w w'
set_option maxRecDepth 100000 in
theorem open_any (house : Int) (A B : Option Addr) (c d : Nat) (l : List Fac) (os : List (Int × Int)) (w : World) (hl : l.length ≤ 4000) (hlo : os.length ≤ 4000) (hs1 : SL w 6 encF A l) (hs2 : SL w 2 encBf B os) (ho : ∀ x ∈ l, x.Ok) :
    Calls Tryd.prog 35 #[.agg #[.int .i64 house, .slice A l.length c, .slice B os.length d]] w (OpPost house l w) := by
  obtain ⟨R, eR⟩ : ∃ R, R = OpPost house l w := ⟨_, rfl⟩
  rw [← eR]
  have FIN : Hid (∀ A' c' B' n d' w', (openF l).length ≤ c' → SL w' 6 encF A' (openF l) → Below w.heap.size w w' → R (.returned (.agg #[.int .i64 house, .slice A' (openF l).length c', .slice B' n d'])) w') := fun A' c' B' n d' w' h1 h2 h3 => by
    rw [eR]; exact ⟨⟨A', c', B', n, d', rfl, h1, h2⟩, h3⟩
  have HS1 := Lib.hid hs1
  have HS2 := Lib.hid hs2
  have CP : Hid (∀ w', Below w.heap.size w w' → Calls Tryd.prog 60 #[.agg #[.int .i64 house, .slice A l.length c, .slice B os.length d], .func (.func 61) #[] #[]] w' fun e w2 => (∃ A' c' B' n d', e = .returned (.agg #[.int .i64 house, .slice A' (openF l).length c', .slice B' n d']) ∧ (openF l).length ≤ c' ∧ SL w2 6 encF A' (openF l)) ∧ Below w'.heap.size w' w2) := fun w' hb => by
    refine (part_any house A B c d l os 61 #[] (fun x => !x.secret) w' hl hlo (HS1.out.below hb (Nat.le_refl _)) (HS2.out.below hb (Nat.le_refl _)) ho enters1 (fun x _ w2 _ => open1_any x w2)).mono ?_
    rintro e w2 ⟨⟨A', c', B', d', rfl, h1, _, h2, _⟩, hb⟩
    exact ⟨⟨A', c', B', _, d', rfl, h1, h2⟩, hb⟩
  obtain ⟨o, eo⟩ : ∃ o, o = openF l := ⟨_, rfl⟩
  rw [← eo] at CP FIN
  clear eR hs1 hs2 ho eo
  go_enter Tryd.func35, Tryd.ntmps35
  go_wp2_with fail
  obtain ⟨V, eV⟩ : ∃ V, V = (w.alloc (.cells #[.int .i64 house, .slice A l.length c, .slice B os.length d] 63)).alloc (.cells #[.int .i64 0, .slice none 0 0, .slice none 0 0] 63) := ⟨_, rfl⟩
  have HBV : Hid (Below w.heap.size w V) := by rw [eV]; exact ((Below.refl _ w).alloc (Nat.le_refl _) _).alloc (by simp) _
  have hres : Blk V (w.heap.size + 1) [.int .i64 0, .slice none 0 0, .slice none 0 0] 63 := by rw [eV]; exact Blk.made (by simp) rfl
  rw [← eV]
  clear eV
  refine (CP.out _ HBV.out).mono ?_
  rintro e w1 ⟨⟨A', c', B', n, d', rfl, h1, h2⟩, hb⟩
  have HB1 := Lib.hid (HBV.out.trans (hb.mono HBV.out.size))
  have HR1 := Lib.hid (hres.below hb hres.lt)
  have HC := Lib.hid h1
  have HSL := Lib.hid h2
  clear hb hres h1 h2 CP
  have g1 : (#[Value.int .i64 house, .slice A' o.length c', .slice B' n d'].all (·.oneCell')) = true := by simp [Value.oneCell']
  have g2 : (Tryd.prog.info? 63).map (·.size) = some (#[Value.int .i64 house, .slice A' o.length c', .slice B' n d'] : Array Value).size := by kernel_rfl
  have G1 := Lib.hid g1
  have G2 := Lib.hid g2
  clear g1 g2
  go_wp2_with (refine wpList_store_row rfl 63 (.tmp 2) (.tmp 4) rfl (w.heap.size + 1) #[.int .i64 house, .slice A' o.length c', .slice B' n d'] rfl rfl 63 #[.int .i64 0, .slice none 0 0, .slice none 0 0] HR1.out G2.out rfl G1.out ?_)
  have hset := setRow_heap w1 (w.heap.size + 1) #[.int .i64 0, .slice none 0 0, .slice none 0 0] #[.int .i64 house, .slice A' o.length c', .slice B' n d'] 63 (0, 0) HR1.out
  refine bodyPost_ret (v := .agg #[.int .i64 house, .slice A' o.length c', .slice B' n d']) (results_cell_row (fn := Tryd.f35) (p := 2) (ty := 63) rfl _ _ (w.heap.size + 1) 63 #[.int .i64 house, .slice A' o.length c', .slice B' n d'] (0, 0) _ rfl hset Tryd.underlying63 rfl (by kernel_rfl)) rfl ?_
  have hoth : ∀ g, g ≠ w.heap.size + 1 → (w1.setRow (w.heap.size + 1) #[.int .i64 house, .slice A' o.length c', .slice B' n d']).heap[g]? = w1.heap[g]? := fun g hg => by
    simp only [World.setRow, Array.getElem?_modify]; rw [if_neg (Ne.symm hg)]
  refine FIN.out A' c' B' n d' _ HC.out (sl_off HSL.out HR1.out (fun g hg => hoth g hg) (by decide)) ?_
  exact HB1.out.grown (row := some (w.heap.size + 1)) ⟨rfl, rfl, rfl, by simp [World.setRow], fun g _ hg => hoth g (fun e => hg (by rw [e]))⟩ HB1.out.size (fun j e => by cases e; omega)
end Go.Proofs.YtamiaalfjmppaaaDoor
