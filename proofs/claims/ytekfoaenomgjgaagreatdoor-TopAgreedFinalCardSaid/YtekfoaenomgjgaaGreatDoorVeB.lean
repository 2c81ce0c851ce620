/- Package version: slices.SortFunc of amendments with their places. No condition. -/
import Derived.Test.YtekfoaenomgjgaaGreatDoorVeA
set_option linter.unusedSimpArgs false
set_option linter.unusedVariables false
namespace Go.Cs
open Go
instance : Inhabited Pl := ⟨((⟨⟨0, 0, 0, 0, 0, Pat.zero, ByteArray.empty⟩, ⟨none, 0, none, 0⟩, ByteArray.empty, 0⟩, ⟨none, 0, none, 0⟩), 0)⟩
/-- The one is ahead of the other. -/
def Pl.lt (x y : Pl) : Prop := x.1.1.x.day < y.1.1.x.day ∨ (x.1.1.x.day = y.1.1.x.day ∧ (x.1.1.x.number < y.1.1.x.number ∨ (x.1.1.x.number = y.1.1.x.number ∧ x.2 < y.2)))
theorem cmpI_lt (a b : Int) : cmpI a b < 0 ↔ a < b := by unfold cmpI; split <;> (try split) <;> omega
theorem cmpI_eq (a b : Int) : cmpI a b = 0 ↔ a = b := by unfold cmpI; split <;> (try split) <;> omega
theorem cmpP_lt (x y : Pl) : cmpP x y < 0 ↔ x.lt y := by
 unfold cmpP Pl.lt
 simp only [orI]
 have h1 := cmpI_lt x.1.1.x.day y.1.1.x.day
 have h2 := cmpI_eq x.1.1.x.day y.1.1.x.day
 have h3 := cmpI_lt x.1.1.x.number y.1.1.x.number
 have h4 := cmpI_eq x.1.1.x.number y.1.1.x.number
 have h5 := cmpI_lt x.2 y.2
 have h6 := cmpI_eq x.2 y.2
 split
 ·split
  ·split <;> omega
  ·omega
 ·omega
end Go.Cs
namespace Go.Proofs.YtekfoaenomgjgaaGreatDoor
open Go.RowKit Go.W32 Go.Blk Go.Cs Go.Lib Go.Opn Go.Mg

theorem ltP (x y : Pl) : ltOf cmpP x y = true ↔ x.lt y := by
 unfold ltOf
 rw [decide_eq_true_eq, cmpP_lt]
theorem swoP : Sort.SWO (ltOf cmpP) where
 irrefl x := by
  rw [Bool.eq_false_iff, ne_eq, ltP]; unfold Pl.lt; omega
 trans x y z h1 h2 := by rw [ltP] at *; unfold Pl.lt at *; omega
 ntrans x y z h1 h2 := by
  rw [Bool.eq_false_iff, ne_eq, ltP] at *; unfold Pl.lt at *; omega
theorem entersP (args : Array Value) (w : World) : (callFunc 97 args).run Tryz.prog w = .ok (.enter 97 args) w := enters_of Tryz.func97 (by kernel_rfl) rfl args w
/-- What the sort leaves. -/
def SoPost (pl : List Pl) (v : Value) (W : World) (e : Ending) (w' : World) : Prop :=
 e = .returned (.tuple #[]) ∧ W.grownBy w' v.ownBlock ∧ ∃ pl' A c, v = .slice A pl.length c ∧ pl'.Perm pl ∧ pl'.Pairwise (fun a b => ¬ b.lt a) ∧ SL w' 23 encPl A pl'
set_option maxHeartbeats 1000000 in
theorem sp_any (pl : List Pl) (base : Nat) (v : Value) (W : World) (h : W.ownsRow base 169 23 v pl.length (pl.flatMap encPl)) (hl : pl.length ≤ 4000) :
  Calls Tryz.prog 96 #[v, .func (.func 97) #[] #[]] W (SoPost pl v W) := by
 by_cases h0 : pl = []
 ·subst h0
  obtain ⟨A, c, rfl⟩ := owns_form h
  refine (AnyF.slices_SortFunc_none Tryz.sfp A c _ W).mono ?_
  rintro e w' ⟨rfl, rfl⟩
  exact ⟨rfl, ⟨rfl, rfl, rfl, Nat.le_refl _, fun _ _ _ => rfl⟩, [], A, c, rfl, List.Perm.refl _, List.Pairwise.nil, SL.nil⟩
 obtain ⟨g, cap, cur, rfl, hb, hg, hn1, hm, ht, _⟩ := Apl.own_at (ec := encPl) encPl_len h h0
 have hlen : pl.toArray.size = pl.length := by simp
 have hlt : g < W.heap.size := (Array.getElem?_eq_some_iff.1 hg).1
 have hH : Sort.HoldsK encPl 23 W g 0 pl.toArray := by
  intro j hj
  rw [Sort.size_flatK] at hj
  rw [Sort.get_flatK _ _ _ _ hj, Nat.zero_add]
  refine ⟨?_, by simp [World.frozen?, hg]⟩
  have hj2 : j < pl.length * 23 := by rw [← hlen]; exact hj
  have hdiv : j / 23 < pl.length := by omega
  have e1 : (pl.flatMap encPl)[j]? = some (encPl pl[j / 23]!)[j % 23]! := by
   have := Apl.flat_at (ec := encPl) encPl_len pl (j / 23) pl[j / 23] (j % 23) (encPl pl[j / 23])[j % 23]! (List.getElem?_eq_getElem hdiv) (by
    rw [getElem!_pos (encPl pl[j / 23]) (j % 23) (Nat.mod_lt _ (by decide))]
    exact List.getElem?_eq_getElem _)
   rw [show j / 23 * 23 + j % 23 = j by omega] at this
   rw [this, getElem!_pos pl (j / 23) hdiv]
  rw [← ht, List.getElem?_take, if_pos hj2] at e1
  have e2 : pl.toArray[j / 23]! = pl[j / 23]! := by simp
  rw [e2]
  simp only [World.cell?, hg]
  simp only [Option.isSome_none, Bool.false_eq_true, if_false]
  simpa using e1
 have C := AnyQ.slices_SortFunc Tryz.sfp 23 Tryz.isAgg169 Tryz.sizeOf169 encPl encPl_len (fun x v hv => encPl_one _ v hv) cmpP swoP 97 #[] g 0 cap pl.toArray W entersP (fun m os dk _ x y => pc_any x y _) hH hlt (by rw [hlen]; omega)
 rw [hlen] at C
 refine C.mono ?_
 rintro e w' ⟨rfl, d', m, os, hp, hs, rfl⟩
 have hsz : d'.size = pl.length := hp.1.trans hlen
 have hH2 := Go.Proofs.holdsK_sortWorldK_c encPl 23 W g 0 pl.toArray d' m os hH hlt hp.1
 refine ⟨rfl, ⟨rfl, rfl, rfl, Go.Proofs.size_sortWorldK_c encPl 23 W g 0 m d' os, fun k hk hne => ?_⟩, d'.toList, some ⟨g, 0, none⟩, cap, rfl, ?_, ?_, ?_⟩
 ·have hkg : g ≠ k := fun e => hne (by rw [e]; rfl)
  unfold sortWorldK
  rw [Sort.heap_grow_old _ _ (by unfold Sort.putRowK; rw [Sort.size_putRow]; exact hk)]
  simp [Sort.putRowK, Sort.putRow, Sort.mapBlock, Sort.ahead, Array.getElem?_modify, hkg]
 ·have h3 := hp.2.2
  have h4 : d'.extract 0 pl.length = d' := by rw [← hsz]; simp
  have h5 : pl.toArray.extract 0 pl.length = pl.toArray := by rw [← hlen]; simp
  rw [h4, h5] at h3
  exact h3
 ·rw [List.pairwise_iff_getElem]
  intro i j hi hj hij
  have h3 := hs i j (Nat.zero_le _) hij (by rw [← hsz]; simpa using hj)
  have hi' : i < d'.size := by simpa using hi
  have hj' : j < d'.size := by simpa using hj
  rw [getElem!_pos d' i hi', getElem!_pos d' j hj', Bool.eq_false_iff, ne_eq, ltP] at h3
  rw [Array.getElem_toList, Array.getElem_toList]
  exact h3
 ·refine ⟨fun _ => ⟨g, 0, rfl, fun j x hj p u hu => ?_⟩⟩
  have hjl : j < d'.size := by have := (List.getElem?_eq_some_iff.1 hj).1; simpa using this
  have hpl : p < 23 := (List.getElem?_eq_some_iff.1 hu).1
  have h3 := (hH2.cell hjl hpl).1
  have hy' : d'[j]! = x := by
   rw [getElem!_pos d' j hjl]
   have := (List.getElem?_eq_some_iff.1 hj).2
   simpa using this
  rw [hy'] at h3
  have hu' : (encPl x)[p]! = u := by
   rw [getElem!_pos (encPl x) p hpl]
   exact (List.getElem?_eq_some_iff.1 hu).2
  rw [hu', Nat.add_assoc] at h3
  exact h3
end Go.Proofs.YtekfoaenomgjgaaGreatDoor
