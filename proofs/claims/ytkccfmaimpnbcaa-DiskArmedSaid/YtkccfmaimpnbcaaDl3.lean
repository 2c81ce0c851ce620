/- The statements on package disk: contents, same. -/
import Derived.Test.YtkccfmaimpnbcaaDl2
import Derived.Deep.AppendLies
namespace Go.Proofs.Ytkccfmaimpnbcaa
open Go.RowKit Go.Blk Go.Dk Go.Mp Go.Opn

def encS (s : ByteArray) : List Value := [.string s]
theorem text_len {n : Nat} {d : DD} (h : d.Ok n) {s : Nat} (hs : s < n) : (d.text s).length = 32 := by
  unfold DD.text
  cases hl : lastOf d.pend (s : Int) with
  | some j =>
    obtain ⟨m, x, rfl, hx, _⟩ := lastOf_some hl
    simp [hx, (h.sec m x hx).2]
  | none => simp [h.len]; omega
/-- What a disk that is on contains. -/
def conts (n : Nat) (d : DD) : List ByteArray := (List.range n).map fun i => ⟨(d.text i).toArray⟩
theorem conts_len (n : Nat) (d : DD) : (conts n d).length = n := by simp [conts]
theorem conts_take (n : Nat) (d : DD) (k : Nat) (hk : k < n) : (conts n d).take (k + 1) = (conts n d).take k ++ [⟨(d.text k).toArray⟩] := by
  rw [List.take_succ_eq_append_getElem (by rw [conts_len]; exact hk)]
  simp [conts]
theorem infoS : (Try.prog.info? 9).map (fun i => (i.zero, i.size, i.bytes)) = some (some (.string ⟨#[]⟩), 1, 16) := by kernel_rfl
/-- A row of strings that the call owns reads as a list. -/
theorem sl_of_own {w : World} {base : Nat} {A : Option Addr} {m c : Nat} {l : List ByteArray} (h : w.ownsRow base 9 1 (.slice A m c) m (l.map Value.string)) : SL w 1 encS A l := by
  refine ⟨fun hn => ?_⟩
  have hlen : l.length = m := by have := h.1; simpa using this
  have hm : 0 < m := by rw [← hlen]; exact List.length_pos_iff.2 hn
  rcases h.2 with ⟨_, h0⟩ | ⟨g, cap, cur, e, _⟩
  · omega
  · injection e with e1
    subst e1
    refine ⟨g, 0, rfl, fun i s hi p u hu => ?_⟩
    have hp : p = 0 ∧ u = .string s := by
      cases p with
      | zero => simp [encS] at hu; exact ⟨rfl, hu.symm⟩
      | succ p => simp [encS] at hu
    obtain ⟨rfl, rfl⟩ := hp
    have := h.cells (g := g) rfl i (.string s) (by rw [List.getElem?_map, hi]; rfl)
    rw [addr_add] at this
    simpa using this
def RC (w : World) (b bs bm n : Nat) (pv : Value) (d : DD) (v i : Value) (wr : World) : Prop :=
  ∃ k : Nat, k ≤ n ∧ i = .int .i64 k ∧ wr.ownsRow w.heap.size 9 1 v k (((conts n d).take k).map Value.string) ∧ DiskAt wr b bs bm pv d n ∧ Below w.heap.size w wr
def ContPost (w : World) (n : Nat) (d : DD) (e : Ending) (w' : World) : Prop :=
  ∃ A c, e = .returned (.tuple #[.slice A n c, .bool true]) ∧ w'.ownsRow w.heap.size 9 1 (.slice A n c) n ((conts n d).map Value.string) ∧ Below w.heap.size w w'
section
variable {w : World} {b bs bm n : Nat} {pv : Value} {d : DD}
set_option maxRecDepth 100000 in
set_option maxHeartbeats 1000000 in
theorem cont_any (h : DiskAt w b bs bm pv d n) (hon : d.on = true) : Calls Try.prog 13 #[.pointer (some ⟨b, 0, none⟩), .int .i64 n] w (ContPost w n d) := by
  obtain ⟨i0, hi0, hz0, hz1, hz2⟩ := info_parts infoS
  have HI := Lib.hid hi0
  have HZ0 := Lib.hid hz0
  have HZ1 := Lib.hid hz1
  have HZ2 := Lib.hid hz2
  have hn2 := h.ok.n2
  have HON := Lib.hid hon
  have HLT : Hid (∀ q, Fp b bs bm pv q → q < w.heap.size) := fun q hq => h.lt hq
  have HST : Hid (RC w b bs bm n pv d (.slice none 0 0) (.int .i64 0) w) := ⟨0, Nat.zero_le _, rfl, World.ownsRow_nil _ _ _ _, h, Below.refl _ _⟩
  clear hi0 hz0 hz1 hz2 h hon
  go_enter Try.func13, Try.ntmps13
  go_wp2_with fail
  go_loopw [6, 7] (fun v i wr => RC w b bs bm n pv d v i wr) (fun _ i _ => n - (intOf i).toNat)
  case atStart => exact HST.out
  case round =>
    clear HST
    obtain ⟨k, hk, rfl, hown, hD, hbl⟩ := hrel
    by_cases hlt : k < n
    · have R1 := read_any hD (k : Int)
      have er : DD.read n d (k : Int) = (d.text k, 0) := by
        have : DD.hasB n (k : Int) = true := by simp [DD.hasB]; omega
        simp [DD.read, HON.out, this]
      rw [er] at R1
      have htl := text_len hD.ok hlt
      have htk := conts_take n d k hlt
      obtain ⟨s, es⟩ : ∃ s : ByteArray, s = ⟨(d.text k).toArray⟩ := ⟨_, rfl⟩
      have hs32 : s.size = 32 := by rw [es]; show (d.text k).toArray.size = 32; simpa using htl
      rw [← es] at R1 htk
      have RR := Lib.hid R1
      have HTK := Lib.hid htk
      have hne : ((s.size : Int) != 32) = false := by simp [hs32]
      have hsl : s.size ≤ 32 := by omega
      have hlw := hbl.size
      have hki : (k : Int) < (n : Int) := by omega
      obtain ⟨cs, ecs⟩ : ∃ cs, cs = ((conts n d).take k).map Value.string := ⟨_, rfl⟩
      rw [← ecs] at hown
      have HCS := Lib.hid ecs
      have HD := Lib.hid hD
      clear R1 htk er htl es hs32 ecs hD
      go_wp2_with fail
      refine RR.out.mono ?_
      rintro e w' ⟨rfl, rfl⟩
      clear RR
      go_wp2_with (at_builtin; refine wpList_append_lies _ rfl _ _ 34 rfl w.heap.size 9 i0 (.string ⟨#[]⟩) 1 16 Try.underlying34 HI.out HZ0.out HZ1.out HZ2.out rfl (by omega) _ k cs rfl (hown.alloc _) ⟨wr.heap.size, 0, none⟩ 1 1 [.string s] rfl rfl ?c1 ?c2 (by omega) ?c3 ?c4 ?c5 (wr.heap.size + 1) (by simp) ?_)
      case c1 => exact cell_one_new _ _ _
      case c2 => simp [Value.oneCell']
      case c3 => unfold maxLen; omega
      case c4 => omega
      case c5 => simp; omega
      intro g3 cap3 w3 hown3 hgr3 _ _
      have hbl3 : Below w.heap.size w w3 := (hbl.alloc hlw _).grown hgr3 (by simp; omega) (fun q hq => (hown.lt q hq).1)
      have hD3 : DiskAt w3 b bs bm pv d n := by
        have h1 := HD.out.alloc (.cells #[.string s] 9)
        refine h1.keep (F := fun k => u6.ownBlock = some k) (w' := w3) ⟨hgr3.os, hgr3.tape, hgr3.output, hgr3.size, fun q hq hn => hgr3.block q hq (fun e => hn e.symm)⟩ (fun q hq hu => ?_)
        have h2 := (hown.lt q hu).1
        have h3 := HLT.out q hq
        omega
      have key : RC w b bs bm n pv d (.slice (some ⟨g3, 0, none⟩) (k + 1) cap3) (.int .i64 ((k : Int) + 1)) w3 := by
        refine ⟨k + 1, by omega, by go_num, ?_, hD3, hbl3⟩
        rw [HTK.out, List.map_append, ← HCS.out]; exact hown3
      have KEY := Lib.hid key
      clear key hown3 hD3 hbl3
      go_wp2
      go_roundw
      case rel =>
        go_light
        have key := KEY.out
        first | exact key | ((repeat apply Exists.intro); exact ⟨key, rfl⟩)
      case measure => simp [intOf]; omega
    · obtain rfl : k = n := by omega
      rw [List.take_of_length_le (by rw [conts_len]; exact Nat.le_refl _)] at hown
      obtain ⟨A, c, rfl⟩ : ∃ A c, u6 = .slice A k c := by
        rcases hown.2 with ⟨rfl, h0⟩ | ⟨g, cap, cur, rfl, _⟩
        · exact ⟨none, 0, by rw [h0]⟩
        · exact ⟨_, _, rfl⟩
      have HO := Lib.hid hown
      have HB := Lib.hid hbl
      clear hown hbl hD
      go_wp2_with fail
      go_ret2
      exact ⟨A, c, rfl, HO.out, HB.out⟩
end
def RE (w : World) (l : List ByteArray) (i : Value) (wr : World) : Prop := ∃ k : Nat, k ≤ l.length ∧ i = .int .i64 k ∧ Below w.heap.size w wr
set_option maxRecDepth 100000 in
set_option maxHeartbeats 1000000 in
theorem same_yes (A1 A2 : Option Addr) (c1 c2 : Nat) (l : List ByteArray) (w : World) (h1 : SL w 1 encS A1 l) (h2 : SL w 1 encS A2 l) (hl : l.length ≤ 9223372036854775807) :
    Calls Try.prog 18 #[.slice A1 l.length c1, .slice A2 l.length c2] w fun e w' => e = .returned (.bool true) ∧ Below w.heap.size w w' := by
  have HST : Hid (RE w l (.int .i64 0) w) := ⟨0, Nat.zero_le _, rfl, Below.refl _ _⟩
  have H1 := Lib.hid h1
  have H2 := Lib.hid h2
  clear h1 h2
  go_enter Try.func18, Try.ntmps18
  go_wp2_with fail
  go_loopw [5] (fun i wr => RE w l i wr) (fun i _ => l.length - (intOf i).toNat)
  case atStart => exact HST.out
  case round =>
    clear HST
    obtain ⟨k, hk, rfl, hbl⟩ := hrel
    by_cases hlt : k < l.length
    · obtain ⟨s, hs⟩ : ∃ s, l[k]? = some s := ⟨_, List.getElem?_eq_getElem hlt⟩
      obtain ⟨b1, o1, e1, hc1⟩ := (H1.out.below hbl (Nat.le_refl _)).at_ hs
      obtain ⟨b2, o2, e2, hc2⟩ := (H2.out.below hbl (Nat.le_refl _)).at_ hs
      have d1 : wr.drew.cell? ⟨b1, o1 + k, none⟩ = some (.string s) := by have := hc1 0 _ rfl; simpa using this
      have d2 : wr.drew.cell? ⟨b2, o2 + k, none⟩ = some (.string s) := by have := hc2 0 _ rfl; simpa using this
      subst e1 e2
      have hki : (k : Int) < (l.length : Int) := by omega
      have k0 : (0 : Int) ≤ (k : Int) := by omega
      have HB := Lib.hid hbl
      clear hc1 hc2 hs hbl
      go_wp2_with fail
      refine Free.wp_region_free 8 [] (fun w2 => w2.cell? ⟨b1, o1 + k, none⟩ = some (.string s) ∧ w2.cell? ⟨b2, o2 + k, none⟩ = some (.string s)) (by kernel_rfl) (by kernel_rfl) ?_ ⟨d1, d2⟩ (fun _ _ h g => ⟨cell_grow' h.1 g, cell_grow' h.2 g⟩) ?_
      · intro j mk r hf
        simp only [Free.find] at hf
        cases hf
      simp only [List.take_succ_cons, List.take_zero]
      clear d1 d2
      iterate 8 (apply Free.chain_still (by first | exact Free.wanted_of rfl rfl rfl | rfl) rfl; (intro w' hB hA; obtain ⟨q0, q1⟩ := hB; clear hA ; go_light; go_simp <;> rfl); (try simp only [Act.put, List.setIfInBounds_toArray, List.set_cons_succ, List.set_cons_zero]))
      apply Free.chain_nil
      intro wz _ hg _
      simp only [List.drop_succ_cons, List.drop_zero]
      have hz := grow_drew' hg
      have key : RE w l (.int .i64 ((k : Int) + 1)) wz := ⟨k + 1, by omega, by go_num, HB.out.trans (hz.mono HB.out.size)⟩
      have KEY := Lib.hid key
      clear hg hz key
      go_wp2
      go_roundw
      case rel =>
        go_light
        have key := KEY.out
        first | exact key | ((repeat apply Exists.intro); exact ⟨key, rfl⟩)
      case measure => simp [intOf]; omega
    · obtain rfl : k = l.length := by omega
      have HB := Lib.hid hbl
      clear hbl
      go_wp2_with fail
      go_ret
      exact ⟨rfl, HB.out⟩
end Go.Proofs.Ytkccfmaimpnbcaa
