/- Package journal: split. No condition. -/
import Derived.Test.YthfjaaigncjhlaaGreatDoorJo3
import Derived.Test.YthfjaaigncjhlaaGreatDoorApl
import Derived.OwnWalk
import Derived.Laws.MakeOwn
namespace Go.Jn
theorem splitGo_same : ∀ (N : Nat) (t : List UInt8) (f : Nat), t.length ≤ N → t.length ≤ f → splitGo f t = splitGo t.length t
  | 0, t, f, hN, _ => by
    obtain rfl := List.length_eq_zero_iff.1 (Nat.le_zero.1 hN)
    cases f <;> rfl
  | N + 1, t, f, hN, hf => by
    by_cases ht : t = []
    · subst ht; cases f <;> rfl
    · have hp := List.length_pos_iff.2 ht
      obtain ⟨g, hg⟩ : ∃ g, t.length = g + 1 := ⟨t.length - 1, by omega⟩
      obtain ⟨f', rfl⟩ : ∃ f', f = f' + 1 := ⟨f - 1, by omega⟩
      rw [hg]
      unfold splitGo
      rw [if_neg ht, if_neg ht]
      split
      · rfl
      · rename_i h4
        cases digsL (t.take 4) with
        | none => rfl
        | some n =>
          simp only
          split
          · rfl
          · rw [splitGo_same N (t.drop (4 + n)) f' (by rw [List.length_drop]; omega) (by rw [List.length_drop]; omega), splitGo_same N (t.drop (4 + n)) g (by rw [List.length_drop]; omega) (by rw [List.length_drop]; omega)]
theorem split_step {t : List UInt8} (h : t ≠ []) : splitL t = if t.length < 4 then none else match digsL (t.take 4) with
    | none => none
    | some n => if 2000 < n ∨ t.length - 4 < n then none else (splitL (t.drop (4 + n))).map (fun r => (t.drop 4).take n :: r) := by
  have hp := List.length_pos_iff.2 h
  obtain ⟨g, hg⟩ : ∃ g, t.length = g + 1 := ⟨t.length - 1, by omega⟩
  have e : splitL t = splitGo (g + 1) t := by unfold splitL; rw [hg]
  rw [e]
  unfold splitGo
  rw [if_neg h]
  split
  · rfl
  · cases digsL (t.take 4) with
    | none => rfl
    | some n =>
      simp only
      split
      · rfl
      · unfold splitL
        rw [splitGo_same g (t.drop (4 + n)) g (by rw [List.length_drop]; omega) (by rw [List.length_drop]; omega)]
end Go.Jn
namespace Go.Proofs.YthfjaaigncjhlaaGreatDoor
open Go.RowKit Go.Blk Go.Jn Go.Opn Go.Apl

theorem ext_list (y : ByteArray) (i j : Nat) : (y.extract i j).data.toList = (y.data.toList.drop i).take (j - i) := by simp
def encS (s : ByteArray) : List Value := [.string s]
theorem infoStr : (Tryz.prog.info? 9).map (fun i => (i.zero, i.size, i.bytes)) = some (some (.string ⟨#[]⟩), 1, 16) := by kernel_rfl
theorem encS_len (s : ByteArray) : (encS s).length = 1 := rfl
theorem encS_one (s : ByteArray) : ∀ u ∈ encS s, u.oneCell' = true := fun u hu => by rw [List.mem_singleton.1 hu]; rfl
def bys (l : List ByteArray) : List (List UInt8) := l.map (fun b => b.data.toList)
def SplPost (r : Option (List (List UInt8))) (W : World) (e : Ending) (w' : World) : Prop :=
  Below W.heap.size W w' ∧ ((r = none ∧ e = .returned (.tuple #[.slice none 0 0, .bool false])) ∨ ∃ (p : List ByteArray) (v : Value), r = some (bys p) ∧ e = .returned (.tuple #[v, .bool true]) ∧ w'.ownsRow W.heap.size 9 1 v p.length (p.flatMap encS))
def RSp (W : World) (s : List UInt8) (t rv : Value) (wr : World) : Prop :=
  ∃ (x : ByteArray) (p : List ByteArray), t = .string x ∧ Below W.heap.size W wr ∧ wr.ownsRow W.heap.size 9 1 rv p.length (p.flatMap encS) ∧ splitL s = (splitL x.data.toList).map (bys p ++ ·) ∧ p.length + x.size ≤ s.length
def sizeOf' : Value → Nat
  | .string x => x.size
  | _ => 0
set_option maxHeartbeats 4000000 in
set_option maxRecDepth 100000 in
theorem split_any (t : ByteArray) (w : World) (ht : t.size ≤ 1000000) : Calls Tryz.prog 35 #[.string t] w (SplPost (splitL t.data.toList) w) := by
  obtain ⟨R, eR⟩ : ∃ R, R = SplPost (splitL t.data.toList) w := ⟨_, rfl⟩
  rw [← eR]
  have hsz : t.data.toList.length = t.size := by simp
  have FN : Hid (splitL t.data.toList = none → ∀ w', Below w.heap.size w w' → R (.returned (.tuple #[.slice none 0 0, .bool false])) w') := fun h w' hb => by rw [eR, h]; exact ⟨hb, .inl ⟨rfl, rfl⟩⟩
  have FS : Hid (∀ (p : List ByteArray) (v : Value) (w' : World), splitL t.data.toList = some (bys p) → Below w.heap.size w w' → w'.ownsRow w.heap.size 9 1 v p.length (p.flatMap encS) → R (.returned (.tuple #[v, .bool true])) w') := fun p v w' h hb ho => by rw [eR, h]; exact ⟨hb, .inr ⟨p, v, rfl, rfl, ho⟩⟩
  obtain ⟨s, es⟩ : ∃ s, s = t.data.toList := ⟨_, rfl⟩
  have HST : Hid (RSp w s (.string t) (.slice none 0 0) w) := ⟨t, [], rfl, Below.refl _ _, ⟨by simp, .inl ⟨rfl, rfl⟩⟩, by rw [es]; simp [bys], by rw [es, hsz]; simp⟩
  rw [← es] at FN FS hsz
  have HS : Hid (s.length ≤ 1000000) := by show _ ≤ _; omega
  clear eR es hsz
  go_enter Tryz.func35, Tryz.ntmps35
  go_wp2_with fail
  go_loopw [0, 4] (fun x rv wr => RSp w s x rv wr) (fun x _ _ => sizeOf' x)
  case atStart => exact HST.out
  case round =>
    clear HST
    obtain ⟨x, p, rfl, hbr, hown, hsp, hlen⟩ := hrel
    have HBR := Lib.hid hbr
    have HOW := Lib.hid hown
    have HSP := Lib.hid hsp
    have HLN := Lib.hid hlen
    clear hbr hown hsp hlen
    have hx1m : x.size ≤ 1000000 := by have := HLN.out; have := HS.out; omega
    by_cases hx : x.size = 0
    · obtain rfl : x = ⟨#[]⟩ := by
        have h0 : x.data.toList = [] := List.length_eq_zero_iff.1 (by rw [show x.data.toList.length = x.size by simp]; exact hx)
        cases x; simpa using h0
      have F := Lib.hid (FS.out p u4 wr (by rw [HSP.out]; show (some ([] : List (List UInt8))).map _ = _; simp) HBR.out HOW.out)
      go_wp2_with fail
      exact F.out
    · have hne : x.data.toList ≠ [] := fun h => hx (by rw [← show x.data.toList.length = x.size by simp, h]; rfl)
      have q1 : (x.toList == ([] : List UInt8)) = false := by rw [ByteArray.toList_eq]; cases hh : x.data.toList with | nil => exact absurd hh hne | cons _ _ => rfl
      have q2 : x.toList.isEmpty = false := by rw [ByteArray.toList_eq]; cases hh : x.data.toList with | nil => exact absurd hh hne | cons _ _ => rfl
      have q3 : (x.toList = []) = False := by rw [ByteArray.toList_eq]; exact eq_false hne
      have ST := split_step hne
      rw [show x.data.toList.length = x.size by simp] at ST
      by_cases h4 : x.size < 4
      · have F := Lib.hid (FN.out (by rw [HSP.out, ST, if_pos h4]; rfl) wr HBR.out)
        have c1 : decide ((x.size : Int) < 4) = true := by simp; omega
        clear ST
        go_wp2_with fail
        exact F.out
      · rw [if_neg h4] at ST
        have c1 : decide ((x.size : Int) < 4) = false := by simp; omega
        have z4 : (4 : Int) ≤ (x.size : Int) := by omega
        have e1 : (x.extract 0 4).data.toList = x.data.toList.take 4 := by simp
        have Q1 : Hid (∀ w, Calls Tryz.prog 65 #[.string (x.extract 0 4)] w (DigPost (digsL (x.data.toList.take 4)) w)) := fun w => by rw [← e1]; exact digits_any _ w (by rw [ByteArray.size_extract]; omega)
        have ST := Lib.hid ST
        clear e1
        go_wp2_with fail
        refine (Q1.out _).mono ?_
        rintro e w' ⟨rfl, ⟨h1, rfl⟩ | ⟨n, h1, rfl⟩⟩
        · have F := Lib.hid (FN.out (by rw [HSP.out, ST.out, h1]; rfl) wr HBR.out)
          go_wp2_with fail
          exact F.out
        · have ST2 := ST.out
          rw [h1] at ST2
          simp only at ST2
          have hyz : (x.extract 4 x.size).size = x.size - 4 := by rw [ByteArray.size_extract]; omega
          have hyd : (x.extract 4 x.size).data.toList = x.data.toList.drop 4 := by simp; exact List.take_of_length_le (by simp)
          by_cases hn : n ≤ 2000
          · have c2 : decide ((2000 : Int) < (n : Int)) = false := by simp; omega
            by_cases hm : n ≤ x.size - 4
            · have c3 : decide (((x.size - 4 : Nat) : Int) < (n : Int)) = false := by simp; omega
              have c4 : decide (x.size - 4 < n) = false := by simp; omega
              rw [if_neg (by omega)] at ST2
              clear ST Q1 FN FS
              obtain ⟨i0, hi, hz0, hz1, hz2⟩ := info_parts infoStr
              have HI := Lib.hid hi
              have HZ0 := Lib.hid hz0
              have HZ1 := Lib.hid hz1
              have HZ2 := Lib.hid hz2
              have c5 : (n : Int) ≤ ((x.size - 4 : Nat) : Int) := by omega
              have ST3 := Lib.hid ST2
              clear hi hz0 hz1 hz2 ST2
              go_wp2_with (at_builtin; refine wpList_append_list (ec := encS) rfl (.tmp 32) (.tmp 36) 30 rfl w.heap.size 9 i0 _ 16 Tryz.underlying30 HI.out HZ0.out HZ1.out HZ2.out rfl (by decide) encS_len encS_one u4 p.length (p.flatMap encS) rfl (HOW.out.alloc _) (some ⟨wr.heap.size, 0, none⟩) 1 [(x.extract 4 x.size).extract 0 n] rfl (sl_of_cells encS_len (heap_alloc_new _ _) (fun j u hu => by simpa [encS] using hu)) (by have := HLN.out; have := HS.out; have : maxLen = 9223372036854775807 := rfl; simp; omega) (by have := HLN.out; have := HS.out; simp; omega) (by have := HBR.out.size; simp; omega) ?_)
              intro v2 w2 hown2 hg2 _
              have HB2 : Hid (Below w.heap.size w w2) := (HBR.out.alloc HBR.out.size _).grown hg2 (by have := HBR.out.size; simp; omega) (fun j e => (HOW.out.lt j e).1)
              have HOWN := Lib.hid hown2
              clear hown2 hg2
              go_wp2_with fail
              have zd : ((x.extract 4 x.size).extract n (x.size - 4)).data.toList = x.data.toList.drop (4 + n) := by
                have a1 : (x.extract 4 x.size).data.toList = x.data.toList.drop 4 := hyd
                have a2 : ((x.extract 4 x.size).extract n (x.size - 4)).data.toList = ((x.extract 4 x.size).data.toList.drop n).take (x.size - 4 - n) := ext_list _ _ _
                rw [a2, a1, List.drop_drop]; exact List.take_of_length_le (by simp; omega)
              have zt : ((x.extract 4 x.size).extract 0 n).data.toList = (x.data.toList.drop 4).take n := by rw [ext_list, hyd]; rfl
              have zs : ((x.extract 4 x.size).extract n (x.size - 4)).size = x.size - 4 - n := by rw [ByteArray.size_extract, hyz]; omega
              refine ⟨⟨(x.extract 4 x.size).extract n (x.size - 4), p ++ [(x.extract 4 x.size).extract 0 n], rfl, HB2.out, ?_, ?_, ?_⟩, ?_⟩
              · rw [List.length_append, List.flatMap_append]; exact HOWN.out
              · rw [HSP.out, ST3.out, zd]
                cases splitL (x.data.toList.drop (4 + n)) with
                | none => rfl
                | some r => simp only [Option.map_some, bys, List.map_append, List.map_cons, List.map_nil, zt, List.append_assoc, List.cons_append, List.nil_append]
              · have := HLN.out
                rw [List.length_append, zs]; simp; omega
              · show ((x.extract 4 x.size).extract n (x.size - 4)).size < x.size
                rw [zs]; omega
            · have F := Lib.hid (FN.out (by rw [HSP.out, ST2, if_pos (by omega)]; rfl) wr HBR.out)
              have c3 : decide (((x.size - 4 : Nat) : Int) < (n : Int)) = true := by simp; omega
              have c4 : decide (x.size - 4 < n) = true := by simp; omega
              clear ST2
              go_wp2_with fail
              exact F.out
          · have F := Lib.hid (FN.out (by rw [HSP.out, ST2, if_pos (by omega)]; rfl) wr HBR.out)
            have c2 : decide ((2000 : Int) < (n : Int)) = true := by simp; omega
            clear ST2
            go_wp2_with fail
            exact F.out
end Go.Proofs.YthfjaaigncjhlaaGreatDoor
