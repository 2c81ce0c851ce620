/- The reference's Sum (layer 28). -/
import Derived.Test.YtamiaalfjmppaaaDoorRefE
namespace Go.Proofs.YtamiaalfjmppaaaDoor
open Go.RowKit Go.W32 Go.Blk

theorem hex_lo (q : Nat) (h : q < 10) : (.int .u8 (48 + (q : Int)) : Value) = C8 (hexS.getD q 0) := by
  match q, h with
  | 0, _ => rfl
  | 1, _ => rfl
  | 2, _ => rfl
  | 3, _ => rfl
  | 4, _ => rfl
  | 5, _ => rfl
  | 6, _ => rfl
  | 7, _ => rfl
  | 8, _ => rfl
  | 9, _ => rfl
theorem hex_hi (q : Nat) (h : q < 16) (h2 : 10 ≤ q) : (.int .u8 (97 + (q : Int) - 10) : Value) = C8 (hexS.getD q 0) := by
  obtain ⟨r, rfl⟩ : ∃ r, q = 10 + r := ⟨q - 10, by omega⟩
  have hr : r < 6 := by omega
  match r, hr with
  | 0, _ => rfl
  | 1, _ => rfl
  | 2, _ => rfl
  | 3, _ => rfl
  | 4, _ => rfl
  | 5, _ => rfl
def RG (w : World) (x : S8) (g : Nat) (v i : Value) (wr : World) : Prop :=
  ∃ j : Nat, j ≤ 8 ∧ i = .int .i64 j ∧ wr.ownsRow w.heap.size 5 1 v (8 * j) (((x.list.take j).flatMap digs).map C8) ∧ RowAt wr g x.cells 86 ∧ Below w.heap.size w wr
def RGI (w : World) (x : S8) (g : Nat) (j : Nat) (bs : List UInt8) (y : UInt32) (v i : Value) (wr : World) : Prop :=
  ∃ m : Nat, m ≤ 8 ∧ i = .int .i64 (7 - (m : Int)) ∧ wr.ownsRow w.heap.size 5 1 v (8 * j + m) ((bs ++ (digs y).take m).map C8) ∧ RowAt wr g x.cells 86 ∧ Below w.heap.size w wr
attribute [local go_sem] evs evn psz
set_option maxRecDepth 100000 in
set_option maxHeartbeats 1000000 in
theorem refsum_any (t : ByteArray) (w : World) (ht : t.size ≤ 1000000000) :
    Calls Tryd.prog 21 #[.string t] w fun e w' => e = .returned (.string (sumB KC t)) ∧ Below w.heap.size w w' := by
  obtain ⟨i0, hi0, hz0, hz1, hz2⟩ := info_parts info5
  have HI := Lib.hid hi0
  have HZ0 := Lib.hid hz0
  have HZ1 := Lib.hid hz1
  have HZ2 := Lib.hid hz2
  clear hi0 hz0 hz1 hz2
  go_enter Tryd.func21, Tryd.ntmps21
  go_wp2_with fail
  refine (words_any t _ ht).mono ?_
  rintro e w1 ⟨g, cap, rfl, hrow, hbl⟩
  rw [ref_blocks] at hrow
  change RowAt w1 g (wordsOf KC t).cells 86 at hrow
  obtain ⟨x, hx⟩ : ∃ x, x = wordsOf KC t := ⟨_, rfl⟩
  rw [← hx] at hrow
  have HX := Lib.hid hx
  clear hx
  have hst : RG w1 x g (.slice none 0 0) (.int .i64 0) w1 := ⟨0, by omega, rfl, World.ownsRow_nil _ _ _ _, hrow, Below.refl _ _⟩
  have hgl := hrow.lt
  have HBL := Lib.hid hbl
  have HST := Lib.hid hst
  clear hst hrow hbl
  go_wp2_with fail
  go_loopw [4, 5] (fun v i wr => RG w1 x g v i wr) (fun _ i _ => 8 - (intOf i).toNat)
  case atStart => exact HST.out
  case round =>
    clear HST
    obtain ⟨j, hj, rfl, hown, hrow, hbl⟩ := hrel
    by_cases hlt : j < 8
    · obtain ⟨y, ey⟩ : ∃ y, y = x.list.getD j 0 := ⟨_, rfl⟩
      obtain ⟨bs, ebs⟩ : ∃ bs, bs = (x.list.take j).flatMap digs := ⟨_, rfl⟩
      rw [← ebs] at hown
      have hst : RGI w1 x g j bs y u4 (.int .i64 7) wr := ⟨0, by omega, rfl, by rw [List.take_zero, List.append_nil]; exact hown, hrow, hbl⟩
      have HST := Lib.hid hst
      have EY := Lib.hid ey
      have EBS := Lib.hid ebs
      clear hst ey ebs hown hrow hbl
      have hjd : decide ((j : Int) < 8) = true := by simp; omega
      go_wp2_with fail
      go_loopw [4, 6] (fun v i wr => RGI w1 x g j bs y v i wr) (fun _ i _ => (intOf i + 1).toNat)
      case atStart => exact HST.out
      case round =>
        clear HST
        obtain ⟨m, hm, rfl, hown, hrow, hbl⟩ := hrel
        have hlw := hbl.size
        by_cases hml : m < 8
        · have cy : wr.cell? ⟨g, j, none⟩ = some (.int .u32 y.toNat) := hrow.cell j _ (by rw [EY.out, S8.cells_list, List.getElem?_map, List.getD_eq_getElem?_getD, List.getElem?_eq_getElem (by simpa [S8.list] using hlt)]; rfl)
          have j0 : (0 : Int) ≤ (j : Int) := by omega
          have i1 : (j : Int) < 8 := by omega
          have i2 : (0 : Int) ≤ 7 - (m : Int) := by omega
          obtain ⟨q, eq⟩ : ∃ q, q = nib y m := ⟨_, rfl⟩
          have hq : bits BinOp.and IntKind.u32 ((y.toNat : Int) / 2 ^ (4 * (7 - m))) 15 = (q : Int) := by
            rw [eq]
            exact nib_val y m _ (by rw [show 4 * (7 - m) = 28 - 4 * m by omega]; norm_cast)
          have hq16 : q < 16 := by rw [eq]; exact nib_lt y m
          have EQ := Lib.hid eq
          clear eq
          by_cases hq10 : q < 10
          · have hq9 : (q : Int) < 10 := by omega
            have hc : (.int .u8 (48 + (q : Int)) : Value) = C8 (hexS.getD q 0) := hex_lo q hq10
            have HC := Lib.hid hc
            clear hc
            obtain ⟨cs, ecs⟩ : ∃ cs, cs = (bs ++ (digs y).take m).map C8 := ⟨_, rfl⟩
            rw [← ecs] at hown
            have HCS := Lib.hid ecs
            clear ecs
            go_wp2_with (at_builtin; refine wpList_append_lies _ rfl _ _ 85 rfl w1.heap.size 5 i0 (.int .u8 0) 1 1 Tryd.underlying85 HI.out HZ0.out HZ1.out HZ2.out rfl (by omega) _ (8 * j + m) cs rfl (hown.alloc _) ⟨wr.heap.size, 0, none⟩ 1 1 [.int .u8 (48 + (q : Int))] rfl rfl ?c1 ?c2 (by omega) ?c3 ?c4 ?c5 (wr.heap.size + 1) (by simp) ?_)
            case c1 => exact cell_one_new _ _ _
            case c2 => simp [Value.oneCell']
            case c3 => unfold maxLen; omega
            case c4 => omega
            case c5 => simp; omega
            intro g3 cap3 w3 hown3 hgr3 _ _
            rw [HC.out, HCS.out, EQ.out, digs_next bs y m hml] at hown3
            have key : RGI w1 x g j bs y (.slice (some ⟨g3, 0, none⟩) (8 * j + m + 1) cap3) (.int .i64 (7 - (m : Int) - 1)) w3 := by
              refine ⟨m + 1, by omega, by congr 1; omega, hown3, ?_, (hbl.alloc hlw _).grown hgr3 (by simp; omega) (fun q hq => (hown.lt q hq).1)⟩
              refine RowAt.grown (by obtain ⟨r, h⟩ := hrow; exact ⟨r, h.alloc _⟩) hgr3 ?_
              intro e
              have := (hown.lt g e.symm).1
              omega
            have KEY := Lib.hid key
            clear key hown3
            go_wp2
            go_roundw
            case rel =>
              go_light
              have key := KEY.out
              first | exact key | ((repeat apply Exists.intro); exact ⟨key, rfl⟩)
            case measure => simp [intOf]; omega
          · have hq9 : ¬ (q : Int) < 10 := by omega
            have hc : (.int .u8 (97 + (q : Int) - 10) : Value) = C8 (hexS.getD q 0) := hex_hi q hq16 (by omega)
            have HC := Lib.hid hc
            clear hc
            obtain ⟨cs, ecs⟩ : ∃ cs, cs = (bs ++ (digs y).take m).map C8 := ⟨_, rfl⟩
            rw [← ecs] at hown
            have HCS := Lib.hid ecs
            clear ecs
            go_wp2_with (at_builtin; refine wpList_append_lies _ rfl _ _ 85 rfl w1.heap.size 5 i0 (.int .u8 0) 1 1 Tryd.underlying85 HI.out HZ0.out HZ1.out HZ2.out rfl (by omega) _ (8 * j + m) cs rfl (hown.alloc _) ⟨wr.heap.size, 0, none⟩ 1 1 [.int .u8 (97 + (q : Int) - 10)] rfl rfl ?d1 ?d2 (by omega) ?d3 ?d4 ?d5 (wr.heap.size + 1) (by simp) ?_)
            case d2 => simp [Value.oneCell']
            case d3 => unfold maxLen; omega
            case d4 => omega
            case d5 => first | omega | (simp; omega)
            intro g3 cap3 w3 hown3 hgr3 _ _
            rw [HC.out, HCS.out, EQ.out, digs_next bs y m hml] at hown3
            have key : RGI w1 x g j bs y (.slice (some ⟨g3, 0, none⟩) (8 * j + m + 1) cap3) (.int .i64 (7 - (m : Int) - 1)) w3 := by
              refine ⟨m + 1, by omega, by congr 1; omega, hown3, ?_, (hbl.alloc hlw _).grown hgr3 (by simp; omega) (fun q hq => (hown.lt q hq).1)⟩
              refine RowAt.grown (by obtain ⟨r, h⟩ := hrow; exact ⟨r, h.alloc _⟩) hgr3 ?_
              intro e
              have := (hown.lt g e.symm).1
              omega
            have KEY := Lib.hid key
            clear key hown3
            go_wp2
            go_roundw
            case rel =>
              go_light
              have key := KEY.out
              first | exact key | ((repeat apply Exists.intro); exact ⟨key, rfl⟩)
            case measure => simp [intOf]; omega
        · obtain rfl : m = 8 := by omega
          clear hml hm
          have key : RG w1 x g u4 (.int .i64 (↑j + 1)) wr := by
            refine ⟨j + 1, by omega, by go_num, ?_, hrow, hbl⟩
            have e : (x.list.take (j + 1)).flatMap digs = bs ++ (digs y).take 8 := by
              have hl : j < x.list.length := by simpa [S8.list] using hlt
              rw [List.take_succ_eq_append_getElem hl, List.flatMap_append, ← EBS.out, List.take_of_length_le (by rw [digs_len]; omega)]
              have e2 : y = x.list[j] := by rw [EY.out, List.getD_eq_getElem?_getD, List.getElem?_eq_getElem hl]; rfl
              rw [e2]; simp
            rw [e]; exact hown
          have KEY := Lib.hid key
          clear key hown hrow hbl hlw
          go_wp2
          go_roundw
          case rel =>
            go_light
            have key := KEY.out
            first | exact key | ((repeat apply Exists.intro); exact ⟨key, rfl⟩)
          case measure => simp [intOf]; omega
    · obtain rfl : j = 8 := by omega
      clear hlt hj
      have hL : x.list.take 8 = x.list := rfl
      rw [hL] at hown
      have hlen : (hexOf x).length = 64 := by simp [hexOf, S8.list, digs_len]
      obtain ⟨_, hown2⟩ := hown
      rcases hown2 with ⟨_, h1⟩ | ⟨R, cap2, cur, h1, _, hcur, _, _, _, htk⟩
      · omega
      · have hcv' : (convert 85 9 (.slice (some ⟨R, 0, none⟩) 64 cap2)).run Tryd.prog wr = .ok (.string ⟨(hexOf x).toArray⟩) wr := by
          have := conv_bytes (P := Tryd.prog) (cap := cap2) (hexOf x) Tryd.underlying85 Tryd.underlying5 Tryd.underlying9 (show Blk wr R cur.toList 5 by unfold Blk; simpa using hcur) (fun j hj => by
            have h2 : (cur.toList.take (8 * 8 * 1))[j]? = ((hexOf x).map C8)[j]? := by rw [htk]; rfl
            rw [List.getElem?_take_of_lt (by omega), List.getElem?_map, List.getElem?_eq_getElem hj] at h2
            exact h2)
          rw [hlen] at this
          exact this
        subst h1
        have hfin : Below w.heap.size w wr := HBL.out.trans (hbl.mono HBL.out.size)
        clear hcur htk hL hlen hrow hbl
        go_wp2
        go_ret
        exact ⟨by rw [sumB_words, ← HX.out]; rfl, hfin⟩
end Go.Proofs.YtamiaalfjmppaaaDoor
