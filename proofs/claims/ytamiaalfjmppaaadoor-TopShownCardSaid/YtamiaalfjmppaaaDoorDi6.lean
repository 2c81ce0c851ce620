/- Package disclose: Check. Condition: the variables of digest and of strconv hold their numbers; texts of at most 10^9 bytes. -/
import Derived.Test.YtamiaalfjmppaaaDoorDi5
import Derived.Test.YtamiaalfjmppaaaDoorDiP
namespace Go.Proofs.YtamiaalfjmppaaaDoor
open Go.RowKit Go.Blk Go.Shelf Go.Rf Go.Opn Go.Di
attribute [local go_sem] Oper.semAt_some

theorem bytes_tl {a b : ByteArray} (h : a.toList = b.toList) : a = b := by
  rw [Go.ByteArray.toList_eq, Go.ByteArray.toList_eq] at h
  exact bytes_ext h
theorem infoBool : (Tryd.prog.info? 4).map (fun i => (i.zero, i.size, i.bytes)) = some (some (.bool false), 1, 1) := by kernel_rfl
def encB (b : Bool) : List Value := [.bool b]
/-- From a leaf on, by sides and elements. -/
def climb (t : ByteArray) (l : List (Bool × ByteArray)) : ByteArray := l.foldl (fun t x => if x.1 then nodeD t x.2 else nodeD x.2 t) t
theorem climb_snoc (t : ByteArray) (l : List (Bool × ByteArray)) (x : Bool × ByteArray) : climb t (l ++ [x]) = if x.1 then nodeD (climb t l) x.2 else nodeD x.2 (climb t l) := by simp [climb]
theorem climb_up (t : ByteArray) : ∀ (bs : List Bool) (qs : List ByteArray), bs.length = qs.length → climb t (bs.reverse.zip qs.reverse) = upD t bs qs
  | [], [], _ => rfl
  | b :: bs, q :: qs, h => by
    have hl : bs.length = qs.length := by simpa using h
    rw [List.reverse_cons, List.reverse_cons, List.zip_append (by simp [hl]), List.zip_cons_cons, List.zip_nil_right, climb_snoc, climb_up t bs qs hl]
    rfl
theorem climb_size (t : ByteArray) (ht : t.size = 64) (l : List (Bool × ByteArray)) : (climb t l).size = 64 := by
  rcases List.eq_nil_or_concat l with rfl | ⟨l, x, rfl⟩
  · exact ht
  · rw [List.concat_eq_append, climb_snoc]; split <;> exact tagD_size _ _ _
theorem climb_take (t : ByteArray) (l : List (Bool × ByteArray)) (k : Nat) (b : Bool) (q : ByteArray) (h : l[k]? = some (b, q)) : climb t (l.take (k + 1)) = if b then nodeD (climb t (l.take k)) q else nodeD q (climb t (l.take k)) := by
  obtain ⟨hk, e⟩ := List.getElem?_eq_some_iff.1 h
  rw [List.take_succ_eq_append_getElem hk, climb_snoc, e]
theorem sl_ownB {w : World} {B g n cap : Nat} {l : List Bool} (h : w.ownsRow B 4 1 (.slice (some ⟨g, 0, none⟩) n cap) n (l.map Value.bool)) : SL w 1 encB (some ⟨g, 0, none⟩) l := by
  refine ⟨fun _ => ⟨g, 0, rfl, fun i e hi p u hu => ?_⟩⟩
  have hp : p = 0 := by
    have := (List.getElem?_eq_some_iff.1 hu).1
    simp [encB] at this; omega
  subst hp
  cases hu
  have hl : l.length = n := by simpa using h.1
  rw [Nat.zero_add, Nat.mul_one, Nat.add_zero, h.cellAt i (by have := (List.getElem?_eq_some_iff.1 hi).1; omega), List.getElem?_map, hi]; rfl
theorem row_slB {w : World} {B n : Nat} {v : Value} {l : List Bool} (h : w.ownsRow B 4 1 v n (l.map Value.bool)) : ∃ A c, v = .slice A n c ∧ SL w 1 encB A l := by
  rcases h.2 with ⟨h1, h2⟩ | ⟨g, cap, cur, h1, _⟩
  · have hl : l.length = n := by simpa using h.1
    refine ⟨none, 0, by rw [h1, h2], ?_⟩
    have : l = [] := List.length_eq_zero_iff.1 (by omega)
    subst this; exact SL.nil
  · subst h1
    exact ⟨_, _, rfl, sl_ownB h⟩
/-- What a round of the range keeps. -/
def PC (w : World) (x : Fac) (pre : List (Nat × Bool)) (W : World) : Prop :=
  ((∃ v, Boxed W (w.heap.size + 1) 82 v ∧ W.ownsRow w.heap.size 4 1 v pre.length ((pre.map Prod.snd).map Value.bool) ∧ True) ∧
    W.heap[w.heap.size]? = some (.cells (encF x).toArray 25 (0, 0))) ∧ Below w.heap.size w W
theorem blk_own {β : Type} (k : Nat) (c : Array Value) (t : TypeId) (f : Nat × Nat) : Own (fun (_ : β) W => W.heap[k]? = some (.cells c t f)) := by
  intro s X Y row h hg hr
  refine (hg.block k (Array.getElem?_eq_some_iff.1 h).1 (fun e => ?_)).trans h
  obtain ⟨o, ho, hc⟩ := hr k e.symm
  rw [h] at ho; cases ho; cases hc
theorem PC_own (w : World) (x : Fac) (B : Nat) (hB : w.heap.size ≤ B) : OwnFrom B (PC w x) :=
  OwnFrom.and (OwnFrom.and (Own.from (holdsRow_own w.heap.size (w.heap.size + 1) 82 4 1 (fun pre : List (Nat × Bool) => pre.length) (fun pre : List (Nat × Bool) => (pre.map Prod.snd).map Value.bool) (fun _ _ => True)) _) (Own.from (blk_own _ _ _ _) _)) (ownFrom_below (Nat.le_refl _) hB)
theorem pc_append {w W w1 : World} {x : Fac} {pre : List (Nat × Bool)} {y : Nat × Bool} {A2 : Option Addr} {c2 g' cap' : Nat} {tmp : Obj} (B : Nat) (hB : Below w.heap.size w W)
    (hv : Boxed W (w.heap.size + 1) 82 (.slice A2 pre.length c2)) (hrow : W.ownsRow w.heap.size 4 1 (.slice A2 pre.length c2) pre.length ((pre.map Prod.snd).map Value.bool)) (hz : W.heap[w.heap.size]? = some (.cells (encF x).toArray 25 (0, 0)))
    (hown' : w1.ownsRow w.heap.size 4 1 (.slice (some ⟨g', 0, none⟩) (pre.length + 1) cap') (pre.length + 1) ((pre.map Prod.snd).map Value.bool ++ [.bool y.2])) (hgrow : (W.alloc tmp).grownBy w1 (Value.slice A2 pre.length c2).ownBlock) :
    KeepsFrom B W (w1.setCell ⟨w.heap.size + 1, 0, none⟩ (.slice (some ⟨g', 0, none⟩) (pre.length + 1) cap')) ∧ Below w.heap.size W (w1.setCell ⟨w.heap.size + 1, 0, none⟩ (.slice (some ⟨g', 0, none⟩) (pre.length + 1) cap')) ∧
    PC w x (pre ++ [y]) (w1.setCell ⟨w.heap.size + 1, 0, none⟩ (.slice (some ⟨g', 0, none⟩) (pre.length + 1) cap')) := by
  obtain ⟨hv1, hv2, hr2, hk2, hb2⟩ := hv.appended (by decide) hrow hB.size (by omega) hown' hgrow
  have hz1 : w1.heap[w.heap.size]? = some (.cells (encF x).toArray 25 (0, 0)) := by
    refine (hgrow.block _ (by have := (Array.getElem?_eq_some_iff.1 hz).1; simp; omega) ?_).trans (old_at hz)
    obtain ⟨_, ⟨h1, _⟩ | ⟨g, cap, cur, h1, _, h3, _⟩⟩ := hrow
    · rw [h1]; simp [Value.ownBlock]
    · rw [h1]; intro e
      simp [Value.ownBlock] at e
      rw [← e, hz] at h3; cases h3
  refine ⟨hk2.from _, hb2, ⟨⟨_, hv2, ?_, trivial⟩, ?_⟩, hB.trans hb2⟩
  · simpa using hr2
  · rw [Below.heap_setCell _ ⟨w.heap.size + 1, 0, none⟩ _ w.heap.size (by show w.heap.size ≠ w.heap.size + 1; omega)]
    exact hz1
def RCK (w : World) (t : ByteArray) (l : List (Bool × ByteArray)) (n : Nat) (tx i : Value) (wr : World) : Prop :=
  ∃ k : Nat, k ≤ n ∧ i = .int .i64 (k : Int) ∧ tx = .string (climb t (l.take k)) ∧ Below w.heap.size w wr
set_option maxRecDepth 100000 in
set_option maxHeartbeats 4000000 in
theorem check_in (root : ByteArray) (n i : Nat) (x : Fac) (s : ByteArray) (p : List ByteArray) (A : Option Addr) (c : Nat) (w : World) (hn : n ≤ 4000) (hi : i < n) (hx : x.Ok) (hss : s.size ≤ 1000000000) (hpl : p.length < 1000000000) (hs : SL w 1 encS A p) (hsh : Short p) (hT : HasT w) (R : Ending → World → Prop)
    (hR : ∀ w' b, Below w.heap.size w w' → b = (decide (p.length = (lev i n).length) && decide (upD (leafD x s) (sidesL i n) p.reverse = root)) → R (.returned (.bool b)) w') :
    Calls Tryd.prog 19 #[.string root, .int .i64 (n : Int), .int .i64 (i : Int), .agg (encF x).toArray, .string s, .slice A p.length c] w R := by
  have HT := Lib.hid hT
  have HS := Lib.hid hs
  have HR := Lib.hid hR
  have HSH := Lib.hid hsh
  have CL := Lib.hid (fun w hT => leaf_any x s w hx hss hT)
  clear hT hs hR hsh
  have g1 : decide ((n : Int) < 1) = false := decide_eq_false (by omega)
  have g2 : decide ((4000 : Int) < (n : Int)) = false := decide_eq_false (by omega)
  have g3 : decide ((i : Int) < 0) = false := decide_eq_false (by omega)
  have g4 : decide ((n : Int) ≤ (i : Int)) = false := decide_eq_false (by omega)
  refine calls_marks 4 Tryd.func19 rfl ?_
  simp only [Tryd.ntmps19, List.size_toArray, List.length_cons, List.length_nil, Nat.reduceAdd, Nat.reduceSub, Array.replicate_succ, Array.replicate_zero, List.push_toArray, List.append_toArray, List.nil_append, List.cons_append]
  obtain ⟨xr, xa, xl, xh, xf, xs⟩ := x
  rw [show encF ⟨xr, xa, xl, xh, xf, xs⟩ = [.int .i64 xr, .int .i64 xa, .int .i64 xl, .int .i64 xh, .int .i64 xf, .bool xs] from rfl] at CL ⊢
  go_wp2_with fail
  refine (levels_any i n _).mono ?_
  rintro e w' ⟨rfl, rfl⟩
  go_wp2_with fail
  have hsz : ((((w.alloc (.cells #[.int .i64 xr, .int .i64 xa, .int .i64 xl, .int .i64 xh, .int .i64 xf, .bool xs] 25)).alloc (.cells #[.slice none 0 0] 82)).alloc (.cells #[.int .i64 (i : Int)] 3)).alloc (.cells #[.int .i64 (n : Int)] 3)).heap.size = w.heap.size + 4 := by simp
  have HB0 : Hid (Below w.heap.size w ((((w.alloc (.cells #[.int .i64 xr, .int .i64 xa, .int .i64 xl, .int .i64 xh, .int .i64 xf, .bool xs] 25)).alloc (.cells #[.slice none 0 0] 82)).alloc (.cells #[.int .i64 (i : Int)] 3)).alloc (.cells #[.int .i64 (n : Int)] 3))) :=
    ((((Below.refl _ w).alloc (Nat.le_refl _) _).alloc (by simp) _).alloc (by simp; omega) _).alloc (by simp; omega) _
  obtain ⟨W0, eW0⟩ : ∃ W0, W0 = ((((w.alloc (.cells #[.int .i64 xr, .int .i64 xa, .int .i64 xl, .int .i64 xh, .int .i64 xf, .bool xs] 25)).alloc (.cells #[.slice none 0 0] 82)).alloc (.cells #[.int .i64 (i : Int)] 3)).alloc (.cells #[.int .i64 (n : Int)] 3)) := ⟨_, rfl⟩
  have HI0 : Hid (PC w ⟨xr, xa, xl, xh, xf, xs⟩ [] W0) := by
    rw [eW0]
    refine ⟨⟨⟨.slice none 0 0, ?_, World.ownsRow_nil _ _ _ _, trivial⟩, ?_⟩, HB0.out⟩
    · exact old_at (old_at (new_at (by simp)))
    · exact old_at (old_at (old_at (new_at rfl)))
  have b1 : W0.cell? ⟨w.heap.size + 1 + 1, 0, none⟩ = some (.int .i64 (i : Int)) := by rw [eW0]; exact Boxed.cell (t := 3) (old_at (new_at (by simp)))
  have b2 : W0.cell? ⟨w.heap.size + 1 + 1 + 1, 0, none⟩ = some (.int .i64 (n : Int)) := by rw [eW0]; exact Boxed.cell (t := 3) (new_at (by simp))
  rw [← eW0] at hsz HB0 ⊢
  clear eW0
  refine wp_rangeX (α := Nat × Bool) (encs := encL) (n0 := w.heap.size) 4 (by decide) rfl (enters_of Tryd.func77 (by kernel_rfl) rfl) (by omega) (levels_seq 3 _ _ _ i n (by decide) (by omega) (by omega) W0 b1 b2) (fun _ => rfl)
    (PC w ⟨xr, xa, xl, xh, xf, xs⟩) (fun _ _ _ => False) (PC_own w _ _ (by omega)) (fun _ _ _ _ _ hs _ _ => hs) HI0.out ?a1 ?assign ?body ?done ?stop
  case stop =>
    rintro D c pre W _ _ h _
    exact h.elim
  case assign =>
    intro l x W K hK
    gi_wp2
    exact hK
  case body =>
    clear HI0 b1 b2
    have HSZ := Lib.hid hsz
    clear hsz
    go_light
    rintro r pre ⟨k, b⟩ W hPC hNx
    obtain ⟨⟨⟨v, hv, hrow, _⟩, hz⟩, hB⟩ := hPC
    have hpl2 : pre.length < n := by
      have h1 := hNx.length_le
      have h2 := lev_len n i
      simp at h1; omega
    obtain ⟨Ar, cr, rfl⟩ := row_form hrow
    have hvc := hv.cell
    have hvf := hv.frozen
    obtain ⟨i0, hi0, hz0, hz1, hz2⟩ := info_parts infoBool
    have HZ := Lib.hid hz
    clear hNx hz
    gi_wp2_with (gi_at_builtin; refine wpListIn_append_own _ rfl _ _ 82 rfl w.heap.size 4 i0 (.bool false) 1 1 Tryd.underlying82 hi0 hz0 hz1 hz2 rfl (by decide) _ _ _ rfl (hrow.alloc _) ⟨W.heap.size, 0, none⟩ 1 1 [.bool b] rfl rfl (cell_one_new _ _ _) (by simp [Value.oneCell']) (by have : maxLen = 9223372036854775807 := rfl; omega) (by omega) (by have := hB.size; simp; omega) ?_; intro v' w1 hown' hgrow _; obtain ⟨g', cap', rfl⟩ := ownsRow_succ hown'; have hvc1 := ((hv.alloc _).kept hgrow (hv.not_row (by decide) hrow)).cell; have hvf1 := ((hv.alloc _).kept hgrow (hv.not_row (by decide) hrow)).frozen)
    exact pc_append (y := (k, b)) _ hB hv hrow HZ.out hown' hgrow
  case done =>
    clear HI0 b1 b2
    rintro D ys W hD rfl ⟨⟨⟨v, hv, hrow, _⟩, hz⟩, hB⟩ hK
    obtain ⟨Ar, cr, rfl, hsb⟩ := row_slB hrow
    obtain ⟨m, em⟩ : ∃ m, m = (lev i n).length := ⟨_, rfl⟩
    obtain ⟨sb, esb⟩ : ∃ sb, sb = sidesL i n := ⟨_, rfl⟩
    obtain ⟨t, et⟩ : ∃ t, t = leafD ⟨xr, xa, xl, xh, xf, xs⟩ s := ⟨_, rfl⟩
    have hm : sb.length = m := by rw [esb, em]; exact sides_len i n
    have hts : t.size = 64 := by rw [et]; exact tagD_size _ _ _
    have hml : m ≤ n := by rw [em]; exact lev_len n i
    rw [show (lev i n).map Prod.snd = sb from esb.symm] at hsb
    rw [← em, ← esb, ← et] at HR
    rw [← em] at hv
    rw [← et] at CL
    have hvc := hv.cell
    have hz : W.heap[w.heap.size]? = some (.cells #[.int .i64 xr, .int .i64 xa, .int .i64 xl, .int .i64 xh, .int .i64 xf, .bool xs] 25 (0, 0)) := hz
    have c0 : W.cell? ⟨w.heap.size, 0, none⟩ = some (.int .i64 xr) := by simp [World.cell?, hz]
    have c1 : W.cell? ⟨w.heap.size, 1, none⟩ = some (.int .i64 xa) := by simp [World.cell?, hz]
    have c2 : W.cell? ⟨w.heap.size, 2, none⟩ = some (.int .i64 xl) := by simp [World.cell?, hz]
    have c3 : W.cell? ⟨w.heap.size, 3, none⟩ = some (.int .i64 xh) := by simp [World.cell?, hz]
    have c4 : W.cell? ⟨w.heap.size, 4, none⟩ = some (.int .i64 xf) := by simp [World.cell?, hz]
    have c5 : W.cell? ⟨w.heap.size, 5, none⟩ = some (.bool xs) := by simp [World.cell?, hz]
    have HSB := Lib.hid hsb
    have HK := Lib.hid hK
    have HB := Lib.hid hB
    have HSP := Lib.hid (HS.out.below hB (Nat.le_refl _))
    have HTW := Lib.hid (HT.out.below hB (Nat.le_refl _))
    have HV := Lib.hid hv
    have HD : Hid (w.heap.size ≤ D) := by show _ ≤ _; omega
    clear hrow hsb hK hB hz em esb et hv hx HS HT hsz HB0 hD
    by_cases hlen : p.length = m
    · have q1 : ((p.length : Int) != (m : Int)) = false := by rw [hlen]; simp
      have HLEN := Lib.hid hlen
      clear hlen
      go_wp2_with fail
      refine (CL.out _ HTW.out).mono ?_
      rintro e w1 ⟨rfl, hb1⟩
      have HST : Hid (RCK W t (sb.reverse.zip p) p.length (.string t) (.int .i64 0) w1) := ⟨0, Nat.zero_le _, rfl, rfl, hb1⟩
      clear hb1 c0 c1 c2 c3 c4 c5 CL
      go_wp2_with fail
      go_loopw [16, 53] (fun tx j wr => RCK W t (sb.reverse.zip p) p.length tx j wr) (fun _ j _ => p.length - (intOf j).toNat)
      case atStart => exact HST.out
      case round =>
        clear HST
        obtain ⟨k, hk, rfl, rfl, hbr⟩ := hrel
        have hvr : wr.cell? ⟨w.heap.size + 1, 0, none⟩ = some (.slice Ar m cr) := (hbr.cell (p := ⟨w.heap.size + 1, 0, none⟩) HV.out.lt).trans hvc
        have hcs := climb_size t hts ((sb.reverse.zip p).take k)
        by_cases hlt : k < p.length
        · obtain ⟨q, hq⟩ : ∃ q, p[k]? = some q := ⟨_, List.getElem?_eq_getElem hlt⟩
          have hjm : m - 1 - k < sb.length := by have := HLEN.out; omega
          obtain ⟨b, hbq⟩ : ∃ b, sb[m - 1 - k]? = some b := ⟨_, List.getElem?_eq_getElem hjm⟩
          have hzip : (sb.reverse.zip p)[k]? = some (b, q) := by
            rw [List.getElem?_zip_eq_some]
            exact ⟨by rw [List.getElem?_reverse (by have := HLEN.out; omega), show sb.length - 1 - k = m - 1 - k by omega]; exact hbq, hq⟩
          have NXT := Lib.hid (climb_take t (sb.reverse.zip p) k b q hzip)
          obtain ⟨b1, o1, rfl, hc1⟩ := (HSP.out.below hbr (Nat.le_refl _)).at_ hq
          obtain ⟨b2, o2, rfl, hc2⟩ := (HSB.out.below hbr (Nat.le_refl _)).at_ hbq
          have d1 := hc1 0 _ rfl
          have d2 := hc2 0 _ rfl
          simp only [Nat.mul_one, Nat.add_zero] at d1 d2
          have hqs := HSH.out q (List.mem_of_getElem? hq)
          have ki1 : (k : Int) < (p.length : Int) := by omega
          have k00 : (0 : Int) ≤ (k : Int) := by omega
          have j0 : (0 : Int) ≤ (m : Int) - 1 - (k : Int) := by have := HLEN.out; omega
          have j1 : (m : Int) - 1 - (k : Int) < (m : Int) := by omega
          have j2 : ((m : Int) - 1 - (k : Int)).toNat = m - 1 - k := by have := HLEN.out; omega
          obtain ⟨cl, ecl⟩ : ∃ cl, cl = climb t ((sb.reverse.zip p).take k) := ⟨_, rfl⟩
          rw [← ecl] at NXT hcs ⊢
          have HBR := Lib.hid hbr
          clear hc1 hc2 hq hbq hzip ecl hbr hvc
          cases b with
          | true =>
            have CN := Lib.hid (node_any cl q wr (by omega) hqs (HTW.out.below HBR.out (Nat.le_refl _)))
            go_wp2_with fail
            refine CN.out.mono ?_
            rintro e w2 ⟨rfl, hb2⟩
            have KEY : Hid (RCK W t (sb.reverse.zip p) p.length (.string (nodeD cl q)) (.int .i64 ((k : Int) + 1)) w2) := ⟨k + 1, by omega, by go_num, by rw [NXT.out]; rfl, HBR.out.trans (hb2.mono HBR.out.size)⟩
            clear hb2 CN
            go_wp2_with fail
            refine ⟨KEY.out, ?_⟩
            simp [intOf]; omega
          | false =>
            have CN := Lib.hid (node_any q cl wr hqs (by omega) (HTW.out.below HBR.out (Nat.le_refl _)))
            go_wp2_with fail
            refine CN.out.mono ?_
            rintro e w2 ⟨rfl, hb2⟩
            have KEY : Hid (RCK W t (sb.reverse.zip p) p.length (.string (nodeD q cl)) (.int .i64 ((k : Int) + 1)) w2) := ⟨k + 1, by omega, by go_num, by rw [NXT.out]; rfl, HBR.out.trans (hb2.mono HBR.out.size)⟩
            clear hb2 CN
            go_wp2_with fail
            refine ⟨KEY.out, ?_⟩
            simp [intOf]; omega
        · obtain rfl : k = p.length := by omega
          have hzl : (sb.reverse.zip p).length = p.length := by rw [List.length_zip, List.length_reverse]; have := HLEN.out; omega
          have hcu : climb t ((sb.reverse.zip p).take p.length) = upD t sb p.reverse := by
            have := climb_up t sb p.reverse (by rw [List.length_reverse]; have := HLEN.out; omega)
            rw [List.reverse_reverse] at this
            rw [← this, List.take_of_length_le (by omega)]
          rw [hcu]
          obtain ⟨u, eu⟩ : ∃ u, u = upD t sb p.reverse := ⟨_, rfl⟩
          rw [← eu] at HR ⊢
          have HF : Hid (∀ w', Below w.heap.size w w' → R (.returned (.bool (u.toList == root.toList))) w') := fun w' hb => HR.out w' _ hb (by
            rw [decide_eq_true HLEN.out, Bool.true_and]
            by_cases hu : u = root
            · rw [decide_eq_true hu, hu]; simp
            · rw [decide_eq_false hu]
              cases hq : (u.toList == root.toList) with
              | false => rfl
              | true => exact absurd (bytes_tl (by simpa using hq)) hu)
          have HBR := Lib.hid hbr
          have HKR : Hid (wr.heap[D]? = some (.deferred (some []))) := (hbr.block D (Array.getElem?_eq_some_iff.1 HK.out).1).trans HK.out
          clear HR hbr hcu hzl eu hvc hvr hcs
          go_wp2_with fail
          refine ⟨by simp, .inl ⟨_, _, rfl, run_takeDeferred HKR.out, ?_⟩⟩
          refine ⟨_, results_tmp rfl _ _ _, ?_⟩
          exact HF.out _ ((HB.out.trans (HBR.out.mono HB.out.size)).trans (belowK_b (w := w) (Nat.le_refl _) wr D _ _ HD.out HKR.out rfl rfl))
    · have q1 : ((p.length : Int) != (m : Int)) = true := by
        unfold bne
        rw [show ((p.length : Int) == (m : Int)) = false from beq_eq_false_iff_ne.2 (by omega)]; rfl
      have HF : Hid (∀ w', Below w.heap.size w w' → R (.returned (.bool false)) w') := fun w' hb => HR.out w' false hb (by rw [decide_eq_false hlen]; rfl)
      clear hlen HR CL
      go_wp2_with fail
      refine ⟨by simp, .inl ⟨_, _, rfl, run_takeDeferred HK.out, ?_⟩⟩
      refine ⟨_, results_tmp rfl _ _ _, ?_⟩
      exact HF.out _ (HB.out.trans (belowK_b (w := w) (Nat.le_refl _) W D _ _ HD.out HK.out rfl rfl))
set_option maxRecDepth 100000 in
theorem check_out (root : ByteArray) (n i : Int) (x : Fac) (s : ByteArray) (A : Option Addr) (l c : Nat) (w : World) (h : n < 1 ∨ 4000 < n ∨ i < 0 ∨ n ≤ i) :
    Calls Tryd.prog 19 #[.string root, .int .i64 n, .int .i64 i, .agg (encF x).toArray, .string s, .slice A l c] w fun e w' => e = .returned (.bool false) ∧ Below w.heap.size w w' := by
  refine calls_marks 4 Tryd.func19 rfl ?_
  simp only [Tryd.ntmps19, List.size_toArray, List.length_cons, List.length_nil, Nat.reduceAdd, Nat.reduceSub, Array.replicate_succ, Array.replicate_zero, List.push_toArray, List.append_toArray, List.nil_append, List.cons_append]
  obtain ⟨xr, xa, xl, xh, xf, xs⟩ := x
  rw [show encF ⟨xr, xa, xl, xh, xf, xs⟩ = [.int .i64 xr, .int .i64 xa, .int .i64 xl, .int .i64 xh, .int .i64 xf, .bool xs] from rfl]
  by_cases g1 : n < 1
  · clear h
    go_wp2_with fail
    refine ⟨_, results_tmp rfl _ _ _, rfl, ?_⟩
    exact (Below.refl _ _).alloc (Nat.le_refl _) _
  by_cases g2 : 4000 < n
  · clear h
    go_wp2_with fail
    refine ⟨_, results_tmp rfl _ _ _, rfl, ?_⟩
    exact (Below.refl _ _).alloc (Nat.le_refl _) _
  by_cases g3 : i < 0
  · clear h
    go_wp2_with fail
    refine ⟨_, results_tmp rfl _ _ _, rfl, ?_⟩
    exact (Below.refl _ _).alloc (Nat.le_refl _) _
  · have g4 : n ≤ i := by omega
    clear h
    go_wp2_with fail
    refine ⟨_, results_tmp rfl _ _ _, rfl, ?_⟩
    exact (Below.refl _ _).alloc (Nat.le_refl _) _
theorem check_dis (root : ByteArray) (n i : Int) (x : Fac) (s : ByteArray) (p : List ByteArray) (A : Option Addr) (c : Nat) (w : World) (hx : x.Ok) (hss : s.size ≤ 1000000000) (hpl : p.length < 1000000000) (hs : SL w 1 encS A p) (hsh : Short p) (hT : HasT w) :
    Calls Tryd.prog 19 #[.string root, .int .i64 n, .int .i64 i, .agg (encF x).toArray, .string s, .slice A p.length c] w fun e w' => e = .returned (.bool (checkD root n i x s p)) ∧ Below w.heap.size w w' := by
  by_cases h : 1 ≤ n ∧ n ≤ 4000 ∧ 0 ≤ i ∧ i < n
  · obtain ⟨N, rfl⟩ : ∃ N : Nat, n = (N : Int) := ⟨n.toNat, by omega⟩
    obtain ⟨I, rfl⟩ : ∃ I : Nat, i = (I : Int) := ⟨i.toNat, by omega⟩
    refine check_in root N I x s p A c w (by omega) (by omega) hx hss hpl hs hsh hT _ (fun w' b hb hbe => ⟨?_, hb⟩)
    rw [hbe]
    unfold checkD
    rw [decide_eq_true h, Int.toNat_natCast, Int.toNat_natCast, Bool.true_and]
  · refine (check_out root n i x s A p.length c w (by omega)).mono ?_
    rintro e w' ⟨rfl, hb⟩
    refine ⟨?_, hb⟩
    unfold checkD
    rw [decide_eq_false h]; rfl
end Go.Proofs.YtamiaalfjmppaaaDoor
