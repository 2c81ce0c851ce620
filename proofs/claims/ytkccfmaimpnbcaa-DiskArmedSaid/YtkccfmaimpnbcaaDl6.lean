/- The walk of DiskStable: the law answers true for every input. -/
import Derived.Test.YtkccfmaimpnbcaaDl5
import Derived.Test.YtkccfmaimpnbcaaDlP
namespace Go.Proofs.Ytkccfmaimpnbcaa
open Go.RowKit Go.Blk Go.Dk Go.Mp Go.Opn

theorem unwanted2 {o : Oper} {ops : Array Oper} {a : Act} {j t : Nat} {b b' : Bool} (hg : o.guard = some (j, b')) (hj : (ops[j]?).bind (·.dst) = some t) (ht : a.tmps[t]? = some (.bool b)) (hne : (b == b') = false) : Region.wanted o (yielded ops a.tmps) = false := by
  unfold Region.wanted yielded
  rw [hg]
  simp only [hj, Option.bind_some, ht]
  simpa using hne
def DoW (w0 : World) (G : Nat → Prop) (w : World) (b n : Nat) (d : DD) (e : Ending) (w' : World) : Prop :=
  ∃ r z, e = .returned (.tuple #[.string r, .int .i64 z]) ∧ DW w0 G w' b n d ∧ (∀ g, G g → w'.heap[g]? = w.heap[g]?) ∧ w.heap.size ≤ w'.heap.size
section
variable {w0 w : World} {G : Nat → Prop} {b n : Nat} {d : DD}
theorem DW.act (h : DW w0 G w b n d) (k s x : Int) (t : ByteArray) (o : Bool) (f : Int) (ha : (⟨k, s, x, t, o, f⟩ : Act44).Ok) (ht : t.size ≤ 100) (hfew : d.pend.length < 1000000) :
    Calls Try.prog 10 #[.pointer (some ⟨b, 0, none⟩), .agg #[.int .i64 k, .int .i64 s, .int .i64 x, .string t, .bool o, .int .i64 f]] w (DoW w0 G w b n (actD n d ⟨k, s, x, t, o, f⟩)) := by
  obtain ⟨bs, bm, pv, h1, h2, h3, h4⟩ := h
  refine (do_any h1 k s x t o f ha ht hfew).mono ?_
  rintro e w' ⟨r, z, he, bm1, pv1, hd, hk, hb, hp⟩
  obtain ⟨he2, h5, h6, h7⟩ := DW.step (v := .tuple #[.string r, .int .i64 z]) h2 h3 h4 ⟨he, bm1, pv1, hd, hk, hb, hp⟩
  exact ⟨r, z, he2, h5, h6, h7⟩
theorem DW.set (h : DW w0 G w b n d) {p : Addr} (hp : G p.block) (hB : w0.heap.size ≤ p.block) (v : Value) : DW w0 G (w.setCell p v) b n d := by
  obtain ⟨bs, bm, pv, h1, h2, h3, h4⟩ := h
  refine ⟨bs, bm, pv, h1.keep (F := fun k => k = p.block) ((Keep.refl (fun k => k = p.block) w).setCell (fun _ => rfl) v) (fun k hk e => (h2 k hk).2 (by rw [e]; exact hp)), h2, h3.setCell hB v, fun g hg => by have := h4 g hg; simpa [World.setCell] using this⟩
end
theorem sync_started (d : DD) : d.start.sync = ({ d.start with st := settled d.st d.pend d.pend.length 0, pend := [] }, 0) := by
  simp [DD.sync, DD.start, DD.failsB, DD.tick]
theorem made_bools (n : Nat) (hn : n ≤ 4000) (W : World) : (Instr.makeSlice 37 (.int .i64 (n : Int)) (.int .i64 (n : Int))).run Try.prog W =
    .ok (.slice (some ⟨W.heap.size, 0, none⟩) n n) (W.alloc (.cells (madeCells #[.bool false] n) 4)) := by
  have info4 : (Try.prog.info? 4).map (fun i => (i.zero, i.size, i.bytes)) = some (some (.bool false), 1, 1) := by kernel_rfl
  obtain ⟨i, hi, hz0, hz1, hz2⟩ := info_parts info4
  have h := run_make (P := Try.prog) W 37 4 i (.bool false) Try.underlying37 hi hz0 .i64 .i64 (n : Int) (n : Int) (by omega) (by omega) (by rw [hz2]; omega) (by omega)
  rw [h, hz1]
  simp only [Int.toNat_natCast, Nat.mul_one]; rfl
def R1 (w : World) (b n : Nat) (l : List Act44) (i : Value) (wr : World) : Prop :=
  ∃ k : Nat, k ≤ l.length ∧ i = .int .i64 k ∧ DW w (fun _ => False) wr b n (runA n (DD.new n) (l.take k)) ∧ (runA n (DD.new n) (l.take k)).pend.length ≤ k
theorem R1.more {w : World} {b n : Nat} {l : List Act44} {k : Nat} {x : Act44} {wr : World} (hx : l[k]? = some x) (hp : (runA n (DD.new n) (l.take k)).pend.length ≤ k) (hd : DW w (fun _ => False) wr b n (actD n (runA n (DD.new n) (l.take k)) x)) :
    R1 w b n l (.int .i64 ((k : Int) + 1)) wr := by
  have hk : k < l.length := (List.getElem?_eq_some_iff.1 hx).1
  refine ⟨k + 1, hk, by go_num, ?_, ?_⟩
  · rw [take_snoc' hx, runA_snoc]; exact hd
  · rw [take_snoc' hx, runA_snoc]; have := actD_pend n (runA n (DD.new n) (l.take k)) x; omega
/-- Which sectors have been written. -/
def bools (n : Nat) (p : List (Nat × List UInt8)) : List Value := (List.range n).map fun i => .bool (p.any fun x => x.1 == i)
theorem bools_at (n : Nat) (p : List (Nat × List UInt8)) (i : Nat) (h : i < n) : (bools n p)[i]? = some (.bool (p.any fun x => x.1 == i)) := by simp [bools, h]
theorem bools_nil (n : Nat) : List.replicate n (Value.bool false) = bools n [] := by
  apply List.ext_getElem?
  intro i
  by_cases hi : i < n <;> simp [bools, hi]
theorem bools_set (n : Nat) (p : List (Nat × List UInt8)) (x : Nat × List UInt8) : (bools n p).set x.1 (.bool true) = bools n (p ++ [x]) := by
  apply List.ext_getElem?
  intro i
  rw [List.getElem?_set]
  by_cases hi : i < n
  · rw [bools_at n _ i hi, bools_at n _ i hi]
    by_cases hx : x.1 = i
    · rw [if_pos hx, if_pos (by simpa [bools, hx] using hi)]; simp [hx]
    · rw [if_neg hx]; simp [hx]
  · by_cases hx : x.1 = i
    · rw [if_pos hx, if_neg (by simpa [bools, hx] using hi)]; simp [bools, hi]
    · rw [if_neg hx]; simp [bools, hi]
def G2 (v : Value) (wb k : Nat) : Prop := v.ownBlock = some k ∨ k = wb
def R2 (w : World) (b n : Nat) (d : DD) (v : Value) (was : List ByteArray) (wb : Nat) (l : List Act44) (i : Value) (wr : World) : Prop :=
  ∃ k : Nat, k ≤ l.length ∧ i = .int .i64 k ∧ DW w (G2 v wb) wr b n { d with pend := wrs n (l.take k) } ∧ wr.ownsRow w.heap.size 9 1 v n (was.map Value.string) ∧ Blk wr wb (bools n (wrs n (l.take k))) 4 ∧ w.heap.size ≤ wb
def R3 (w : World) (n : Nat) (v v2 : Value) (was now : List ByteArray) (wb : Nat) (p : List (Nat × List UInt8)) (i : Value) (wr : World) : Prop :=
  ∃ k : Nat, k ≤ n ∧ i = .int .i64 k ∧ wr.ownsRow w.heap.size 9 1 v n (was.map Value.string) ∧ wr.ownsRow w.heap.size 9 1 v2 n (now.map Value.string) ∧ Blk wr wb (bools n p) 4 ∧ Below w.heap.size w wr
theorem size_is (r : Int) (n : Nat) (w : World) (h0 : 0 ≤ r) (h1 : r ≤ 255) (e : 1 + r % 12 = n) : Calls Try.prog 8 #[.int .u8 r] w fun e w' => e = .returned (.int .i64 n) ∧ w = w' := by
  have := size_any r w h0 h1
  rwa [e] at this
theorem row_form {w : World} {base : Nat} {A : Option Addr} {m c : Nat} {T : TypeId} {l : List Value} (h : w.ownsRow base T 1 (.slice A m c) m l) (hm : 0 < m) : ∃ g, A = some ⟨g, 0, none⟩ ∧ base ≤ g ∧ g < w.heap.size ∧ ∀ (i : Nat) u, l[i]? = some u → w.cell? ⟨g, i, none⟩ = some u := by
  rcases h.2 with ⟨_, h0⟩ | ⟨g, cap, cur, e, _⟩
  · omega
  · injection e with e1
    subst e1
    obtain ⟨h1, h2⟩ := h.lt g rfl
    refine ⟨g, rfl, h1, h2, fun i u hu => ?_⟩
    have := h.cells (g := g) rfl i u hu
    rwa [addr_add, Nat.zero_add] at this
set_option maxRecDepth 100000 in
set_option maxHeartbeats 8000000 in
theorem stable_any (r : Int) (A1 A2 : Option Addr) (c1 c2 : Nat) (l1 l2 : List Act44) (x y : Int) (w : World) (hr : (Lit.int .u8 r).wf = true) (hx : (Lit.int .i64 x).wf = true) (_hy : (Lit.int .i64 y).wf = true)
    (h1 : SL w 6 encA A1 l1) (h2 : SL w 6 encA A2 l2) (o1 : ∀ a ∈ l1, a.Ok) (o2 : ∀ a ∈ l2, a.Ok) (n1 : l1.length ≤ 9223372036854775807) (n2 : l2.length ≤ 9223372036854775807) :
    Calls Try.prog 3 #[.int .u8 r, .slice A1 l1.length c1, .slice A2 l2.length c2, .int .i64 x, .int .i64 y] w fun e w' => e = .returned (.bool true) ∧ Below w.heap.size w w' := by
  obtain ⟨hr0, hr1⟩ := bounds_u8 hr
  obtain ⟨hx0, hx1⟩ := bounds_i64 hx
  have H1 := Lib.hid h1
  have H2 := Lib.hid h2
  have O1 := Lib.hid o1
  have O2 := Lib.hid o2
  clear hr hx _hy h1 h2 o1 o2
  cases k1 : okL l1 with
  | false =>
    go_enter Try.func3, Try.ntmps3
    go_wp2_with fail
    refine (head44_any _).mono ?_
    rintro e w1 ⟨rfl, hb1⟩
    have q1 := ok_any A1 c1 l1 w1 (H1.out.below hb1 (Nat.le_refl _)) n1
    rw [k1] at q1
    have Q1 := Lib.hid q1
    have HB := Lib.hid hb1
    clear q1 hb1
    go_wp2_with fail
    refine Q1.out.mono ?_
    rintro e w' ⟨rfl, rfl⟩
    go_wp2_with fail
    go_ret
    exact ⟨rfl, HB.out⟩
  | true =>
    cases k2 : okL l2 with
    | false =>
      go_enter Try.func3, Try.ntmps3
      go_wp2_with fail
      refine (head44_any _).mono ?_
      rintro e w1 ⟨rfl, hb1⟩
      have q1 := ok_any A1 c1 l1 w1 (H1.out.below hb1 (Nat.le_refl _)) n1
      rw [k1] at q1
      have q2 := ok_any A2 c2 l2 w1 (H2.out.below hb1 (Nat.le_refl _)) n2
      rw [k2] at q2
      have Q1 := Lib.hid q1
      have Q2 := Lib.hid q2
      have HB := Lib.hid hb1
      clear q1 q2 hb1
      go_wp2_with fail
      refine Q1.out.mono ?_
      rintro e w' ⟨rfl, rfl⟩
      go_wp2_with fail
      refine Q2.out.mono ?_
      rintro e w' ⟨rfl, rfl⟩
      go_wp2_with fail
      go_ret
      exact ⟨rfl, HB.out⟩
    | true =>
      obtain ⟨n, hn⟩ : ∃ n : Nat, 1 + r % 12 = (n : Int) := ⟨(1 + r % 12).toNat, by omega⟩
      have hn1 : 1 ≤ n := by omega
      have hn2 : n ≤ 12 := by omega
      have t1 : ∀ a ∈ l1, a.text.size ≤ 100 := fun a ha => by have := k1; unfold okL at this; simp at this; exact this.1 a ha
      have t2 : ∀ a ∈ l2, a.text.size ≤ 100 := fun a ha => by have := k2; unfold okL at this; simp at this; exact this.1 a ha
      have m1 : l1.length ≤ 60 := by have := k1; unfold okL at this; simp at this; exact this.2
      have m2 : l2.length ≤ 60 := by have := k2; unfold okL at this; simp at this; exact this.2
      have K1 := Lib.hid k1
      have K2 := Lib.hid k2
      have T1 := Lib.hid t1
      have T2 := Lib.hid t2
      have HN := Lib.hid hn
      clear k1 k2 t1 t2 hn
      go_enter Try.func3, Try.ntmps3
      go_wp2_with fail
      refine (head44_any _).mono ?_
      rintro e w1 ⟨rfl, hb1⟩
      have q1 := ok_any A1 c1 l1 w1 (H1.out.below hb1 (Nat.le_refl _)) n1
      rw [K1.out] at q1
      have q2 := ok_any A2 c2 l2 w1 (H2.out.below hb1 (Nat.le_refl _)) n2
      rw [K2.out] at q2
      have Q1 := Lib.hid q1
      have Q2 := Lib.hid q2
      have HB := Lib.hid hb1
      clear q1 q2 hb1
      go_wp2_with fail
      refine Q1.out.mono ?_
      rintro e w' ⟨rfl, rfl⟩
      go_wp2_with fail
      refine Q2.out.mono ?_
      rintro e w' ⟨rfl, rfl⟩
      clear Q1 Q2 K1 K2
      go_wp2_with fail
      refine (size_is r n _ hr0 hr1 HN.out).mono ?_
      rintro e w' ⟨rfl, rfl⟩
      go_wp2_with fail
      refine (DW.new (G := fun _ => False) n hn1 (by omega) w w1 HB.out (fun _ f => f.elim)).mono ?_
      rintro e w2 ⟨b, rfl, hd, hb2⟩
      have HST : Hid (R1 w b n l1 (.int .i64 0) w2) := ⟨0, Nat.zero_le _, rfl, hd, by simp [runA, DD.new]⟩
      clear hd hb2 HB
      go_wp2_with fail
      go_loopw [14] (fun i wr => R1 w b n l1 i wr) (fun i _ => l1.length - (intOf i).toNat)
      case atStart => exact HST.out
      case round =>
        clear HST
        obtain ⟨k, hk, rfl, hD, hp⟩ := hrel
        by_cases hlt : k < l1.length
        · obtain ⟨a, ha⟩ : ∃ a, l1[k]? = some a := ⟨_, List.getElem?_eq_getElem hlt⟩
          obtain ⟨bb, off, rfl, hc⟩ := (H1.out.below hD.bl (Nat.le_refl _)).at_ ha
          have hok := O1.out a (List.mem_of_getElem? ha)
          have htx := T1.out a (List.mem_of_getElem? ha)
          obtain ⟨ak, asx, ab, atx, ao, af⟩ := a
          have i0 := hc 0 _ rfl
          have i1 := hc 1 _ rfl
          have i2 := hc 2 _ rfl
          have i3 := hc 3 _ rfl
          have i4 := hc 4 _ rfl
          have i5 := hc 5 _ rfl
          simp only [← Nat.add_assoc, Nat.add_zero] at i0 i1 i2 i3 i4 i5
          have C1 := Lib.hid (hD.act ak asx ab atx ao af hok htx (by omega))
          have HA := Lib.hid ha
          have HP := Lib.hid hp
          have hki : (k : Int) < (l1.length : Int) := by omega
          clear hc hD hok htx ha hp
          go_wp2_with fail
          refine C1.out.mono ?_
          rintro e w3 ⟨r3, z3, rfl, hd3, hx1, hx2⟩
          have KEY := Lib.hid (R1.more HA.out HP.out hd3)
          clear hd3 C1 i0 i1 i2 i3 i4 i5 hx1 hx2
          go_wp2_with fail
          go_roundw
          case rel =>
            go_light
            have key := KEY.out
            first | exact key | ((repeat apply Exists.intro); exact ⟨key, rfl⟩)
          case measure => simp [intOf]; omega
        · obtain rfl : k = l1.length := by omega
          rw [List.take_length] at hD hp
          obtain ⟨d0, ed0⟩ : ∃ d0, d0 = runA n (DD.new n) l1 := ⟨_, rfl⟩
          rw [← ed0] at hD hp
          have S1 := Lib.hid hD.start
          clear hD ed0 hlt hk
          go_wp2_with fail
          refine S1.out.mono ?_
          rintro e w3 ⟨rfl, hd3, hx1, hx2⟩
          have S2 := Lib.hid (hd3.sync (sync_started d0))
          clear hd3 S1 hx1 hx2
          go_wp2_with fail
          refine S2.out.mono ?_
          rintro e w4 ⟨rfl, hd4, hx1, hx2⟩
          clear hx1 hx2 S2
          obtain ⟨d, ed⟩ : ∃ d : DD, d = { d0.start with st := settled d0.st d0.pend d0.pend.length 0, pend := [] } := ⟨_, rfl⟩
          rw [← ed] at hd4
          have don : d.on = true := by rw [ed]; rfl
          have darm : d.armed = false := by rw [ed]; rfl
          have dpend : d.pend = [] := by rw [ed]
          have S3 := Lib.hid (hd4.cont don)
          have D4 := Lib.hid hd4
          have DON := Lib.hid don
          have DARM := Lib.hid darm
          have DPEND := Lib.hid dpend
          clear hd4 ed hp don darm dpend
          go_wp2_with fail
          refine S3.out.mono ?_
          rintro e w5 ⟨A5, c5, rfl, hown5, hb5⟩
          have hmk := made_bools n (by omega)
          obtain ⟨was, ewas⟩ : ∃ was, was = conts n d := ⟨_, rfl⟩
          rw [← ewas] at hown5
          obtain ⟨v5, ev5⟩ : ∃ v5, v5 = Value.slice A5 n c5 := ⟨_, rfl⟩
          have hst2 : R2 w b n d (.slice A5 n c5) was w5.heap.size l2 (.int .i64 0) (w5.alloc (.cells (madeCells #[.bool false] n) 4)) := by
            have hbl4 := D4.out.bl
            refine ⟨0, Nat.zero_le _, rfl, ?_, ?_, ?_, ?_⟩
            · have e0 : ({ d with pend := wrs n (l2.take 0) } : DD) = d := by
                have := DPEND.out
                cases d; simp at this; subst this; rfl
              rw [e0]
              refine D4.out.more (hb5.trans (((Below.refl _ w5).alloc (Nat.le_refl _) (.cells (madeCells #[.bool false] n) 4)).mono hb5.size)) (fun g hg => .inr ?_)
              rcases hg with hg | rfl
              · have := hown5.lt g hg; simp; omega
              · exact ⟨hb5.size, by simp⟩
            · have h6 := hown5.alloc (.cells (madeCells #[.bool false] n) 4)
              obtain ⟨h7, h8⟩ := h6
              refine ⟨h7, ?_⟩
              rcases h8 with h8 | ⟨g, cap, cur, h8, h9, h10⟩
              · exact .inl h8
              · exact .inr ⟨g, cap, cur, h8, Nat.le_trans hbl4.size h9, h10⟩
            · have := Blk.newA w5 (madeCells #[.bool false] n) 4
              rw [toList_madeCells_one] at this
              have e2 : List.replicate n (Value.bool false) = bools n (wrs n (l2.take 0)) := by
                exact bools_nil n
              rw [e2] at this; exact this
            · have := D4.out.bl.size; have := hb5.size; omega
          have HST := Lib.hid hst2
          have WAS := Lib.hid ewas
          clear hst2 hown5 hb5 S3 D4 ev5 ewas
          go_wp2_with fail
          go_loopw [18] (fun i wr => R2 w b n d (.slice A5 n c5) was w5.heap.size l2 i wr) (fun i _ => l2.length - (intOf i).toNat)
          case atStart => exact HST.out
          case round =>
            clear HST hmk
            obtain ⟨k, hk, rfl, hD, hwas, hwr, hwb⟩ := hrel
            by_cases hlt : k < l2.length
            · obtain ⟨a, ha⟩ : ∃ a, l2[k]? = some a := ⟨_, List.getElem?_eq_getElem hlt⟩
              obtain ⟨bb, off, rfl, hc⟩ := (H2.out.below hD.bl (Nat.le_refl _)).at_ ha
              have hok := O2.out a (List.mem_of_getElem? ha)
              have htx := T2.out a (List.mem_of_getElem? ha)
              have hwl := wrs_len n (l2.take k)
              have hwl2 : (l2.take k).length ≤ k := List.length_take_le _ _
              have hwp := write_plain (n := n) (d := { d with pend := wrs n (l2.take k) }) DON.out DARM.out a
              have hnx : wrs n (l2.take (k + 1)) = wrs n (l2.take k) ++ (okW n a).toList := by rw [take_snoc' ha, wrs_snoc]
              obtain ⟨P, eP⟩ : ∃ P, P = wrs n (l2.take k) := ⟨_, rfl⟩
              rw [← eP] at hD hwr hwl hwp hnx
              have HNX := Lib.hid hnx
              cases how : okW n a with
              | some z =>
                obtain ⟨z1, z2, z3, z4, z5⟩ := okW_some how
                rw [how] at hwp HNX
                obtain ⟨ak, asx, ab, atx, ao, af⟩ := a
                obtain ⟨m, rfl⟩ : ∃ m : Nat, asx = m := ⟨asx.toNat, by simp at z1; omega⟩
                simp only at z1 z2 z3 z4 hwp
                have hmn : m < n := by omega
                have i0 := hc 0 _ rfl
                have i1 := hc 1 _ rfl
                have i2 := hc 2 _ rfl
                have i3 := hc 3 _ rfl
                have i4 := hc 4 _ rfl
                have i5 := hc 5 _ rfl
                simp only [← Nat.add_assoc, Nat.add_zero] at i0 i1 i2 i3 i4 i5
                have C1 := Lib.hid (fun w => text_any ak m ab atx ao af w htx)
                have hZ3 : z.1 = m := by rw [z3]; rfl
                have HW := Lib.hid hwas
                have HR := Lib.hid hwr
                have HD := Lib.hid hD
                have HA := Lib.hid ha
                have hki : (k : Int) < (l2.length : Int) := by omega
                clear hc hD hok ha hwas hwr eP hnx how
                go_wp2_with fail
                refine Free.wp_region_free 11 [(10, .det (.string (actText atx ao)))] (fun w2 => w2.cell? ⟨bb, off + k * 6, none⟩ = some (.int .i64 ak) ∧ w2.cell? ⟨bb, off + k * 6 + 1, none⟩ = some (.int .i64 (m : Int)) ∧ w2.cell? ⟨bb, off + k * 6 + 2, none⟩ = some (.int .i64 ab) ∧ w2.cell? ⟨bb, off + k * 6 + 3, none⟩ = some (.string atx) ∧ w2.cell? ⟨bb, off + k * 6 + 4, none⟩ = some (.bool ao) ∧ w2.cell? ⟨bb, off + k * 6 + 5, none⟩ = some (.int .i64 af)) (by kernel_rfl) (by kernel_rfl) ?_ ⟨i0, i1, i2, i3, i4, i5⟩ (fun _ _ h g => ⟨cell_grow' h.1 g, cell_grow' h.2.1 g, cell_grow' h.2.2.1 g, cell_grow' h.2.2.2.1 g, cell_grow' h.2.2.2.2.1 g, cell_grow' h.2.2.2.2.2 g⟩) ?_
                · intro j mk r hf
                  simp only [Free.find] at hf
                  repeat' split at hf
                  all_goals (first | cases hf | skip)
                simp only [List.take_succ_cons, List.take_zero]
                clear i0 i1 i2 i3 i4 i5
                have k00 : (0 : Int) ≤ (k : Int) := by omega
                iterate 10 (apply Free.chain_still (by first | exact Free.wanted_of rfl rfl rfl | rfl) rfl; (intro w' hB hA; obtain ⟨q0, q1, q2, q3, q4, q5⟩ := hB; clear hA ; go_light; go_simp <;> rfl); (try simp only [Act.put, List.setIfInBounds_toArray, List.set_cons_succ, List.set_cons_zero]))
                apply Free.chain_det rfl rfl
                · intro w' hB hA
                  refine Free.opRun_call (f := 15) (args := #[.agg #[.int .i64 ak, .int .i64 (m : Int), .int .i64 ab, .string atx, .bool ao, .int .i64 af]]) (by clear hB hA; go_simp) ?_
                  refine (C1.out _).mono ?_
                  rintro e w3 ⟨rfl, hb3⟩
                  exact ⟨_, rfl, hb3, rfl⟩
                simp only [Act.put, List.setIfInBounds_toArray, List.set_cons_succ, List.set_cons_zero]
                apply Free.chain_nil
                intro wz _ hg _
                simp only [List.drop_succ_cons, List.drop_zero]
                have hz := grow_drew' hg
                have DZ := Lib.hid (HD.out.grow hz)
                have OZ := Lib.hid (row_keep HW.out (fun g e => hz.block g (HW.out.lt g e).2))
                have WZ := Lib.hid (HR.out.below hz HR.out.lt)
                clear hg hz HD HW HR
                go_wp2_with fail
                refine (DZ.out.write (m : Int) (actText atx ao) (by show P.length < _; omega) hwp).mono ?_
                rintro e w6 ⟨rfl, hd6, hg6, hz6⟩
                have B6 := WZ.out.keepB (hg6 _ (.inr rfl))
                have O6 := row_keep OZ.out (fun g hg => hg6 g (.inl hg))
                have cm := B6.cellD m _ (bools_at n P m hmn)
                have fm := B6.frozen m
                have hd7 := hd6.set (p := ⟨w5.heap.size, m, none⟩) (.inr rfl) hwb (.bool true)
                have B7 := B6.set m (.bool true)
                have O7 := row_keep (w' := w6.setCell ⟨w5.heap.size, m, none⟩ (.bool true)) O6 (fun g hg => Below.heap_setCell w6 ⟨w5.heap.size, m, none⟩ _ g (fun e => row_ne O6 B6 (by decide) (by have e' : g = w5.heap.size := e; rw [← e']; exact hg)))
                have hzz : (bools n P).set m (.bool true) = bools n (wrs n (l2.take (k + 1))) := by rw [HNX.out, ← hZ3]; exact bools_set n P z
                have key : R2 w b n d (.slice A5 n c5) was w5.heap.size l2 (.int .i64 ((k : Int) + 1)) (w6.setCell ⟨w5.heap.size, m, none⟩ (.bool true)) := by
                  refine ⟨k + 1, hlt, by go_num, ?_, O7, ?_, hwb⟩
                  · rw [HNX.out]; exact hd7
                  · rw [← hzz]; exact B7
                have KEY := Lib.hid key
                have IS : Hid (SL w6 6 encA (some ⟨bb, off, none⟩) l2) := H2.out.below hd6.bl (Nat.le_refl _)
                obtain ⟨bb2, off2, e8, hc8⟩ := IS.out.at_ HA.out
                injection e8 with e8
                injection e8 with e9 e10
                subst e9 e10
                have j1 := hc8 1 _ rfl
                simp only [← Nat.add_assoc] at j1
                have hm0 : (0 : Int) ≤ (m : Int) := by omega
                have hmn1 : (m : Int) < (n : Int) := by omega
                have hmn2 : ¬ (n : Int) ≤ (m : Int) := by omega
                clear key hd6 hg6 hz6 B6 O6 hd7 B7 O7 hzz IS hc8 WZ OZ DZ C1 hwp
                go_wp2_with fail
                go_roundw
                case rel =>
                  go_light
                  have key := KEY.out
                  first | exact key | ((repeat apply Exists.intro); exact ⟨key, rfl⟩)
                case measure => simp [intOf]; omega
              | none =>
                rw [how] at hwp HNX
                obtain ⟨ak, asx, ab, atx, ao, af⟩ := a
                have i0 := hc 0 _ rfl
                have i1 := hc 1 _ rfl
                have i2 := hc 2 _ rfl
                have i3 := hc 3 _ rfl
                have i4 := hc 4 _ rfl
                have i5 := hc 5 _ rfl
                simp only [← Nat.add_assoc, Nat.add_zero] at i0 i1 i2 i3 i4 i5
                have C1 := Lib.hid (fun w => text_any ak asx ab atx ao af w htx)
                have HW := Lib.hid hwas
                have HR := Lib.hid hwr
                have HD := Lib.hid hD
                have HA := Lib.hid ha
                have hki : (k : Int) < (l2.length : Int) := by omega
                clear hc hD hok ha hwas hwr eP hnx how
                go_wp2_with fail
                refine Free.wp_region_free 11 [(10, .det (.string (actText atx ao)))] (fun w2 => w2.cell? ⟨bb, off + k * 6, none⟩ = some (.int .i64 ak) ∧ w2.cell? ⟨bb, off + k * 6 + 1, none⟩ = some (.int .i64 asx) ∧ w2.cell? ⟨bb, off + k * 6 + 2, none⟩ = some (.int .i64 ab) ∧ w2.cell? ⟨bb, off + k * 6 + 3, none⟩ = some (.string atx) ∧ w2.cell? ⟨bb, off + k * 6 + 4, none⟩ = some (.bool ao) ∧ w2.cell? ⟨bb, off + k * 6 + 5, none⟩ = some (.int .i64 af)) (by kernel_rfl) (by kernel_rfl) ?_ ⟨i0, i1, i2, i3, i4, i5⟩ (fun _ _ h g => ⟨cell_grow' h.1 g, cell_grow' h.2.1 g, cell_grow' h.2.2.1 g, cell_grow' h.2.2.2.1 g, cell_grow' h.2.2.2.2.1 g, cell_grow' h.2.2.2.2.2 g⟩) ?_
                · intro j mk r hf
                  simp only [Free.find] at hf
                  repeat' split at hf
                  all_goals (first | cases hf | skip)
                simp only [List.take_succ_cons, List.take_zero]
                clear i0 i1 i2 i3 i4 i5
                have k00 : (0 : Int) ≤ (k : Int) := by omega
                iterate 10 (apply Free.chain_still (by first | exact Free.wanted_of rfl rfl rfl | rfl) rfl; (intro w' hB hA; obtain ⟨q0, q1, q2, q3, q4, q5⟩ := hB; clear hA ; go_light; go_simp <;> rfl); (try simp only [Act.put, List.setIfInBounds_toArray, List.set_cons_succ, List.set_cons_zero]))
                apply Free.chain_det rfl rfl
                · intro w' hB hA
                  refine Free.opRun_call (f := 15) (args := #[.agg #[.int .i64 ak, .int .i64 asx, .int .i64 ab, .string atx, .bool ao, .int .i64 af]]) (by clear hB hA; go_simp) ?_
                  refine (C1.out _).mono ?_
                  rintro e w3 ⟨rfl, hb3⟩
                  exact ⟨_, rfl, hb3, rfl⟩
                simp only [Act.put, List.setIfInBounds_toArray, List.set_cons_succ, List.set_cons_zero]
                apply Free.chain_nil
                intro wz _ hg _
                simp only [List.drop_succ_cons, List.drop_zero]
                have hz := grow_drew' hg
                have DZ := Lib.hid (HD.out.grow hz)
                have OZ := Lib.hid (row_keep HW.out (fun g e => hz.block g (HW.out.lt g e).2))
                have WZ := Lib.hid (HR.out.below hz HR.out.lt)
                clear hg hz HD HW HR
                go_wp2_with fail
                refine (DZ.out.write asx (actText atx ao) (by show P.length < _; omega) hwp).mono ?_
                rintro e w6 ⟨rfl, hd6, hg6, hz6⟩
                have B6 := WZ.out.keepB (hg6 _ (.inr rfl))
                have O6 := row_keep OZ.out (fun g hg => hg6 g (.inl hg))
                have key : R2 w b n d (.slice A5 n c5) was w5.heap.size l2 (.int .i64 ((k : Int) + 1)) w6 := by
                  refine ⟨k + 1, hlt, by go_num, ?_, O6, ?_, hwb⟩
                  · rw [HNX.out]; simp only [Option.toList_none, List.append_nil]; exact hd6
                  · rw [HNX.out]; simp only [Option.toList_none, List.append_nil]; exact B6
                have KEY := Lib.hid key
                clear key hd6 hg6 hz6 B6 O6 WZ OZ DZ C1 hwp
                go_wp2_with fail
                go_roundw
                case rel =>
                  go_light
                  have key := KEY.out
                  first | exact key | ((repeat apply Exists.intro); exact ⟨key, rfl⟩)
                case measure => simp [intOf]; omega
            · obtain rfl : k = l2.length := by omega
              rw [List.take_length] at hD hwr
              obtain ⟨P, eP⟩ : ∃ P, P = wrs n l2 := ⟨_, rfl⟩
              rw [← eP] at hD hwr
              obtain ⟨d2, ed2⟩ : ∃ d2 : DD, d2 = { d with pend := P } := ⟨_, rfl⟩
              rw [← ed2] at hD
              have hd2 : d2.pend = P ∧ d2.st = d.st ∧ d2.on = true := by rw [ed2]; exact ⟨rfl, rfl, DON.out⟩
              have OK2 := Lib.hid hD.ok
              have D2 := Lib.hid hd2
              have S1 := Lib.hid (hD.fail x y hx0 hx1)
              have HW := Lib.hid hwas
              have HR := Lib.hid hwr
              clear hD hwas hwr ed2 eP hd2 hlt hk
              go_wp2_with fail
              refine S1.out.mono ?_
              rintro e w6 ⟨rfl, hd6, hg6, hz6⟩
              have S2 := Lib.hid hd6.start
              have O6 := Lib.hid (row_keep HW.out (fun g hg => hg6 g (.inl hg)))
              have B6 := Lib.hid (HR.out.keepB (hg6 _ (.inr rfl)))
              clear hd6 hg6 hz6 HW HR S1
              go_wp2_with fail
              refine S2.out.mono ?_
              rintro e w7 ⟨rfl, hd7, hg7, hz7⟩
              have O7 := Lib.hid (row_keep O6.out (fun g hg => hg7 g (.inl hg)))
              have B7 := Lib.hid (B6.out.keepB (hg7 _ (.inr rfl)))
              have S3 := Lib.hid (hd7.cont rfl)
              have HB7 := Lib.hid hd7.bl
              clear hd7 hg7 hz7 O6 B6 S2
              go_wp2_with fail
              refine S3.out.mono ?_
              rintro e w8 ⟨A8, c8, rfl, hown8, hb8⟩
              obtain ⟨now, enow⟩ : ∃ now, now = conts n (d2.fail x y).start := ⟨_, rfl⟩
              rw [← enow] at hown8
              have hst3 : R3 w n (.slice A5 n c5) (.slice A8 n c8) was now w5.heap.size P (.int .i64 0) w8 := by
                refine ⟨0, Nat.zero_le _, rfl, row_keep O7.out (fun g e => hb8.block g (O7.out.lt g e).2), ?_, B7.out.below hb8 B7.out.lt, HB7.out.trans (hb8.mono HB7.out.size)⟩
                obtain ⟨h7, h8⟩ := hown8
                refine ⟨h7, ?_⟩
                rcases h8 with h8 | ⟨g, cap, cur, h8, h9, h10⟩
                · exact .inl h8
                · exact .inr ⟨g, cap, cur, h8, Nat.le_trans HB7.out.size h9, h10⟩
              have heq : ∀ i, i < n → (P.any fun z => z.1 == i) = false → now[i]? = was[i]? := by
                intro i hi hany
                rw [enow, WAS.out]
                unfold conts
                rw [List.getElem?_map, List.getElem?_map, List.getElem?_range hi]
                simp only [Option.map_some]
                have e1 := stable_law OK2.out D2.out.2.2 x y (s := i) (fun z hz => by
                  rw [D2.out.1] at hz
                  have := List.any_eq_false.1 hany z hz
                  simpa using this)
                have e2 := text_plain DPEND.out i
                rw [e1, e2, D2.out.2.1]
              have HEQ := Lib.hid heq
              have HNL : Hid (now.length = n ∧ was.length = n) := ⟨by rw [enow, conts_len], by rw [WAS.out, conts_len]⟩
              have HST := Lib.hid hst3
              clear hst3 hown8 hb8 S3 O7 B7 HB7 enow heq
              go_wp2_with fail
              go_loopw [22] (fun i wr => R3 w n (.slice A5 n c5) (.slice A8 n c8) was now w5.heap.size P i wr) (fun i _ => n - (intOf i).toNat)
              case atStart => exact HST.out
              case round =>
                clear HST
                obtain ⟨k, hk, rfl, hwas, hnow, hwr, hbl⟩ := hrel
                by_cases hlt : k < n
                · obtain ⟨g5, rfl, hg51, hg52, hc5⟩ := row_form hwas (by omega)
                  obtain ⟨g8, rfl, hg81, hg82, hc8⟩ := row_form hnow (by omega)
                  obtain ⟨s1, hs1⟩ : ∃ s, was[k]? = some s := ⟨_, List.getElem?_eq_getElem (by have := HNL.out.2; omega)⟩
                  obtain ⟨s2, hs2⟩ : ∃ s, now[k]? = some s := ⟨_, List.getElem?_eq_getElem (by have := HNL.out.1; omega)⟩
                  have a1 := hc5 k (.string s1) (by rw [List.getElem?_map, hs1]; rfl)
                  have a2 := hc8 k (.string s2) (by rw [List.getElem?_map, hs2]; rfl)
                  have a3 := hwr.cellD k _ (bools_at n P k hlt)
                  have hki : (k : Int) < (n : Int) := by omega
                  have k00 : (0 : Int) ≤ (k : Int) := by omega
                  have W1 := Lib.hid hwas
                  have W2 := Lib.hid hnow
                  have W3 := Lib.hid hwr
                  have W4 := Lib.hid hbl
                  cases hany : (P.any fun z => z.1 == k) with
                  | true =>
                    rw [hany] at a3
                    clear hwas hnow hwr hbl hc5 hc8 hs1 hs2 hany
                    go_wp2_with fail
                    refine Free.wp_region_free 15 [] (fun w2 => w2.cell? ⟨w5.heap.size, k, none⟩ = some (.bool true)) (by kernel_rfl) (by kernel_rfl) ?_ a3 (fun _ _ h g => cell_grow' h g) ?_
                    · intro j mk r hf
                      simp only [Free.find] at hf
                      cases hf
                    simp only [List.take_succ_cons, List.take_zero]
                    clear a1 a2 a3
                    iterate 6 (apply Free.chain_still (by first | exact Free.wanted_of rfl rfl rfl | rfl) rfl; (intro w' hB hA; obtain q0 := hB; clear hA ; go_light; go_simp <;> rfl); (try simp only [Act.put, List.setIfInBounds_toArray, List.set_cons_succ, List.set_cons_zero]))
                    iterate 9 (apply Free.chain_skip (by exact unwanted2 rfl rfl rfl rfl); simp only [Act.put, List.setIfInBounds_toArray, List.set_cons_succ, List.set_cons_zero])
                    apply Free.chain_nil
                    intro wz _ hg _
                    simp only [List.drop_succ_cons, List.drop_zero]
                    have hz := grow_drew' hg
                    have key : R3 w n (.slice (some ⟨g5, 0, none⟩) n c5) (.slice (some ⟨g8, 0, none⟩) n c8) was now w5.heap.size P (.int .i64 ((k : Int) + 1)) wz :=
                      ⟨k + 1, hlt, by go_num, row_keep W1.out (fun g e => hz.block g (W1.out.lt g e).2), row_keep W2.out (fun g e => hz.block g (W2.out.lt g e).2), W3.out.below hz W3.out.lt, W4.out.trans (hz.mono W4.out.size)⟩
                    have KEY := Lib.hid key
                    clear hg hz key W1 W2 W3 W4
                    go_wp2
                    go_roundw
                    case rel =>
                      go_light
                      have key := KEY.out
                      first | exact key | ((repeat apply Exists.intro); exact ⟨key, rfl⟩)
                    case measure => simp [intOf]; omega
                  | false =>
                    have hss : s2 = s1 := by have := HEQ.out k hlt hany; rw [hs1, hs2] at this; exact Option.some.inj this
                    subst hss
                    rw [hany] at a3
                    clear hwas hnow hwr hbl hc5 hc8 hs1 hs2 hany
                    go_wp2_with fail
                    refine Free.wp_region_free 15 [] (fun w2 => w2.cell? ⟨w5.heap.size, k, none⟩ = some (.bool false) ∧ w2.cell? ⟨g5, k, none⟩ = some (.string s2) ∧ w2.cell? ⟨g8, k, none⟩ = some (.string s2)) (by kernel_rfl) (by kernel_rfl) ?_ ⟨a3, a1, a2⟩ (fun _ _ h g => ⟨cell_grow' h.1 g, cell_grow' h.2.1 g, cell_grow' h.2.2 g⟩) ?_
                    · intro j mk r hf
                      simp only [Free.find] at hf
                      cases hf
                    simp only [List.take_succ_cons, List.take_zero]
                    clear a1 a2 a3
                    iterate 15 (apply Free.chain_still (by first | exact Free.wanted_of rfl rfl rfl | rfl) rfl; (intro w' hB hA; obtain ⟨q0, q1, q2⟩ := hB; clear hA ; go_light; go_simp <;> rfl); (try simp only [Act.put, List.setIfInBounds_toArray, List.set_cons_succ, List.set_cons_zero]))
                    apply Free.chain_nil
                    intro wz _ hg _
                    simp only [List.drop_succ_cons, List.drop_zero]
                    have hz := grow_drew' hg
                    have key : R3 w n (.slice (some ⟨g5, 0, none⟩) n c5) (.slice (some ⟨g8, 0, none⟩) n c8) was now w5.heap.size P (.int .i64 ((k : Int) + 1)) wz :=
                      ⟨k + 1, hlt, by go_num, row_keep W1.out (fun g e => hz.block g (W1.out.lt g e).2), row_keep W2.out (fun g e => hz.block g (W2.out.lt g e).2), W3.out.below hz W3.out.lt, W4.out.trans (hz.mono W4.out.size)⟩
                    have KEY := Lib.hid key
                    clear hg hz key W1 W2 W3 W4
                    go_wp2
                    go_roundw
                    case rel =>
                      go_light
                      have key := KEY.out
                      first | exact key | ((repeat apply Exists.intro); exact ⟨key, rfl⟩)
                    case measure => simp [intOf]; omega
                · obtain rfl : k = n := by omega
                  have HB := Lib.hid hbl
                  clear hwas hnow hwr hbl
                  go_wp2_with fail
                  go_ret
                  exact ⟨rfl, HB.out⟩
end Go.Proofs.Ytkccfmaimpnbcaa
