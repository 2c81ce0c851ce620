/- Package chain: Fork. Condition: the variables of digest and of strconv hold their numbers. -/
import Derived.Test.YtaaenobckipfkaaDoorCh6
namespace Go.Proofs.YtaaenobckipfkaaDoor
open Go.RowKit Go.Blk Go.Opn

def eqB (a b : E31) : Bool := decide (a.house = b.house ∧ a.seq = b.seq ∧ a.day = b.day ∧ a.prev.toList = b.prev.toList ∧ a.body.toList = b.body.toList ∧ a.r = b.r ∧ a.s = b.s)
def forkB (a b : E31) (pub : Int) : Bool := !eqB a b && (decide (a.house = b.house) && (decide (a.seq = b.seq) && (sgnB a pub && sgnB b pub)))
theorem fork_same {a b : E31} {pub : Int} (h : eqB a b = true) : forkB a b pub = false := by unfold forkB; rw [h]; rfl
theorem fork_house {a b : E31} {pub : Int} (h : ¬ a.house = b.house) : forkB a b pub = false := by unfold forkB; rw [decide_eq_false h, Bool.false_and, Bool.and_false]
theorem fork_seq {a b : E31} {pub : Int} (h : ¬ a.seq = b.seq) : forkB a b pub = false := by unfold forkB; rw [decide_eq_false h, Bool.false_and, Bool.and_false, Bool.and_false]
theorem fork_yes {a b : E31} {pub : Int} (h0 : eqB a b = false) (h1 : a.house = b.house) (h2 : a.seq = b.seq) : forkB a b pub = (sgnB a pub && sgnB b pub) := by
  unfold forkB; rw [h0, decide_eq_true h1, decide_eq_true h2]; simp
theorem box3 (w : World) (la lb : List Value) (v : Value) (T U : TypeId) : Blk (((w.alloc (.cells la.toArray T)).alloc (.cells lb.toArray T)).alloc (.cells #[v] U)) w.heap.size la T ∧
    Blk (((w.alloc (.cells la.toArray T)).alloc (.cells lb.toArray T)).alloc (.cells #[v] U)) (w.heap.size + 1) lb T ∧
    Blk (((w.alloc (.cells la.toArray T)).alloc (.cells lb.toArray T)).alloc (.cells #[v] U)) (w.heap.size + 1 + 1) [v] U ∧
    Below w.heap.size w (((w.alloc (.cells la.toArray T)).alloc (.cells lb.toArray T)).alloc (.cells #[v] U)) := by
  refine ⟨Blk.alloc (Blk.alloc (Blk.new w la T) _) _, ?_, ?_, (((Below.refl _ w).alloc (Nat.le_refl _) _).alloc (by simp) _).alloc (by simp; omega) _⟩
  · have := Blk.new (w.alloc (.cells la.toArray T)) lb T
    refine Blk.alloc ?_ _; simpa using this
  · have := Blk.new ((w.alloc (.cells la.toArray T)).alloc (.cells lb.toArray T)) [v] U
    simpa using this
set_option maxRecDepth 100000 in
set_option maxHeartbeats 8000000 in
theorem fork_any (a b : E31) (pub : Int) (w : World) (oa : a.Ok) (ob : b.Ok) (pa : a.prev.size ≤ 1000000000) (pb : b.prev.size ≤ 1000000000) (ya : a.body.size ≤ 1000000000) (yb : b.body.size ≤ 1000000000) (hT : HasT w) :
    Calls Tryd.prog 21 #[.agg (encE a).toArray, .agg (encE b).toArray, .int .i64 pub] w fun e w' => e = .returned (.bool (forkB a b pub)) ∧ Below w.heap.size w w' := by
  obtain ⟨ba, bb0, bq0, hbv⟩ := box3 w (encE a) (encE b) (.int .i64 pub) 37 3
  have SA := Lib.hid (sgn_any a (w.heap.size + 1 + 1) pub _ oa pa ya (hT.below hbv (Nat.le_refl _)) (bq0.cellD 0 _ rfl))
  have SB : Hid (∀ w1, Below _ _ w1 → _) := fun w1 (h : Below _ (((w.alloc (.cells (encE a).toArray 37)).alloc (.cells (encE b).toArray 37)).alloc (.cells #[.int .i64 pub] 3)) w1) => sgn_any b (w.heap.size + 1 + 1) pub w1 ob pb yb (hT.below (hbv.trans (h.mono hbv.size)) (Nat.le_refl _)) ((bq0.below h bq0.lt).cellD 0 _ rfl)
  have BB := Lib.hid bb0
  have HBV := Lib.hid hbv
  obtain ⟨ah, aq, ad, ap, ab, ar, az⟩ := a
  obtain ⟨bh, bq, bd, bp, bb, br, bz⟩ := b
  have c0 := ba.cellD 0 _ rfl
  have c1 := ba.cellD 1 _ rfl
  have c2 := ba.cellD 2 _ rfl
  have c3 := ba.cellD 3 _ rfl
  have c4 := ba.cellD 4 _ rfl
  have c5 := ba.cellD 5 _ rfl
  have c6 := ba.cellD 6 _ rfl
  have d0 := bb0.cellD 0 _ rfl
  have d1 := bb0.cellD 1 _ rfl
  have d2 := bb0.cellD 2 _ rfl
  have d3 := bb0.cellD 3 _ rfl
  have d4 := bb0.cellD 4 _ rfl
  have d5 := bb0.cellD 5 _ rfl
  have d6 := bb0.cellD 6 _ rfl
  unfold encE at c0 c1 c2 c3 c4 c5 c6 d0 d1 d2 d3 d4 d5 d6
  show Calls Tryd.prog 21 #[.agg #[.int .i64 ah, .int .i64 aq, .int .i64 ad, .string ap, .string ab, .int .i64 ar, .int .i64 az], .agg #[.int .i64 bh, .int .i64 bq, .int .i64 bd, .string bp, .string bb, .int .i64 br, .int .i64 bz], .int .i64 pub] w _
  clear ba bb0 bq0 hbv oa ob pa pb ya yb hT
  go_enter Tryd.func21, Tryd.ntmps21
  by_cases h1 : ah = bh
  · subst h1
    by_cases h2 : aq = bq
    · subst h2
      by_cases h3 : ad = bd
      · subst h3
        by_cases h4 : ap.toList = bp.toList
        · by_cases h5 : ab.toList = bb.toList
          · by_cases h6 : ar = br
            · subst h6
              by_cases h7 : az = bz
              · subst h7
                have hF : forkB ⟨ah, aq, ad, ap, ab, ar, az⟩ ⟨ah, aq, ad, bp, bb, ar, az⟩ pub = false := by exact fork_same (by unfold eqB; simp [h4, h5])
                have HF := Lib.hid hF
                clear hF
                go_wp2
                go_ret
                exact ⟨by rw [HF.out]; rfl, HBV.out⟩
              · have hF : forkB ⟨ah, aq, ad, ap, ab, ar, az⟩ ⟨ah, aq, ad, bp, bb, ar, bz⟩ pub = (sgnB ⟨ah, aq, ad, ap, ab, ar, az⟩ pub && sgnB ⟨ah, aq, ad, bp, bb, ar, bz⟩ pub) := by exact fork_yes (by unfold eqB; simp [h7]) rfl rfl
                have HF := Lib.hid hF
                clear hF
                go_wp2_with fail
                refine SA.out.mono ?_
                rintro e w1 ⟨rfl, hb1⟩
                have SB1 := Lib.hid (SB.out w1 hb1)
                have b1 := BB.out.below hb1 BB.out.lt
                have e0 := b1.cellD 0 _ rfl
                have e1 := b1.cellD 1 _ rfl
                have e2 := b1.cellD 2 _ rfl
                have e3 := b1.cellD 3 _ rfl
                have e4 := b1.cellD 4 _ rfl
                have e5 := b1.cellD 5 _ rfl
                have e6 := b1.cellD 6 _ rfl
                have HB1 := Lib.hid (HBV.out.trans (hb1.mono HBV.out.size))
                clear b1 hb1 SA SB
                cases hs : sgnB ⟨ah, aq, ad, ap, ab, ar, az⟩ pub with
                | true =>
                  rw [hs, Bool.true_and] at HF
                  clear hs
                  go_wp2_with fail
                  refine SB1.out.mono ?_
                  rintro e w2 ⟨rfl, hb2⟩
                  have FIN := Lib.hid (HB1.out.trans (hb2.mono HB1.out.size))
                  clear hb2
                  go_wp2_with fail
                  go_ret
                  exact ⟨by rw [HF.out]; rfl, FIN.out⟩
                | false =>
                  rw [hs, Bool.false_and] at HF
                  clear hs
                  go_wp2_with fail
                  go_ret
                  exact ⟨by rw [HF.out]; rfl, HB1.out⟩
            · have hF : forkB ⟨ah, aq, ad, ap, ab, ar, az⟩ ⟨ah, aq, ad, bp, bb, br, bz⟩ pub = (sgnB ⟨ah, aq, ad, ap, ab, ar, az⟩ pub && sgnB ⟨ah, aq, ad, bp, bb, br, bz⟩ pub) := by exact fork_yes (by unfold eqB; simp [h6]) rfl rfl
              have HF := Lib.hid hF
              clear hF
              go_wp2_with fail
              refine SA.out.mono ?_
              rintro e w1 ⟨rfl, hb1⟩
              have SB1 := Lib.hid (SB.out w1 hb1)
              have b1 := BB.out.below hb1 BB.out.lt
              have e0 := b1.cellD 0 _ rfl
              have e1 := b1.cellD 1 _ rfl
              have e2 := b1.cellD 2 _ rfl
              have e3 := b1.cellD 3 _ rfl
              have e4 := b1.cellD 4 _ rfl
              have e5 := b1.cellD 5 _ rfl
              have e6 := b1.cellD 6 _ rfl
              have HB1 := Lib.hid (HBV.out.trans (hb1.mono HBV.out.size))
              clear b1 hb1 SA SB
              cases hs : sgnB ⟨ah, aq, ad, ap, ab, ar, az⟩ pub with
              | true =>
                rw [hs, Bool.true_and] at HF
                clear hs
                go_wp2_with fail
                refine SB1.out.mono ?_
                rintro e w2 ⟨rfl, hb2⟩
                have FIN := Lib.hid (HB1.out.trans (hb2.mono HB1.out.size))
                clear hb2
                go_wp2_with fail
                go_ret
                exact ⟨by rw [HF.out]; rfl, FIN.out⟩
              | false =>
                rw [hs, Bool.false_and] at HF
                clear hs
                go_wp2_with fail
                go_ret
                exact ⟨by rw [HF.out]; rfl, HB1.out⟩
          · have hF : forkB ⟨ah, aq, ad, ap, ab, ar, az⟩ ⟨ah, aq, ad, bp, bb, br, bz⟩ pub = (sgnB ⟨ah, aq, ad, ap, ab, ar, az⟩ pub && sgnB ⟨ah, aq, ad, bp, bb, br, bz⟩ pub) := by exact fork_yes (by unfold eqB; simp [h5]) rfl rfl
            have HF := Lib.hid hF
            clear hF
            go_wp2_with fail
            refine SA.out.mono ?_
            rintro e w1 ⟨rfl, hb1⟩
            have SB1 := Lib.hid (SB.out w1 hb1)
            have b1 := BB.out.below hb1 BB.out.lt
            have e0 := b1.cellD 0 _ rfl
            have e1 := b1.cellD 1 _ rfl
            have e2 := b1.cellD 2 _ rfl
            have e3 := b1.cellD 3 _ rfl
            have e4 := b1.cellD 4 _ rfl
            have e5 := b1.cellD 5 _ rfl
            have e6 := b1.cellD 6 _ rfl
            have HB1 := Lib.hid (HBV.out.trans (hb1.mono HBV.out.size))
            clear b1 hb1 SA SB
            cases hs : sgnB ⟨ah, aq, ad, ap, ab, ar, az⟩ pub with
            | true =>
              rw [hs, Bool.true_and] at HF
              clear hs
              go_wp2_with fail
              refine SB1.out.mono ?_
              rintro e w2 ⟨rfl, hb2⟩
              have FIN := Lib.hid (HB1.out.trans (hb2.mono HB1.out.size))
              clear hb2
              go_wp2_with fail
              go_ret
              exact ⟨by rw [HF.out]; rfl, FIN.out⟩
            | false =>
              rw [hs, Bool.false_and] at HF
              clear hs
              go_wp2_with fail
              go_ret
              exact ⟨by rw [HF.out]; rfl, HB1.out⟩
        · have hF : forkB ⟨ah, aq, ad, ap, ab, ar, az⟩ ⟨ah, aq, ad, bp, bb, br, bz⟩ pub = (sgnB ⟨ah, aq, ad, ap, ab, ar, az⟩ pub && sgnB ⟨ah, aq, ad, bp, bb, br, bz⟩ pub) := by exact fork_yes (by unfold eqB; simp [h4]) rfl rfl
          have HF := Lib.hid hF
          clear hF
          go_wp2_with fail
          refine SA.out.mono ?_
          rintro e w1 ⟨rfl, hb1⟩
          have SB1 := Lib.hid (SB.out w1 hb1)
          have b1 := BB.out.below hb1 BB.out.lt
          have e0 := b1.cellD 0 _ rfl
          have e1 := b1.cellD 1 _ rfl
          have e2 := b1.cellD 2 _ rfl
          have e3 := b1.cellD 3 _ rfl
          have e4 := b1.cellD 4 _ rfl
          have e5 := b1.cellD 5 _ rfl
          have e6 := b1.cellD 6 _ rfl
          have HB1 := Lib.hid (HBV.out.trans (hb1.mono HBV.out.size))
          clear b1 hb1 SA SB
          cases hs : sgnB ⟨ah, aq, ad, ap, ab, ar, az⟩ pub with
          | true =>
            rw [hs, Bool.true_and] at HF
            clear hs
            go_wp2_with fail
            refine SB1.out.mono ?_
            rintro e w2 ⟨rfl, hb2⟩
            have FIN := Lib.hid (HB1.out.trans (hb2.mono HB1.out.size))
            clear hb2
            go_wp2_with fail
            go_ret
            exact ⟨by rw [HF.out]; rfl, FIN.out⟩
          | false =>
            rw [hs, Bool.false_and] at HF
            clear hs
            go_wp2_with fail
            go_ret
            exact ⟨by rw [HF.out]; rfl, HB1.out⟩
      · have hF : forkB ⟨ah, aq, ad, ap, ab, ar, az⟩ ⟨ah, aq, bd, bp, bb, br, bz⟩ pub = (sgnB ⟨ah, aq, ad, ap, ab, ar, az⟩ pub && sgnB ⟨ah, aq, bd, bp, bb, br, bz⟩ pub) := by exact fork_yes (by unfold eqB; simp [h3]) rfl rfl
        have HF := Lib.hid hF
        clear hF
        go_wp2_with fail
        refine SA.out.mono ?_
        rintro e w1 ⟨rfl, hb1⟩
        have SB1 := Lib.hid (SB.out w1 hb1)
        have b1 := BB.out.below hb1 BB.out.lt
        have e0 := b1.cellD 0 _ rfl
        have e1 := b1.cellD 1 _ rfl
        have e2 := b1.cellD 2 _ rfl
        have e3 := b1.cellD 3 _ rfl
        have e4 := b1.cellD 4 _ rfl
        have e5 := b1.cellD 5 _ rfl
        have e6 := b1.cellD 6 _ rfl
        have HB1 := Lib.hid (HBV.out.trans (hb1.mono HBV.out.size))
        clear b1 hb1 SA SB
        cases hs : sgnB ⟨ah, aq, ad, ap, ab, ar, az⟩ pub with
        | true =>
          rw [hs, Bool.true_and] at HF
          clear hs
          go_wp2_with fail
          refine SB1.out.mono ?_
          rintro e w2 ⟨rfl, hb2⟩
          have FIN := Lib.hid (HB1.out.trans (hb2.mono HB1.out.size))
          clear hb2
          go_wp2_with fail
          go_ret
          exact ⟨by rw [HF.out]; rfl, FIN.out⟩
        | false =>
          rw [hs, Bool.false_and] at HF
          clear hs
          go_wp2_with fail
          go_ret
          exact ⟨by rw [HF.out]; rfl, HB1.out⟩
    · have hF : forkB ⟨ah, aq, ad, ap, ab, ar, az⟩ ⟨ah, bq, bd, bp, bb, br, bz⟩ pub = false := by exact fork_seq h2
      have HF := Lib.hid hF
      clear hF
      go_wp2
      go_ret
      exact ⟨by rw [HF.out]; rfl, HBV.out⟩
  · have hF : forkB ⟨ah, aq, ad, ap, ab, ar, az⟩ ⟨bh, bq, bd, bp, bb, br, bz⟩ pub = false := by exact fork_house h1
    have HF := Lib.hid hF
    clear hF
    go_wp2
    go_ret
    exact ⟨by rw [HF.out]; rfl, HBV.out⟩
end Go.Proofs.YtaaenobckipfkaaDoor
