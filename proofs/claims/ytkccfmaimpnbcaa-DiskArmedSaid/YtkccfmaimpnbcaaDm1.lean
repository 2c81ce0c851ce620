/- Two disks of a call's own; the plain law of an armed disk. -/
import Derived.Test.YtkccfmaimpnbcaaDl9
namespace Go.Proofs.Ytkccfmaimpnbcaa
open Go.RowKit Go.Blk Go.Dk Go.Mp Go.Opn

def TD (w0 w : World) (a b n : Nat) (d e : DD) : Prop :=
  ∃ cs cm qv, DW w0 (Fp b cs cm qv) w a n d ∧ DiskAt w b cs cm qv e n ∧ ∀ k, Fp b cs cm qv k → w0.heap.size ≤ k
section
variable {w0 w w' : World} {a b n : Nat} {d e d' : DD}
theorem TD.bl (h : TD w0 w a b n d e) : Below w0.heap.size w0 w := by obtain ⟨cs, cm, qv, h1, _⟩ := h; exact h1.bl
theorem TD.swap (h : TD w0 w a b n d e) : TD w0 w b a n e d := by
  obtain ⟨cs, cm, qv, ⟨bs, bm, pv, h1, h2, h3, h4⟩, h5, h6⟩ := h
  exact ⟨bs, bm, pv, ⟨cs, cm, qv, h5, fun k hk => ⟨h6 k hk, fun f => (h2 k f).2 hk⟩, h3, fun g hg => h1.lt hg⟩, h1, fun k hk => (h2 k hk).1⟩
theorem TD.grow (h : TD w0 w a b n d e) (hb : Below w.heap.size w w') : TD w0 w' a b n d e := by
  obtain ⟨cs, cm, qv, h1, h2, h3⟩ := h
  exact ⟨cs, cm, qv, h1.grow hb, h2.below hb, h3⟩
theorem DiskAt.same {bs bm : Nat} {pv : Value} (h : DiskAt w b bs bm pv d n) (hk : ∀ g, Fp b bs bm pv g → w'.heap[g]? = w.heap[g]?) : DiskAt w' b bs bm pv d n :=
  ⟨h.ok, h.blk.keepB (hk b (.inl rfl)), h.st.keepB (hk bs (.inr (.inl rfl))), row_keep h.row (fun k e => hk k (.inr (.inr (.inr e)))), h.map.keep (hk bm (.inr (.inr (.inl rfl))))⟩
def TdPost (w0 : World) (a b n : Nat) (d e : DD) (v : Value) (en : Ending) (w' : World) : Prop := en = .returned v ∧ TD w0 w' a b n d e
theorem TD.stepA {F : Nat} {args : Array Value} {v : Value} (h : TD w0 w a b n d e) (f : ∀ G, DW w0 G w a n d → Calls Try.prog F args w (DwPost w0 G w a n d' v)) : Calls Try.prog F args w (TdPost w0 a b n d' e v) := by
  obtain ⟨cs, cm, qv, h1, h2, h3⟩ := h
  refine (f _ h1).mono ?_
  rintro en w' ⟨rfl, h4, h5, _⟩
  exact ⟨rfl, cs, cm, qv, h4, h2.same h5, h3⟩
theorem TD.stepB {F : Nat} {args : Array Value} {v : Value} {e' : DD} (h : TD w0 w a b n d e) (f : ∀ G, DW w0 G w b n e → Calls Try.prog F args w (DwPost w0 G w b n e' v)) : Calls Try.prog F args w (TdPost w0 a b n d e' v) := by
  refine (h.swap.stepA f).mono ?_
  rintro en w' ⟨rfl, h4⟩
  exact ⟨rfl, h4.swap⟩
def TdDo (w0 : World) (a b n : Nat) (d e : DD) (en : Ending) (w' : World) : Prop := ∃ r z, en = .returned (.tuple #[.string r, .int .i64 z]) ∧ TD w0 w' a b n d e
theorem TD.actA (h : TD w0 w a b n d e) (k s x : Int) (t : ByteArray) (o : Bool) (f : Int) (ha : (⟨k, s, x, t, o, f⟩ : Act44).Ok) (ht : t.size ≤ 100) (hfew : d.pend.length < 1000000) :
    Calls Try.prog 10 #[.pointer (some ⟨a, 0, none⟩), .agg #[.int .i64 k, .int .i64 s, .int .i64 x, .string t, .bool o, .int .i64 f]] w (TdDo w0 a b n (actD n d ⟨k, s, x, t, o, f⟩) e) := by
  obtain ⟨cs, cm, qv, h1, h2, h3⟩ := h
  refine (h1.act k s x t o f ha ht hfew).mono ?_
  rintro en w' ⟨r, z, rfl, h4, h5, _⟩
  exact ⟨r, z, rfl, cs, cm, qv, h4, h2.same h5, h3⟩
theorem TD.actB (h : TD w0 w a b n d e) (k s x : Int) (t : ByteArray) (o : Bool) (f : Int) (ha : (⟨k, s, x, t, o, f⟩ : Act44).Ok) (ht : t.size ≤ 100) (hfew : e.pend.length < 1000000) :
    Calls Try.prog 10 #[.pointer (some ⟨b, 0, none⟩), .agg #[.int .i64 k, .int .i64 s, .int .i64 x, .string t, .bool o, .int .i64 f]] w (TdDo w0 a b n d (actD n e ⟨k, s, x, t, o, f⟩)) := by
  refine (h.swap.actA k s x t o f ha ht hfew).mono ?_
  rintro en w' ⟨r, z, rfl, h4⟩
  exact ⟨r, z, rfl, h4.swap⟩
theorem TD.new (h : DW w0 (fun _ => False) w a n d) (h1 : 1 ≤ n) (h2 : n ≤ 4000) :
    Calls Try.prog 9 #[.int .i64 n] w fun en w' => ∃ b, en = .returned (.pointer (some ⟨b, 0, none⟩)) ∧ TD w0 w' a b n d (DD.new n) := by
  obtain ⟨bs, bm, pv, h3, h4, h5, h6⟩ := h
  refine (DW.new (G := Fp a bs bm pv) n h1 h2 w0 w h5 (fun g hg => h3.lt hg)).mono ?_
  rintro en w' ⟨b, rfl, h7, h8⟩
  exact ⟨b, rfl, TD.swap ⟨bs, bm, pv, h7, h3.below h8, fun k hk => (h4 k hk).1⟩⟩
theorem TD.contA (h : TD w0 w a b n d e) (hon : d.on = true) : Calls Try.prog 13 #[.pointer (some ⟨a, 0, none⟩), .int .i64 n] w (ContPost w n d) := by
  obtain ⟨cs, cm, qv, h1, _⟩ := h
  exact h1.cont hon
theorem TD.contB (h : TD w0 w a b n d e) (hon : e.on = true) : Calls Try.prog 13 #[.pointer (some ⟨b, 0, none⟩), .int .i64 n] w (ContPost w n e) := h.swap.contA hon
end

/-- A disk as it would be if it were armed. -/
def lift (d : DD) (af l ws bs : Int) : DD := { d with armed := decide (0 ≤ af), after := l, writes := ws, bytes := bs }
def dec1 (l : Int) : Int := if 0 < l then l - 1 else l
section
variable {n : Nat} {d : DD} {af l ws bs : Int}
theorem arm_lift (hon : d.on = true) : d.arm af ws bs = lift d af af ws bs := by simp [DD.arm, hon, lift]
theorem write_none (hon : d.on = true) (a : Act44) (h : okW n a = none) : DD.write n (lift d af l ws bs) a.sector (actText a.text a.odd).data.toList = (lift d af l ws bs, 1) := by
  have hl : (actText a.text a.odd).data.toList.length = (actText a.text a.odd).size := by simp
  unfold okW at h
  split at h
  · cases h
  · rename_i hc
    unfold DD.write
    rw [if_pos (by exact hon), hl, if_neg hc]
theorem write_some (hon : d.on = true) (a : Act44) {x : Nat × List UInt8} (h : okW n a = some x) : DD.write n (lift d af l ws bs) a.sector (actText a.text a.odd).data.toList =
    (if (lift d af l ws bs).failsB then ((lift { d with pend := d.pend ++ [x] } af l ws bs).fail ws bs, 21) else ((lift { d with pend := d.pend ++ [x] } af l ws bs).tick, 0)) := by
  have hl : (actText a.text a.odd).data.toList.length = (actText a.text a.odd).size := by simp
  unfold okW at h
  split at h
  · rename_i hc
    simp only [Option.some.injEq] at h
    subst h
    unfold DD.write
    rw [if_pos (by exact hon), hl, if_pos hc]
    rfl
  · cases h
theorem fails_no (h0 : l ≠ 0) (h1 : 0 ≤ af → 0 ≤ l) : (lift d af l ws bs).failsB = false := by
  unfold DD.failsB lift
  by_cases h : 0 ≤ af
  · have := h1 h
    simp; omega
  · simp; omega
theorem fails_yes (h0 : l = 0) (h1 : 0 ≤ af) : (lift d af l ws bs).failsB = true := by
  unfold DD.failsB lift; simp [h0, h1]
theorem tick_lift (h1 : af < 0 → l < 0) : (lift d af l ws bs).tick = lift d af (dec1 l) ws bs := by
  unfold DD.tick lift dec1
  by_cases h : 0 < l
  · have : 0 ≤ af := by omega
    simp [h, this]
  · simp [h]
theorem sync_plain (hon : d.on = true) (ha : d.armed = false) : d.sync = ({ d with st := settled d.st d.pend d.pend.length 0, pend := [] }, 0) := by
  simp [DD.sync, hon, DD.failsB, ha, DD.tick]
theorem sync_no (hon : d.on = true) (h0 : l ≠ 0) (h1 : 0 ≤ af → 0 ≤ l) (h2 : af < 0 → l < 0) : (lift d af l ws bs).sync = (lift { d with st := settled d.st d.pend d.pend.length 0, pend := [] } af (dec1 l) ws bs, 0) := by
  unfold DD.sync
  rw [if_pos (by exact hon), fails_no h0 h1]
  simp only [Bool.false_eq_true, if_false]
  rw [tick_lift h2]; rfl
theorem sync_yes (hon : d.on = true) (h0 : l = 0) (h1 : 0 ≤ af) : (lift d af l ws bs).sync = ((lift d af l ws bs).fail ws bs, 21) := by
  unfold DD.sync
  rw [if_pos (by exact hon), fails_yes h0 h1]; rfl
theorem conts_eq {x y : DD} (h1 : x.st = y.st) (h2 : x.pend = y.pend) : conts n x = conts n y := by
  unfold conts DD.text; rw [h1, h2]
theorem conts_lift (d : DD) : conts n (lift d af l ws bs).start = conts n d.start := conts_eq rfl rfl
theorem conts_fail (hon : d.on = true) : conts n ((lift d af l ws bs).fail ws bs).start = conts n (d.fail ws bs).start := by
  have e1 : (lift d af l ws bs).on = true := hon
  apply conts_eq <;> simp [DD.fail, hon, e1, DD.start] <;> rfl
end
end Go.Proofs.Ytkccfmaimpnbcaa
