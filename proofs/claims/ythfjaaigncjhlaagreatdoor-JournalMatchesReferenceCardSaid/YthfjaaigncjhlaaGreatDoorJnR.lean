/- A journal's operations on a disk, as functions, and what they make of its bytes, also when the power fails. No condition. -/
import Derived.Test.YthfjaaigncjhlaaGreatDoorJnQ
namespace Go.Jn
open Go Go.Dk

def storeGo (n base off : Nat) (text : List UInt8) : List Nat → DD → DD × Int
  | [], d => d.sync
  | k :: r, d =>
    if (d.read n ((base + k : Nat) : Int)).2 = 0 then
      (if (DD.write n d ((base + k : Nat) : Int) (patch (d.read n ((base + k : Nat) : Int)).1 (32 * k) off text)).2 = 0 then
        storeGo n base off text r (DD.write n d ((base + k : Nat) : Int) (patch (d.read n ((base + k : Nat) : Int)).1 (32 * k) off text)).1
      else DD.write n d ((base + k : Nat) : Int) (patch (d.read n ((base + k : Nat) : Int)).1 (32 * k) off text))
    else (d, (d.read n ((base + k : Nat) : Int)).2)
def ksOf (off len : Nat) : List Nat := List.range' (off / 32) ((off + len + 31) / 32 - off / 32)
def storeD (n base off : Nat) (text : List UInt8) (d : DD) : DD × Int := if text = [] then (d, 0) else storeGo n base off text (ksOf off text.length) d
def putD (n s : Nat) (t : List UInt8) (d : DD) : DD × Int := if (DD.write n d (s : Int) t).2 = 0 then (DD.write n d (s : Int) t).1.sync else DD.write n d (s : Int) t
def blankL : List UInt8 := List.replicate 32 0
def commitD (n a num h len : Nat) (d : DD) : DD × Int :=
  if (putD n (1 - a) blankL d).2 = 0 then putD n (1 - a) (vt (num + 1) h len ++ vt (num + 1) h len) (putD n (1 - a) blankL d).1 else putD n (1 - a) blankL d
def changeD (n a num h off : Nat) (text : List UInt8) (d : DD) : DD × Int :=
  if (storeD n (2 + h * ((n - 2) / 2)) off text d).2 = 0 then commitD n a num h (off + text.length) (storeD n (2 + h * ((n - 2) / 2)) off text d).1 else storeD n (2 + h * ((n - 2) / 2)) off text d

/-- All pending writes at once. -/
def allW (st : List UInt8) (p : List (Nat × List UInt8)) : List UInt8 := p.foldl (fun s x => splice8 s (32 * x.1) x.2) st
theorem allW_snoc (st : List UInt8) (p : List (Nat × List UInt8)) (x : Nat × List UInt8) : allW st (p ++ [x]) = splice8 (allW st p) (32 * x.1) x.2 := by unfold allW; rw [List.foldl_append]; rfl
theorem sAt_take (st : List UInt8) (p : List (Nat × List UInt8)) (ws bs : Nat) : ∀ k, k ≤ p.length → k ≤ ws → sAt st p ws bs k = allW st (p.take k)
  | 0, _, _ => by rw [List.take_zero]; rfl
  | k + 1, h, hw => by
    have ih := sAt_take st p ws bs k (by omega) (by omega)
    unfold sAt
    have hx : p[k]? = some p[k] := List.getElem?_eq_getElem (by omega)
    rw [hx]
    simp only
    rw [if_pos (by omega), ih, List.take_succ_eq_append_getElem (by omega), allW_snoc]
theorem settled_all (st : List UInt8) (p : List (Nat × List UInt8)) (bs : Nat) : settled st p p.length bs = allW st p := by
  unfold settled
  rw [sAt_take st p _ bs _ (Nat.le_refl _) (Nat.le_refl _), List.take_length]
/-- Where every pending write has the byte that was there, the byte stays. -/
theorem sAt_same {st : List UInt8} {p : List (Nat × List UInt8)} {N : Nat} (ws bs : Nat) (hl : st.length = N) (hp : ∀ x ∈ p, 32 * x.1 + x.2.length ≤ N) {q : Nat} (hq : ∀ x ∈ p, 32 * x.1 ≤ q → q < 32 * x.1 + x.2.length → x.2[q - 32 * x.1]? = st[q]?) : ∀ k, (sAt st p ws bs k).length = N ∧ (sAt st p ws bs k)[q]? = st[q]?
  | 0 => ⟨hl, rfl⟩
  | k + 1 => by
    obtain ⟨h1, h2⟩ := sAt_same ws bs hl hp hq k
    unfold sAt
    cases hx : p[k]? with
    | none => exact ⟨h1, h2⟩
    | some x =>
      have hm := List.mem_of_getElem? hx
      have hb := hp x hm
      simp only
      split
      · refine ⟨by rw [splice8_len _ _ _ (by omega)]; exact h1, ?_⟩
        rw [splice_at (by omega)]
        split
        · rename_i hc; exact hq x hm hc.1 hc.2
        · exact h2
      · split
        · have ht : (x.2.take bs).length ≤ x.2.length := by rw [List.length_take]; omega
          refine ⟨by rw [splice8_len _ _ _ (by omega)]; exact h1, ?_⟩
          rw [splice_at (by omega)]
          split
          · rename_i hc
            rw [List.length_take] at hc
            rw [List.getElem?_take, if_pos (by omega)]
            exact hq x hm hc.1 (by omega)
          · exact h2
        · exact ⟨h1, h2⟩
theorem text_none {d : DD} {s : Nat} (h : ∀ x ∈ d.pend, x.1 ≠ s) : d.text s = sec d.st s := by
  unfold DD.text
  cases hl : lastOf d.pend (s : Int) with
  | none => rfl
  | some j =>
    obtain ⟨m, x, _, hx, hxs⟩ := lastOf_some hl
    exact absurd (by omega) (h x (List.mem_of_getElem? hx))
theorem read_ok {n : Nat} {d : DD} {s : Nat} (hon : d.on = true) (hs : s < n) (h : ∀ x ∈ d.pend, x.1 ≠ s) : d.read n (s : Int) = (sec d.st s, 0) := by
  have hb : DD.hasB n (s : Int) = true := by unfold DD.hasB; simp; omega
  unfold DD.read
  rw [if_pos hon, if_pos hb, Int.toNat_natCast, text_none h]
/-- A write on a disk that is on: it is pending, or the disk fails. -/
theorem write_ok {n : Nat} {d : DD} {s : Nat} {t : List UInt8} (hon : d.on = true) (hs : s < n) (ht : t.length = 32) :
    (DD.write n d (s : Int) t = ((d.push s t).tick, 0) ∧ d.failsB = false) ∨ (DD.write n d (s : Int) t = ((d.push s t).fail d.writes d.bytes, 21) ∧ d.failsB = true) := by
  have hb : DD.hasB n (s : Int) = true := by unfold DD.hasB; simp; omega
  unfold DD.write
  rw [if_pos hon, if_pos ⟨hb, ht⟩]
  cases hf : d.failsB with
  | true => exact .inr ⟨by simp, rfl⟩
  | false => exact .inl ⟨by simp, rfl⟩
theorem tick_st (d : DD) : d.tick.on = d.on ∧ d.tick.st = d.st ∧ d.tick.pend = d.pend ∧ d.tick.armed = d.armed := by unfold DD.tick; split <;> exact ⟨rfl, rfl, rfl, rfl⟩
theorem sync_ok {d : DD} (hon : d.on = true) :
    (d.sync.2 = 0 ∧ d.sync.1.on = true ∧ d.sync.1.pend = [] ∧ d.sync.1.st = allW d.st d.pend ∧ d.sync.1.armed = d.armed ∧ d.failsB = false) ∨ (d.sync = (d.fail d.writes d.bytes, 21) ∧ d.failsB = true) := by
  unfold DD.sync
  rw [if_pos hon]
  cases hf : d.failsB with
  | true => exact .inr ⟨by simp, rfl⟩
  | false =>
    refine .inl ?_
    obtain ⟨h1, _, _, h4⟩ := tick_st d
    rw [if_neg (by decide : ¬ (false = true))]
    exact ⟨rfl, by show d.tick.on = true; rw [h1]; exact hon, rfl, settled_all _ _ _, h4, rfl⟩
theorem fail_on {d : DD} (hon : d.on = true) (x y : Int) : (d.fail x y).on = false ∧ (d.fail x y).pend = [] ∧ (d.fail x y).st = settled d.st d.pend (clampW x) (clampB y) := by
  unfold DD.fail; rw [if_pos hon]; exact ⟨rfl, rfl, rfl⟩
theorem fails_armed {d : DD} (h : d.failsB = true) : d.armed = true := by unfold DD.failsB at h; rw [Bool.and_eq_true] at h; exact h.1

/-- What became of a disk: all is stored, or the power failed with some of it. -/
def Ends (n : Nat) (d : DD) (p : List (Nat × List UInt8)) (r : DD × Int) : Prop :=
  r.1.Ok n ∧ ((r.2 = 0 ∧ r.1.on = true ∧ r.1.pend = [] ∧ r.1.st = allW d.st p ∧ r.1.armed = d.armed) ∨
    (r.2 = 21 ∧ d.armed = true ∧ r.1.on = false ∧ r.1.pend = [] ∧ ∃ q ws bs, q <+: p ∧ bs ≤ 32 ∧ r.1.st = settled d.st q ws bs))
theorem clampB_le (x : Int) : clampB x ≤ 32 := by unfold clampB; omega
theorem DD.Ok.syncB {n : Nat} {d : DD} (h : d.Ok n) : d.sync.1.Ok n := by
  unfold DD.sync
  split
  · split
    · exact h.fail _ _
    · have ht := h.tick
      have := ht.settle d.pend.length 0 d.tick.on d.tick.armed
      obtain ⟨_, e2, e3, _⟩ := tick_st d
      rw [e2, e3] at this
      exact this
  · exact h
theorem sync_ends {n : Nat} {d d0 : DD} {p : List (Nat × List UInt8)} (hok : d.Ok n) (hon : d.on = true) (hst : d.st = d0.st) (hp : d.pend = p) (ha : d.armed = d0.armed) : Ends n d0 p d.sync := by
  refine ⟨DD.Ok.syncB hok, ?_⟩
  rcases sync_ok hon with ⟨h1, h2, h3, h4, h5, _⟩ | ⟨h1, h2⟩
  · exact .inl ⟨h1, h2, h3, by rw [h4, hst, hp], h5.trans ha⟩
  · rw [h1]
    obtain ⟨f1, f2, f3⟩ := fail_on hon d.writes d.bytes
    exact .inr ⟨rfl, by rw [← ha]; exact fails_armed h2, f1, f2, p, _, _, List.prefix_refl _, clampB_le _, by rw [f3, hst, hp]⟩
theorem storeGo_ends {n base off : Nat} {text : List UInt8} {d0 : DD} : ∀ (ks : List Nat) (d : DD) (pre : List (Nat × List UInt8)), d.Ok n → d.on = true → d.st = d0.st → d.pend = pre → d.armed = d0.armed → (∀ k ∈ ks, base + k < n) → ks.Nodup → (∀ k ∈ ks, ∀ x ∈ pre, x.1 ≠ base + k) → pre.length + ks.length < 1000000 →
    Ends n d0 (pre ++ ks.map (fun k => (base + k, patch (sec d0.st (base + k)) (32 * k) off text))) (storeGo n base off text ks d)
  | [], d, pre, hok, hon, hst, hp, ha, _, _, _, _ => by
    rw [List.map_nil, List.append_nil]
    exact sync_ends hok hon hst hp ha
  | k :: r, d, pre, hok, hon, hst, hp, ha, hks, hnd, hpre, hlen => by
    have hk : base + k < n := hks k (by simp)
    have hrd := read_ok (d := d) hon hk (by rw [hp]; exact hpre k (by simp))
    have hsl : (sec d.st (base + k)).length = 32 := sec_len (by rw [hok.len]; omega)
    have hpl : (patch (sec d.st (base + k)) (32 * k) off text).length = 32 := by rw [patch_len, hsl]
    unfold storeGo
    rw [hrd]
    simp only [if_true]
    have hb : DD.hasB n ((base + k : Nat) : Int) = true := by unfold DD.hasB; simp; omega
    have hfew : d.pend.length < 1000000 := by rw [hp]; simp at hlen; omega
    have hpush := hok.push hb hpl hfew
    rcases write_ok (n := n) (d := d) (s := base + k) hon hk hpl with ⟨hw, _⟩ | ⟨hw, hf⟩
    · rw [hw]
      simp only [if_true]
      obtain ⟨t1, t2, t3, t4⟩ := tick_st (d.push ((base + k : Nat) : Int) (patch (sec d.st (base + k)) (32 * k) off text))
      have := storeGo_ends (n := n) (base := base) (off := off) (text := text) (d0 := d0) r (d.push ((base + k : Nat) : Int) (patch (sec d.st (base + k)) (32 * k) off text)).tick (pre ++ [(base + k, patch (sec d0.st (base + k)) (32 * k) off text)]) hpush.tick (t1.trans hon) (t2.trans hst)
        (t3.trans (by show d.pend ++ [_] = _; rw [hp, Int.toNat_natCast, hst])) (t4.trans ha) (fun j hj => hks j (by simp [hj])) (List.nodup_cons.1 hnd).2
        (fun j hj x hx => by
          rcases List.mem_append.1 hx with hx | hx
          · exact hpre j (by simp [hj]) x hx
          · rw [List.mem_singleton] at hx
            subst hx
            intro e
            have : k = j := by simp at e; omega
            subst this
            exact (List.nodup_cons.1 hnd).1 hj)
        (by simp at hlen ⊢; omega)
      rw [List.append_assoc] at this
      exact this
    · rw [hw]
      rw [if_neg (by show ¬ ((21 : Int) = 0); decide)]
      have hon2 : (d.push ((base + k : Nat) : Int) (patch (sec d.st (base + k)) (32 * k) off text)).on = true := hon
      obtain ⟨f1, f2, f3⟩ := fail_on hon2 d.writes d.bytes
      refine ⟨hpush.fail _ _, .inr ⟨rfl, by rw [← ha]; exact fails_armed hf, f1, f2, pre ++ [(base + k, patch (sec d0.st (base + k)) (32 * k) off text)], clampW d.writes, clampB d.bytes, ?_, clampB_le _, ?_⟩⟩
      · rw [List.map_cons]
        exact ⟨r.map (fun k => (base + k, patch (sec d0.st (base + k)) (32 * k) off text)), by rw [List.append_assoc]; rfl⟩
      · rw [f3]
        show settled d.st (d.pend ++ [_]) _ _ = _
        rw [hp, hst, Int.toNat_natCast]
theorem put_ends {n s : Nat} {t : List UInt8} {d : DD} (hok : d.Ok n) (hon : d.on = true) (hp : d.pend = []) (hs : s < n) (ht : t.length = 32) : Ends n d [(s, t)] (putD n s t d) := by
  have hb : DD.hasB n (s : Int) = true := by unfold DD.hasB; simp; omega
  have hpush := hok.push hb ht (by rw [hp]; decide)
  unfold putD
  rcases write_ok (n := n) (d := d) (s := s) hon hs ht with ⟨hw, _⟩ | ⟨hw, hf⟩
  · rw [hw, if_pos rfl]
    obtain ⟨t1, t2, t3, t4⟩ := tick_st (d.push (s : Int) t)
    exact sync_ends hpush.tick (t1.trans hon) t2 (t3.trans (by show d.pend ++ [_] = _; rw [hp, Int.toNat_natCast]; rfl)) t4
  · rw [hw, if_neg (by show ¬ ((21 : Int) = 0); decide)]
    have hon2 : (d.push (s : Int) t).on = true := hon
    obtain ⟨f1, f2, f3⟩ := fail_on hon2 d.writes d.bytes
    refine ⟨hpush.fail _ _, .inr ⟨rfl, fails_armed hf, f1, f2, [(s, t)], clampW d.writes, clampB d.bytes, List.prefix_refl _, clampB_le _, ?_⟩⟩
    rw [f3]
    show settled d.st (d.pend ++ [_]) _ _ = _
    rw [hp, Int.toNat_natCast]; rfl
/-- The sectors of a store, all written: the text lies in its place. -/
theorem allW_map {st : List UInt8} {base k0 off : Nat} {text : List UInt8} : ∀ m, allW st ((List.range' k0 m).map (fun k => (base + k, patch (sec st (base + k)) (32 * k) off text))) = stAt st base k0 off text m
  | 0 => rfl
  | m + 1 => by
    rw [List.range'_concat, List.map_append, List.map_singleton, allW_snoc, allW_map m]
    simp only [Nat.one_mul]
    rfl
theorem store_ends {n base off : Nat} {text : List UInt8} {d : DD} (hok : d.Ok n) (hon : d.on = true) (hp : d.pend = []) (ht : text ≠ []) (hb : base + (off + text.length + 31) / 32 ≤ n) :
    Ends n d ((ksOf off text.length).map (fun k => (base + k, patch (sec d.st (base + k)) (32 * k) off text))) (storeD n base off text d) ∧
      allW d.st ((ksOf off text.length).map (fun k => (base + k, patch (sec d.st (base + k)) (32 * k) off text))) = splice8 d.st (32 * base + off) text := by
  have hlen := hok.len
  constructor
  · unfold storeD
    rw [if_neg ht]
    have := storeGo_ends (n := n) (base := base) (off := off) (text := text) (d0 := d) (ksOf off text.length) d [] hok hon rfl hp rfl
      (fun k hk => by unfold ksOf at hk; rw [List.mem_range'_1] at hk; omega) (by unfold ksOf; exact List.nodup_range' (step := 1)) (fun k hk x hx => by cases hx) (by unfold ksOf; rw [List.length_range', List.length_nil]; have := hok.n2; omega)
    rw [List.nil_append] at this
    exact this
  · unfold ksOf
    rw [allW_map, stAt_all (by omega) (by omega)]
end Go.Jn
