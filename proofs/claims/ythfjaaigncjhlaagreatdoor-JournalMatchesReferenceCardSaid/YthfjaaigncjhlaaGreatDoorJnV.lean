/- The bytes of a disk as they read, whatever is pending; a journal's states and operations as functions. No condition. -/
import Derived.Test.YthfjaaigncjhlaaGreatDoorJnU
namespace Go.Jn
open Go Go.Dk

/-- The bytes as they read. -/
def eff (d : DD) : List UInt8 := allW d.st d.pend
def flush (d : DD) : DD := { d with st := eff d, pend := [] }
theorem allW_len {n : Nat} {st : List UInt8} (hl : st.length = 32 * n) : ∀ (p : List (Nat × List UInt8)), (∀ x ∈ p, x.1 < n ∧ x.2.length = 32) → (allW st p).length = 32 * n := by
  intro p
  unfold allW
  induction p generalizing st with
  | nil => intro _; exact hl
  | cons x p ih =>
    intro h
    rw [List.foldl_cons]
    obtain ⟨h1, h2⟩ := h x (by simp)
    exact ih (by rw [splice8_len _ _ _ (by omega)]; exact hl) (fun y hy => h y (by simp [hy]))
theorem DD.Ok.secs {n : Nat} {d : DD} (h : d.Ok n) : ∀ x ∈ d.pend, x.1 < n ∧ x.2.length = 32 := fun x hx => by
  obtain ⟨i, hi⟩ := List.mem_iff_getElem?.1 hx
  exact h.sec i x hi
theorem eff_len {n : Nat} {d : DD} (h : d.Ok n) : (eff d).length = 32 * n := allW_len h.len _ (DD.Ok.secs h)
theorem eff_nil {d : DD} (h : d.pend = []) : eff d = d.st := by unfold eff; rw [h]; rfl
theorem sec_all {n : Nat} {st : List UInt8} (hl : st.length = 32 * n) (s : Nat) : ∀ (m : Nat) (p : List (Nat × List UInt8)), p.length = m → (∀ x ∈ p, x.1 < n ∧ x.2.length = 32) →
    sec (allW st p) s = match lastOf p (s : Int) with
      | some j => ((p[j.toNat]?).map (·.2)).getD []
      | none => sec st s := by
  intro m
  induction m with
  | zero =>
    intro p hp _
    obtain rfl := List.length_eq_zero_iff.1 hp
    rfl
  | succ m ih =>
    intro p hp h
    rcases List.eq_nil_or_concat p with rfl | ⟨q, x, rfl⟩
    · simp at hp
    · rw [List.concat_eq_append] at hp h ⊢
      have hq : q.length = m := by simpa using hp
      have hqs : ∀ y ∈ q, y.1 < n ∧ y.2.length = 32 := fun y hy => h y (by simp [hy])
      obtain ⟨x1, x2⟩ := h x (by simp)
      have hlq := allW_len hl q hqs
      rw [allW_snoc, lastOf_snoc]
      show _ = match (if (s : Int) = (x.1 : Int) then some ((q.length : Nat) : Int) else lastOf q (s : Int)) with
        | some j => ((((q ++ [x]))[j.toNat]?).map (fun y : Nat × List UInt8 => y.2)).getD []
        | none => sec st s
      by_cases e : (s : Int) = (x.1 : Int)
      · have e' : s = x.1 := by omega
        rw [if_pos e, e', sec_splice_same x2 (by omega)]
        simp
      · rw [if_neg e, sec_splice_other (by omega) (by omega), ih q hq hqs]
        cases hl2 : lastOf q (s : Int) with
        | none => rfl
        | some j =>
          obtain ⟨k, y, rfl, hy, _⟩ := lastOf_some hl2
          have hk := (List.getElem?_eq_some_iff.1 hy).1
          simp only [Int.toNat_natCast]
          rw [List.getElem?_append_left hk]
theorem text_eff {n : Nat} {d : DD} (h : d.Ok n) (s : Nat) : d.text s = sec (eff d) s := by
  unfold eff
  rw [sec_all h.len s _ d.pend rfl (DD.Ok.secs h)]
  rfl
theorem has_yes {n s : Nat} (h : s < n) : DD.hasB n (s : Int) = true := by unfold DD.hasB; simp; omega
theorem read_eff {n : Nat} {d : DD} (h : d.Ok n) (hon : d.on = true) {s : Nat} (hs : s < n) : d.read n (s : Int) = (sec (eff d) s, 0) := by
  unfold DD.read
  rw [if_pos hon, if_pos (has_yes hs), Int.toNat_natCast, text_eff h s]
theorem DD.Ok.flush {n : Nat} {d : DD} (h : d.Ok n) : (flush d).Ok n := by
  have := h.settle d.pend.length 0 d.on d.armed
  rw [settled_all] at this
  exact this
theorem push_flush (d : DD) (s : Nat) (t : List UInt8) : flush ((flush d).push s t) = flush (d.push s t) := by
  unfold flush DD.push eff
  simp only [List.nil_append]
  rw [allW_snoc]
  rfl
theorem tick_un {d : DD} (h : d.armed = false) : d.tick = d := by unfold DD.tick; rw [if_neg (by rw [h]; simp)]
theorem fails_un {d : DD} (h : d.armed = false) : d.failsB = false := by unfold DD.failsB; rw [h]; rfl
theorem sync_un {d : DD} (h : d.armed = false) (hon : d.on = true) : d.sync = (flush d, 0) := by
  unfold DD.sync
  rw [if_pos hon, fails_un h, if_neg (by decide), settled_all, tick_un h]; rfl
theorem write_un {n s : Nat} {d : DD} {t : List UInt8} (h : d.armed = false) (hon : d.on = true) (hs : s < n) (ht : t.length = 32) : DD.write n d (s : Int) t = (d.push s t, 0) := by
  unfold DD.write
  rw [if_pos hon, if_pos ⟨has_yes hs, ht⟩, fails_un h, if_neg (by decide), tick_un (by exact h)]
theorem eff_flush (d : DD) : eff (flush d) = eff d := rfl
theorem flush_flush (d : DD) : flush (flush d) = flush d := rfl
/-- Without a failure, whether writes are pending or done is no matter for a store. -/
theorem storeGo_flush {n base off : Nat} {text : List UInt8} : ∀ (ks : List Nat) (d d' : DD), d.Ok n → d'.Ok n → d.armed = false → d.on = true → d'.armed = false → d'.on = true → flush d = flush d' → (∀ k ∈ ks, base + k < n) → d.pend.length + ks.length < 1000000 → d'.pend.length + ks.length < 1000000 →
    storeGo n base off text ks d = storeGo n base off text ks d'
  | [], d, d', _, _, h, hon, h', hon', e, _, _, _ => by
    show d.sync = d'.sync
    rw [sync_un h hon, sync_un h' hon', e]
  | k :: r, d, d', hok, hok', h, hon, h', hon', e, hks, f1, f2 => by
    have hk : base + k < n := hks k (by simp)
    have ee : eff d = eff d' := congrArg DD.st e
    have hr1 := read_eff hok hon hk
    have hr2 := read_eff hok' hon' hk
    rw [← ee] at hr2
    unfold storeGo
    rw [hr1, hr2]
    simp only [if_true]
    have hsl : (sec (eff d) (base + k)).length = 32 := sec_len (by rw [eff_len hok]; omega)
    have hpl : (patch (sec (eff d) (base + k)) (32 * k) off text).length = 32 := by rw [patch_len, hsl]
    obtain ⟨t, et⟩ : ∃ t, t = patch (sec (eff d) (base + k)) (32 * k) off text := ⟨_, rfl⟩
    rw [← et] at hpl ⊢
    rw [write_un h hon hk hpl, write_un h' hon' hk hpl]
    simp only [if_true]
    simp only [List.length_cons] at f1 f2
    refine storeGo_flush r _ _ (hok.push (has_yes hk) hpl (by omega)) (hok'.push (has_yes hk) hpl (by omega)) h hon h' hon' ?_ (fun j hj => hks j (by simp [hj])) ?_ ?_
    · rw [← push_flush, e, push_flush]
    · show (d.pend ++ [_]).length + _ < _; simp; omega
    · show (d'.pend ++ [_]).length + _ < _; simp; omega
theorem putD_flush {n s : Nat} {t : List UInt8} {d d' : DD} (h : d.armed = false) (hon : d.on = true) (h' : d'.armed = false) (hon' : d'.on = true) (e : flush d = flush d') (hs : s < n) (ht : t.length = 32) : putD n s t d = putD n s t d' := by
  unfold putD
  rw [write_un h hon hs ht, write_un h' hon' hs ht]
  simp only [if_true]
  rw [sync_un (by exact h) (by exact hon), sync_un (by exact h') (by exact hon'), ← push_flush, e, push_flush]
theorem commitD_flush {n a num h len : Nat} {d d' : DD} (h1 : d.armed = false) (hon : d.on = true) (h' : d'.armed = false) (hon' : d'.on = true) (e : flush d = flush d') (hs : 1 < n) (ha : a ≤ 1) : commitD n a num h len d = commitD n a num h len d' := by
  unfold commitD
  rw [putD_flush (s := 1 - a) (t := blankL) h1 hon h' hon' e (by omega) (by unfold blankL; simp)]
theorem changeD_flush {n a num h off : Nat} {text : List UInt8} {d : DD} (hok : d.Ok n) (h1 : d.armed = false) (hon : d.on = true) (hn : 4 ≤ n) (ha : a ≤ 1) (hb : 2 + h * ((n - 2) / 2) + (off + text.length + 31) / 32 ≤ n) (hf : d.pend.length < 900000) :
    changeD n a num h off text d = changeD n a num h off text (flush d) := by
  have hn2 := hok.n2
  unfold changeD
  by_cases ht : text = []
  · unfold storeD
    rw [if_pos ht, if_pos ht]
    simp only [if_true]
    exact commitD_flush h1 hon (by exact h1) (by exact hon) rfl (by omega) ha
  · have e : storeD n (2 + h * ((n - 2) / 2)) off text d = storeD n (2 + h * ((n - 2) / 2)) off text (flush d) := by
      unfold storeD
      rw [if_neg ht, if_neg ht]
      have hkl : (ksOf off text.length).length ≤ n := by unfold ksOf; rw [List.length_range']; omega
      refine storeGo_flush _ d (flush d) hok (DD.Ok.flush hok) h1 hon (by exact h1) (by exact hon) rfl (fun k hk => ?_) (by omega) ?_
      · unfold ksOf at hk; rw [List.mem_range'_1] at hk; omega
      · show 0 + _ < _; omega
    rw [e]
/-- A journal: its disk, the present value and its sector, the records, and whether it is broken. -/
structure JS where
  d : DD
  v : Nat × Nat × Nat
  a : Nat
  recs : List (List UInt8)
  broken : Bool
def JS.append (n : Nat) (s : JS) (b : List UInt8) : JS × Int :=
  if s.broken then (s, 13) else
  if 2000 < b.length then (s, 3) else
  if 32 * ((n - 2) / 2) < s.v.2.2 + (4 + b.length) ∨ s.v.1 = 999999999 then (s, 19) else
  if (changeD n s.a s.v.1 s.v.2.1 s.v.2.2 (frameL b) s.d).2 = 0 then
    ({ d := (changeD n s.a s.v.1 s.v.2.1 s.v.2.2 (frameL b) s.d).1, v := (s.v.1 + 1, s.v.2.1, s.v.2.2 + (frameL b).length), a := 1 - s.a, recs := s.recs ++ [b], broken := false }, 0)
  else ({ s with d := (changeD n s.a s.v.1 s.v.2.1 s.v.2.2 (frameL b) s.d).1, broken := true }, (changeD n s.a s.v.1 s.v.2.1 s.v.2.2 (frameL b) s.d).2)
def JS.compact (n : Nat) (s : JS) (l : List (List UInt8)) : JS × Int :=
  if s.broken then (s, 13) else
  if ∃ b ∈ l, 2000 < b.length then (s, 3) else
  if 32 * ((n - 2) / 2) < roomL l ∨ s.v.1 = 999999999 then (s, 19) else
  if (changeD n s.a s.v.1 (1 - s.v.2.1) 0 (framesL l) s.d).2 = 0 then
    ({ d := (changeD n s.a s.v.1 (1 - s.v.2.1) 0 (framesL l) s.d).1, v := (s.v.1 + 1, 1 - s.v.2.1, (framesL l).length), a := 1 - s.a, recs := l, broken := false }, 0)
  else ({ s with d := (changeD n s.a s.v.1 (1 - s.v.2.1) 0 (framesL l) s.d).1, broken := true }, (changeD n s.a s.v.1 (1 - s.v.2.1) 0 (framesL l) s.d).2)
/-- What Open finds: an error, or a journal. -/
def openD (n : Nat) (d : DD) : Int × Option ((Nat × Nat × Nat) × Nat × List (List UInt8)) :=
  if d.on = false then (21, none) else
  if n < 4 then (1, none) else
  match presV (sec (eff d) 0) (sec (eff d) 1) (32 * ((n - 2) / 2)) with
  | none => (20, none)
  | some (v, a) => match splitL (half (eff d) ((n - 2) / 2) v.2.1 v.2.2) with
    | none => (20, none)
    | some r => (0, some (v, a, r))
theorem open_found {n : Nat} {d : DD} {v : Nat × Nat × Nat} {a : Nat} {r : List (List UInt8)} (hon : d.on = true) (hn : 4 ≤ n) (h : Found n (eff d) v a r) : openD n d = (0, some (v, a, r)) := by
  unfold openD
  rw [if_neg (by rw [hon]; decide), if_neg (by omega), h.pres]
  simp only
  rw [h.split]
theorem found_open {n : Nat} {d : DD} {v : Nat × Nat × Nat} {a : Nat} {r : List (List UInt8)} {c : Int} (h : openD n d = (c, some (v, a, r))) : c = 0 ∧ d.on = true ∧ 4 ≤ n ∧ Found n (eff d) v a r := by
  unfold openD at h
  split at h
  · cases h
  · rename_i h1
    split at h
    · cases h
    · rename_i h2
      split at h
      · cases h
      · rename_i u b hp
        split at h
        · cases h
        · rename_i q hq
          cases h
          exact ⟨rfl, by simpa using h1, by omega, hp, hq⟩
end Go.Jn
