/- A change of a journal: the theorem. No condition. -/
import Derived.Test.YthfjaaigncjhlaaGreatDoorJnS
namespace Go.Jn
open Go Go.Dk

theorem Found.keep {n : Nat} {st st' : List UInt8} {v : Nat × Nat × Nat} {a : Nat} {recs : List (List UInt8)} (h : Found n st v a recs) (hp : presV (sec st' 0) (sec st' 1) (32 * ((n - 2) / 2)) = some (v, a)) (hh : half st' ((n - 2) / 2) v.2.1 v.2.2 = half st ((n - 2) / 2) v.2.1 v.2.2) : Found n st' v a recs :=
  ⟨hp, by rw [hh]; exact h.split⟩
/-- What a change ends in. -/
def Changed (n : Nat) (d : DD) (v : Nat × Nat × Nat) (a : Nat) (recs : List (List UInt8)) (w : Nat × Nat × Nat) (recs' : List (List UInt8)) (r : DD × Int) : Prop :=
  r.1.Ok n ∧ ((r.2 = 0 ∧ r.1.on = true ∧ r.1.pend = [] ∧ r.1.armed = d.armed ∧ Found n r.1.st w (1 - a) recs' ∧ Firm n r.1.st w (1 - a)) ∨
    (r.2 = 21 ∧ d.armed = true ∧ r.1.on = false ∧ r.1.pend = [] ∧ (Firm n d.st v a → (Found n r.1.st v a recs ∧ Firm n r.1.st v a) ∨ (Found n r.1.st w (1 - a) recs' ∧ Firm n r.1.st w (1 - a)))))
theorem store_phase {n base off : Nat} {text : List UInt8} {d : DD} (hok : d.Ok n) (hon : d.on = true) (hp : d.pend = []) (hb : base + (off + text.length + 31) / 32 ≤ n) :
    (storeD n base off text d).1.Ok n ∧ (((storeD n base off text d).2 = 0 ∧ (storeD n base off text d).1.on = true ∧ (storeD n base off text d).1.pend = [] ∧ (storeD n base off text d).1.st = splice8 d.st (32 * base + off) text ∧ (storeD n base off text d).1.armed = d.armed) ∨
      ((storeD n base off text d).2 = 21 ∧ d.armed = true ∧ (storeD n base off text d).1.on = false ∧ (storeD n base off text d).1.pend = [] ∧ ∀ q, ¬ (32 * base + off ≤ q ∧ q < 32 * base + off + text.length) → (storeD n base off text d).1.st[q]? = d.st[q]?)) := by
  by_cases ht : text = []
  · unfold storeD
    rw [if_pos ht]
    exact ⟨hok, .inl ⟨rfl, hon, hp, by rw [ht, splice_nil], rfl⟩⟩
  · obtain ⟨⟨h1, h2⟩, h3⟩ := store_ends (n := n) (base := base) (off := off) (text := text) hok hon hp ht hb
    refine ⟨h1, ?_⟩
    rcases h2 with ⟨a1, a2, a3, a4, a5⟩ | ⟨a1, a2, a3, a4, q, ws, bs, a5, _, a6⟩
    · exact .inl ⟨a1, a2, a3, by rw [a4, h3], a5⟩
    · refine .inr ⟨a1, a2, a3, a4, fun Q hQ => ?_⟩
      rw [a6]
      have hlen := hok.len
      have hmem : ∀ x ∈ q, ∃ k, k ∈ ksOf off text.length ∧ x = (base + k, patch (sec d.st (base + k)) (32 * k) off text) := fun x hx => by
        obtain ⟨k, hk, e⟩ := List.mem_map.1 (a5.subset hx)
        exact ⟨k, hk, e.symm⟩
      have hkn : ∀ k ∈ ksOf off text.length, base + k < n := fun k hk => by
        unfold ksOf at hk; rw [List.mem_range'_1] at hk; omega
      have hpl : ∀ k, base + k < n → (patch (sec d.st (base + k)) (32 * k) off text).length = 32 := fun k hk => by rw [patch_len, sec_len (by omega)]
      refine (sAt_same (N := 32 * n) ws bs hlen (fun x hx => ?_) (fun x hx hq1 hq2 => ?_) _).2
      · obtain ⟨k, hk, rfl⟩ := hmem x hx
        rw [hpl k (hkn k hk)]
        have := hkn k hk
        show 32 * (base + k) + 32 ≤ 32 * n
        omega
      · obtain ⟨k, hk, rfl⟩ := hmem x hx
        have hk' := hkn k hk
        have hq1 : 32 * (base + k) ≤ Q := hq1
        have hq2 : Q < 32 * (base + k) + 32 := by rw [hpl k hk'] at hq2; exact hq2
        show (patch (sec d.st (base + k)) (32 * k) off text)[Q - 32 * (base + k)]? = _
        rw [patch_at _ _ _ _ _ (by rw [sec_len (by omega)]; omega), if_neg (by omega), sec_at (by omega)]
        congr 1; omega
theorem change_spec {n : Nat} {d : DD} {v : Nat × Nat × Nat} {a : Nat} {recs recs' : List (List UInt8)} {h off : Nat} {text : List UInt8} (hok : d.Ok n) (hon : d.on = true) (hp : d.pend = []) (hn : 4 ≤ n)
    (hf : Found n d.st v a recs) (hnum : v.1 < 999999999) (hh : h ≤ 1) (hroom : off + text.length ≤ 32 * ((n - 2) / 2)) (hfree : h = v.2.1 → v.2.2 ≤ off)
    (hnew : splitL (half (splice8 d.st (32 * (2 + h * ((n - 2) / 2)) + off) text) ((n - 2) / 2) h (off + text.length)) = some recs') :
    Changed n d v a recs (v.1 + 1, h, off + text.length) recs' (changeD n a v.1 h off text d) := by
  have hlen := hok.len
  have hn2 := hok.n2
  have ha := pres_at hf.pres
  obtain ⟨hv1, hv2⟩ := pres_range hf.pres
  obtain ⟨size, es⟩ : ∃ size, size = (n - 2) / 2 := ⟨_, rfl⟩
  have hsz : 2 + 2 * size ≤ n := by omega
  have hz1 : 1 ≤ size := by omega
  obtain ⟨b, eb⟩ : ∃ b, b = h * size := ⟨_, rfl⟩
  obtain ⟨c, ec⟩ : ∃ c, c = v.2.1 * size := ⟨_, rfl⟩
  have hb : (h = 0 ∧ b = 0) ∨ (h = 1 ∧ b = size) := by
    have : h = 0 ∨ h = 1 := by omega
    rcases this with rfl | rfl
    · exact .inl ⟨rfl, by rw [eb]; simp⟩
    · exact .inr ⟨rfl, by rw [eb]; simp⟩
  have hc : (v.2.1 = 0 ∧ c = 0) ∨ (v.2.1 = 1 ∧ c = size) := by
    have : v.2.1 = 0 ∨ v.2.1 = 1 := by omega
    rcases this with e | e
    · exact .inl ⟨e, by rw [ec, e]; simp⟩
    · exact .inr ⟨e, by rw [ec, e]; simp⟩
  rw [← es] at hroom hv2 hnew
  rw [← eb] at hnew
  have hdis : 32 * (2 + c) + v.2.2 ≤ 32 * (2 + b) + off ∨ 32 * (2 + b) + off + text.length ≤ 32 * (2 + c) := by
    rcases hb with ⟨h1, h2⟩ | ⟨h1, h2⟩ <;> rcases hc with ⟨h3, h4⟩ | ⟨h3, h4⟩
    · left; have := hfree (by omega); omega
    · right; omega
    · left; omega
    · left; have := hfree (by omega); omega
  have hbs : b ≤ size := by omega
  have hcs : c ≤ size := by omega
  obtain ⟨s1, s2⟩ := store_phase (n := n) (base := 2 + b) (off := off) (text := text) hok hon hp (by omega)
  unfold changeD
  rw [← es, ← eb]
  obtain ⟨r1, er1⟩ : ∃ r1, r1 = storeD n (2 + b) off text d := ⟨_, rfl⟩
  rw [← er1] at s1 s2 ⊢
  have hW : (splice8 d.st (32 * (2 + b) + off) text).length = 32 * n := by rw [splice8_len _ _ _ (by omega)]; exact hlen
  have hpres := hf.pres
  rw [← es] at hpres
  rcases s2 with ⟨a1, a2, a3, a4, a5⟩ | ⟨a1, a2, a3, a4, a6⟩
  · rw [if_pos a1]
    obtain ⟨st1, est1⟩ : ∃ st1, st1 = splice8 d.st (32 * (2 + b) + off) text := ⟨_, rfl⟩
    rw [← est1] at a4 hW hnew
    have k0 : ∀ s, s ≤ 1 → sec st1 s = sec d.st s := fun s hs => by rw [est1]; exact sec_splice_other (by omega) (by omega)
    have kh : half st1 size v.2.1 v.2.2 = half d.st size v.2.1 v.2.2 := by
      rw [est1]; exact half_other (by omega) (by rw [← ec]; exact hdis)
    have f1 : Found n st1 v a recs := hf.keep (by rw [k0 0 (by omega), k0 1 (by omega)]; exact hf.pres) (by rw [← es]; exact kh)
    have hfirm1 : Firm n d.st v a → Firm n st1 v a := fun hfm => hfm.keep (k0 a (by omega))
    -- the other sector is cleared
    have hb1 : (1 - a) < n := by omega
    obtain ⟨p1, p2⟩ := put_ends (n := n) (s := 1 - a) (t := blankL) s1 a2 a3 hb1 (by unfold blankL; simp)
    unfold commitD
    obtain ⟨r2, er2⟩ : ∃ r2, r2 = putD n (1 - a) blankL r1.1 := ⟨_, rfl⟩
    rw [← er2] at p1 p2 ⊢
    have other : ∀ (st t : List UInt8), st.length = 32 * n → t.length ≤ 32 → sec (splice8 st (32 * (1 - a)) t) a = sec st a := fun st t hl ht => sec_splice_other (by omega) (by omega)
    have otherh : ∀ (st t : List UInt8) (x y : Nat), st.length = 32 * n → t.length ≤ 32 → half (splice8 st (32 * (1 - a)) t) size x y = half st size x y := fun st t x y hl ht => half_other (by omega) (.inr (by omega))
    rcases p2 with ⟨b1, b2, b3, b4, b5⟩ | ⟨b1, b2, b3, b4, q, ws, bs, b5, b6, b7⟩
    · rw [if_pos b1]
      have e2 : r2.1.st = splice8 st1 (32 * (1 - a)) blankL := by rw [b4, a4]; rfl
      have l2 : r2.1.st.length = 32 * n := p1.len
      have bl : blankL.length = 32 := by unfold blankL; simp
      have s2a : sec r2.1.st a = sec d.st a := by rw [e2, other _ _ hW (by omega), k0 a (by omega)]
      have s2b : sec r2.1.st (1 - a) = blankL := by rw [e2]; exact sec_splice_same bl (by omega)
      have h2v : half r2.1.st size v.2.1 v.2.2 = half d.st size v.2.1 v.2.2 := by rw [e2, otherh _ _ _ _ hW (by omega), kh]
      have h2n : half r2.1.st size h (off + text.length) = half st1 size h (off + text.length) := by rw [e2, otherh _ _ _ _ hW (by omega)]
      have vl : (vt (v.1 + 1) h (off + text.length)).length = 16 := vt_len (by omega) hh (by omega)
      have vvl : (vt (v.1 + 1) h (off + text.length) ++ vt (v.1 + 1) h (off + text.length)).length = 32 := by rw [List.length_append, vl]
      obtain ⟨q1, q2⟩ := put_ends (n := n) (s := 1 - a) (t := vt (v.1 + 1) h (off + text.length) ++ vt (v.1 + 1) h (off + text.length)) p1 b2 b3 hb1 vvl
      have hpv : parseV (vt (v.1 + 1) h (off + text.length) ++ vt (v.1 + 1) h (off + text.length)) (32 * size) = some (v.1 + 1, h, off + text.length) := parse_vt (by omega) hh (by omega) hroom
      obtain ⟨vv, evv⟩ : ∃ vv, vv = vt (v.1 + 1) h (off + text.length) ++ vt (v.1 + 1) h (off + text.length) := ⟨_, rfl⟩
      rw [← evv] at q1 q2 vvl hpv ⊢
      obtain ⟨r3, er3⟩ : ∃ r3, r3 = putD n (1 - a) vv r2.1 := ⟨_, rfl⟩
      rw [← er3] at q1 q2 ⊢
      have full : ∀ st3, st3 = splice8 r2.1.st (32 * (1 - a)) vv → Found n st3 (v.1 + 1, h, off + text.length) (1 - a) recs' ∧ Firm n st3 (v.1 + 1, h, off + text.length) (1 - a) := fun st3 e3 => by
        have s3a : sec st3 a = sec d.st a := by rw [e3, other _ _ l2 (by omega), s2a]
        have s3b : sec st3 (1 - a) = vv := by rw [e3]; exact sec_splice_same vvl (by omega)
        refine ⟨⟨?_, ?_⟩, .inl ?_⟩
        · exact pres_new hf.pres s3a (by rw [s3b, ← es]; exact hpv) rfl
        · rw [← es]
          show splitL (half st3 size h (off + text.length)) = _
          rw [e3, otherh _ _ _ _ l2 (by omega), h2n]; exact hnew
        · rw [s3b, ← es]; exact hpv
      refine ⟨q1, ?_⟩
      rcases q2 with ⟨c1, c2, c3, c4, c5⟩ | ⟨c1, c2, c3, c4, q, ws, bs, c5, c6, c7⟩
      · obtain ⟨g1, g2⟩ := full r3.1.st (by rw [c4]; rfl)
        exact .inl ⟨c1, c2, c3, by rw [c5, b5, a5], g1, g2⟩
      · refine .inr ⟨c1, by rw [← a5, ← b5]; exact c2, c3, c4, fun hfm => ?_⟩
        obtain ⟨k, hk, ek⟩ := settled_one (st := r2.1.st) (ws := ws) c5 c6 vvl
        rw [← c7] at ek
        by_cases hk32 : k = 32
        · subst hk32
          rw [List.take_of_length_le (by omega)] at ek
          exact .inr (full _ ek)
        · left
          have tl : (vv.take k).length ≤ 32 := by rw [List.length_take]; omega
          have s3a : sec r3.1.st a = sec d.st a := by rw [ek, other _ _ l2 tl, s2a]
          have s3b : sec r3.1.st (1 - a) = vv.take k ++ List.replicate (32 - k) 0 := by
            rw [ek, sec_splice_part tl (by omega), s2b, List.length_take, Nat.min_eq_left (by omega)]
            unfold blankL
            rw [List.drop_replicate]
          refine ⟨hf.keep (pres_keep hf.pres hfm s3a (by rw [s3b]; exact parse_torn vv k _ vvl (by omega))) ?_, hfm.keep s3a⟩
          rw [← es, ek, otherh _ _ _ _ l2 tl, h2v]
    · rw [if_neg (by rw [b1]; decide)]
      refine ⟨p1, .inr ⟨b1, by rw [← a5]; exact b2, b3, b4, fun hfm => .inl ?_⟩⟩
      have bl : blankL.length = 32 := by unfold blankL; simp
      obtain ⟨k, hk, ek⟩ := settled_one (st := r1.1.st) (ws := ws) b5 b6 bl
      rw [← b7, a4] at ek
      have tl : (blankL.take k).length ≤ 32 := by rw [List.length_take]; omega
      have s3a : sec r2.1.st a = sec d.st a := by rw [ek, other _ _ hW tl, k0 a (by omega)]
      have h3 : half r2.1.st size v.2.1 v.2.2 = half d.st size v.2.1 v.2.2 := by rw [ek, otherh _ _ _ _ hW tl, kh]
      refine ⟨hf.keep ?_ (by rw [← es]; exact h3), hfm.keep s3a⟩
      by_cases hk0 : k = 0
      · subst hk0
        rw [List.take_zero, splice_nil] at ek
        rw [ek, k0 0 (by omega), k0 1 (by omega)]; exact hf.pres
      · refine pres_keep hf.pres hfm s3a (parse_zero ?_)
        rw [ek, sec_splice_part tl (by omega)]
        unfold blankL
        rw [List.take_replicate, List.getElem?_append_left (by rw [List.length_replicate]; omega), List.getElem?_replicate, if_pos (by omega)]
  · rw [if_neg (by rw [a1]; decide)]
    refine ⟨s1, .inr ⟨a1, a2, a3, a4, fun hfm => .inl ?_⟩⟩
    have k0 : ∀ s, s ≤ 1 → sec r1.1.st s = sec d.st s := fun s hs => sec_agree fun q h1 h2 => a6 q (by omega)
    have kh : half r1.1.st size v.2.1 v.2.2 = half d.st size v.2.1 v.2.2 := half_agree fun q h1 h2 => a6 q (by rw [← ec] at h1 h2; omega)
    exact ⟨hf.keep (by rw [k0 0 (by omega), k0 1 (by omega)]; exact hf.pres) (by rw [← es]; exact kh), hfm.keep (k0 a (by omega))⟩
end Go.Jn
