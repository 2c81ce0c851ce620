/- The reference of layer 34: Node, Leaf, Root, path, Prove. Condition: texts of at most 200 bytes. The reference of layer 34: leads and Check. Condition: texts of at most 200 bytes. -/
import Derived.Test.YtamiaalfjmppaaaDoorDw4
import Derived.Test.YtamiaalfjmppaaaDoorDw5
namespace Go.Proofs.YtamiaalfjmppaaaDoor
open Go.RowKit Go.Blk Go.Sg Go.Opn Go.Di Go.Apl Go.Rf

def Sml (l : List ByteArray) : Prop := ∀ b ∈ l, b.size ≤ 200
theorem Sml.take {l : List ByteArray} (h : Sml l) (k : Nat) : Sml (l.take k) := fun b hb => h b (List.mem_of_mem_take hb)
theorem Sml.drop {l : List ByteArray} (h : Sml l) (k : Nat) : Sml (l.drop k) := fun b hb => h b (List.mem_of_mem_drop hb)
theorem rootL_sml (l : List ByteArray) (h : Sml l) (h2 : l.length < 9223372036854775808) : (rootL l).size ≤ 200 := by
  by_cases hl : 2 ≤ l.length
  · rw [rootL_more hl h2]
    have : (nodeD (rootL (l.take (half l.length))) (rootL (l.drop (half l.length)))).size = 64 := tagD_size _ _ _
    omega
  · match l, hl with
    | [], _ => rw [rootL, if_pos (by decide)]; decide
    | [b], _ => rw [rootL_one]; exact h b (by simp)
    | _ :: _ :: _, hl => simp at hl
theorem nodeT_200 (a b : ByteArray) (h1 : a.size ≤ 200) (h2 : b.size ≤ 200) : (nodeT a b).size ≤ 1000000000 := by
  have s1 := dec_size (a.size : Int) (by omega) (by omega)
  have e : (nodeT a b).size = 4 + 1 + (dec (a.size : Int)).size + 1 + a.size + b.size := by unfold nodeT tagT; rw [ba_size, ba_size, ba_size, ba_size, ba_size]; rfl
  omega
theorem noder_any (a b : ByteArray) (w : World) (h1 : a.size ≤ 200) (h2 : b.size ≤ 200) :
    Calls Tryd.prog 56 #[.string a, .string b] w fun e w' => e = .returned (.string (nodeD a b)) ∧ Below w.heap.size w w' := by
  have N1 := Lib.hid (fun w => nodetext_any a b w (by omega) (by omega))
  have hz := nodeT_200 a b h1 h2
  have S1 : Hid (∀ w, Calls Tryd.prog 21 #[.string (nodeT a b)] w fun e w' => e = .returned (.string (nodeD a b)) ∧ Below w.heap.size w w') := fun w => refsum_any (nodeT a b) w hz
  obtain ⟨t, et⟩ : ∃ t, t = nodeT a b := ⟨_, rfl⟩
  obtain ⟨d, ed⟩ : ∃ d, d = nodeD a b := ⟨_, rfl⟩
  rw [← et] at N1 S1
  rw [← ed] at S1 ⊢
  clear et ed hz
  go_enter Tryd.func56, Tryd.ntmps56
  go_wp2_with fail
  refine (N1.out _).mono ?_
  rintro e w1 ⟨rfl, hb⟩
  have L := Lib.hid hb
  clear hb
  go_wp2_with fail
  refine (S1.out _).mono ?_
  rintro e w2 ⟨rfl, hb⟩
  have L2 := Lib.hid (L.out.trans (hb.mono L.out.size))
  clear hb
  go_wp2_with fail
  go_ret
  exact ⟨rfl, L2.out⟩
set_option maxRecDepth 100000 in
theorem leafr_any (x : Fac) (s : ByteArray) (w : World) (hx : x.Ok) (h1 : s.size ≤ 900000000) :
    Calls Tryd.prog 25 #[.agg (encF x).toArray, .string s] w fun e w' => e = .returned (.string (leafD x s)) ∧ Below w.heap.size w w' := by
  have N1 := Lib.hid (fun w => leaftext_any x s w hx (by omega))
  have hz := leafT_size x s hx h1
  have S1 : Hid (∀ w, Calls Tryd.prog 21 #[.string (leafT x s)] w fun e w' => e = .returned (.string (leafD x s)) ∧ Below w.heap.size w w') := fun w => refsum_any (leafT x s) w hz
  obtain ⟨t, et⟩ : ∃ t, t = leafT x s := ⟨_, rfl⟩
  obtain ⟨d, ed⟩ : ∃ d, d = leafD x s := ⟨_, rfl⟩
  rw [← et] at N1 S1
  rw [← ed] at S1 ⊢
  clear et ed hz hx
  obtain ⟨xr, xa, xl, xh, xf, xs⟩ := x
  rw [show encF ⟨xr, xa, xl, xh, xf, xs⟩ = [.int .i64 xr, .int .i64 xa, .int .i64 xl, .int .i64 xh, .int .i64 xf, .bool xs] from rfl] at N1 ⊢
  go_enter Tryd.func25, Tryd.ntmps25
  go_wp2_with fail
  refine (N1.out _).mono ?_
  rintro e w1 ⟨rfl, hb⟩
  have L : Hid (Below w.heap.size w w1) := (((Below.refl _ w).alloc (Nat.le_refl _) _).trans (hb.mono (by simp)))
  clear hb
  go_wp2_with fail
  refine (S1.out _).mono ?_
  rintro e w2 ⟨rfl, hb⟩
  have L2 := Lib.hid (L.out.trans (hb.mono L.out.size))
  clear hb
  go_wp2_with fail
  go_ret
  exact ⟨rfl, L2.out⟩
def RRPost (l : List ByteArray) (w : World) (e : Ending) (w' : World) : Prop := e = .returned (.string (rootOf l)) ∧ Below w.heap.size w w'
set_option maxRecDepth 100000 in
set_option maxHeartbeats 2000000 in
theorem rroot_any : ∀ (n : Nat) (l : List ByteArray) (A : Option Addr) (c : Nat) (w : World), l.length = n → n ≤ c → n < 1000000000 → SL w 1 encS A l → Sml l →
    Calls Tryd.prog 26 #[.slice A n c] w (RRPost l w) := by
  intro n
  induction n using Nat.strongRecOn with
  | _ n ih =>
    intro l A c w hl hc hn hs hsh
    obtain ⟨R, eR⟩ : ∃ R, R = RRPost l w := ⟨_, rfl⟩
    rw [← eR]
    by_cases h0 : n = 0
    · subst h0
      have e0 : l = [] := List.length_eq_zero_iff.1 hl
      subst e0
      have S1 : Hid (∀ w, Calls Tryd.prog 21 #[.string ⟨#[110, 111, 110, 101]⟩] w fun e w' => e = .returned (.string (sumB KC ⟨#[110, 111, 110, 101]⟩)) ∧ Below w.heap.size w w') := fun w => refsum_any _ w (by decide)
      have FIN : Hid (∀ w', Below w.heap.size w w' → R (.returned (.string (sumB KC ⟨#[110, 111, 110, 101]⟩))) w') := by
        intro w' hb; rw [eR]; exact ⟨by unfold rootOf; rw [if_pos rfl], hb⟩
      obtain ⟨d, ed⟩ : ∃ d, d = sumB KC ⟨#[110, 111, 110, 101]⟩ := ⟨_, rfl⟩
      rw [← ed] at S1 FIN
      clear ih hs hsh eR ed hl
      go_enter Tryd.func26, Tryd.ntmps26
      go_wp2_with fail
      refine (S1.out _).mono ?_
      rintro e w1 ⟨rfl, hb⟩
      have L := Lib.hid hb
      clear hb
      go_wp2_with fail
      exact FIN.out _ L.out
    have hln : l ≠ [] := fun e => by rw [e] at hl; simp at hl; omega
    obtain ⟨b, off, rfl, hcl⟩ := hs.cells hln
    by_cases h2 : n = 1
    · subst h2
      obtain ⟨x, rfl⟩ : ∃ x, l = [x] := by
        match l, hl with
        | [x], _ => exact ⟨x, rfl⟩
      have c0 := hcl 0 x rfl 0 _ rfl
      simp only [Nat.zero_mul, Nat.add_zero] at c0
      have FIN : Hid (R (.returned (.string x)) w) := by rw [eR]; exact ⟨by rw [rootOf_ne (by simp), rootL_one], Below.refl _ _⟩
      clear ih hs hsh hcl eR hl hln
      go_enter Tryd.func26, Tryd.ntmps26
      go_wp2_with fail
      exact FIN.out
    · have h3 : 2 ≤ n := by omega
      obtain ⟨k1, k2, _, _⟩ := half_facts n h3 (by omega)
      have k0 := half_pos n
      have HH := Lib.hid (fun w => split_any n w h3 (by omega))
      obtain ⟨k, ek⟩ : ∃ k, k = half n := ⟨_, rfl⟩
      have CA : Hid (∀ w', SL w' 1 encS (some ⟨b, off, none⟩) l → Calls Tryd.prog 26 #[.slice (some ⟨b, off, none⟩) (half n) c] w' fun e w2 => e = .returned (.string (rootL (l.take (half n)))) ∧ Below w'.heap.size w' w2) := fun w' h1 => by
        have := ih (half n) k1 (l.take (half n)) (some ⟨b, off, none⟩) c w' (by rw [List.length_take]; omega) (by omega) (by omega) (h1.take _) (hsh.take _)
        unfold RRPost at this
        rw [rootOf_ne (by rw [List.length_take]; omega)] at this
        exact this
      have CB : Hid (∀ w', SL w' 1 encS (some ⟨b, off, none⟩) l → Calls Tryd.prog 26 #[.slice (some ⟨b, off + half n, none⟩) (n - half n) (c - half n)] w' fun e w2 => e = .returned (.string (rootL (l.drop (half n)))) ∧ Below w'.heap.size w' w2) := fun w' h1 => by
        have := ih (n - half n) (by omega) (l.drop (half n)) (some ⟨b, off + half n, none⟩) (c - half n) w' (by rw [List.length_drop]; omega) (by omega) (by omega) (sl_drop h1) (hsh.drop _)
        unfold RRPost at this
        rw [rootOf_ne (by rw [List.length_drop]; omega)] at this
        exact this
      have s1 := rootL_sml (l.take (half n)) (hsh.take _) (by rw [List.length_take]; omega)
      have s2 := rootL_sml (l.drop (half n)) (hsh.drop _) (by rw [List.length_drop]; omega)
      have CN := Lib.hid (fun w => noder_any (rootL (l.take (half n))) (rootL (l.drop (half n))) w s1 s2)
      have hroot : rootOf l = nodeD (rootL (l.take (half n))) (rootL (l.drop (half n))) := by rw [rootOf_ne (by omega), rootL_more (by omega) (by omega), hl]
      obtain ⟨ra, era⟩ : ∃ ra, ra = rootL (l.take (half n)) := ⟨_, rfl⟩
      obtain ⟨rb, erb⟩ : ∃ rb, rb = rootL (l.drop (half n)) := ⟨_, rfl⟩
      rw [← era] at CA CN hroot
      rw [← erb] at CB CN hroot
      rw [← ek] at HH CA CB k0 k1 k2
      have FIN : Hid (∀ w', Below w.heap.size w w' → R (.returned (.string (nodeD ra rb))) w') := by
        intro w' hb; rw [eR]; exact ⟨by rw [hroot], hb⟩
      have HS := Lib.hid hs
      have hn0 : ((n : Int) == 0) = false := beq_eq_false_iff_ne.2 (by omega)
      have hn1 : ((n : Int) == 1) = false := beq_eq_false_iff_ne.2 (by omega)
      clear ih hs hcl eR hroot era erb ek s1 s2 hsh hl hln
      go_enter Tryd.func26, Tryd.ntmps26
      go_wp2_with (go_at_call 52; refine (HH.out _).mono ?_; rintro e w' ⟨rfl, rfl⟩)
      have hck : ¬ c = k := by omega
      have g1 : (0 : Int) ≤ (k : Int) := by omega
      have g2 : (k : Int) ≤ (n : Int) := by omega
      have g3 : (k : Int) ≤ (c : Int) := by omega
      refine Free.wp_region_free 9 [(3, .det (.string ra)), (7, .det (.string rb)), (8, .det (.string (nodeD ra rb)))] (fun w2 => Below w.heap.size w w2) (by kernel_rfl) (by kernel_rfl) (Free.mono_det det3) (Below.refl _ _).drew (fun _ _ h g => h.trans (Below.mono g h.size)) ?_
      simp only [List.take_succ_cons, List.take_zero]
      iterate 3 (apply Free.chain_still (by first | exact Free.wanted_of rfl rfl rfl | rfl) rfl; (intro w' hB hA; obtain qB := hB; clear hA  ; go_light; go_simp <;> rfl); (try simp only [Act.put, List.setIfInBounds_toArray, List.set_cons_succ, List.set_cons_zero]))
      apply Free.chain_det (by first | exact Free.wanted_of rfl rfl rfl | rfl) rfl
      · intro w' hB hA
        refine Free.opRun_call (f := 26) (args := #[.slice (some ⟨b, off, none⟩) k c]) (by clear hB hA; go_simp <;> rfl) ?_
        refine (CA.out w' (HS.out.below hB (Nat.le_refl _))).mono ?_
        rintro e w3 ⟨rfl, hb3⟩
        exact ⟨_, rfl, hb3, rfl⟩
      simp only [Act.put, List.setIfInBounds_toArray, List.set_cons_succ, List.set_cons_zero]
      iterate 3 (apply Free.chain_still (by first | exact Free.wanted_of rfl rfl rfl | rfl) rfl; (intro w' hB hA; obtain qB := hB; clear hA  ; go_light; go_simp <;> rfl); (try simp only [Act.put, List.setIfInBounds_toArray, List.set_cons_succ, List.set_cons_zero]))
      apply Free.chain_det (by first | exact Free.wanted_of rfl rfl rfl | rfl) rfl
      · intro w' hB hA
        refine Free.opRun_call (f := 26) (args := #[.slice (some ⟨b, off + k, none⟩) (n - k) (c - k)]) (by clear hB hA; go_simp <;> rfl) ?_
        refine (CB.out w' (HS.out.below hB (Nat.le_refl _))).mono ?_
        rintro e w3 ⟨rfl, hb3⟩
        exact ⟨_, rfl, hb3, rfl⟩
      simp only [Act.put, List.setIfInBounds_toArray, List.set_cons_succ, List.set_cons_zero]
      apply Free.chain_det (by first | exact Free.wanted_of rfl rfl rfl | rfl) rfl
      · intro w' hB hA
        refine Free.opRun_call (f := 56) (args := #[.string ra, .string rb]) (by clear hB hA; go_simp <;> rfl) ?_
        refine (CN.out w').mono ?_
        rintro e w3 ⟨rfl, hb3⟩
        exact ⟨_, rfl, hb3, rfl⟩
      simp only [Act.put, List.setIfInBounds_toArray, List.set_cons_succ, List.set_cons_zero]
      apply Free.chain_nil
      intro wy hBz _ _
      simp only [List.drop_succ_cons, List.drop_zero]
      have L := Lib.hid hBz
      clear hBz
      go_wp2_with fail
      exact FIN.out _ L.out
/-- A row of M elements in a block, or nil. -/
def rowV (M z : Nat) : Value := if M = 0 then .slice none 0 0 else .slice (some ⟨fstN z, 0, none⟩) M (sndN z)
theorem rowV_of {w : World} {B M : Nat} {v : Value} {xs : List Value} {e : TypeId} (h : w.ownsRow B e 1 v M xs) (h0 : M ≠ 0) : ∃ z, v = rowV M z := by
  rcases h.2 with ⟨_, h1⟩ | ⟨g, cap, cur, rfl, _, _, _, hc, _⟩
  · exact absurd h1 h0
  · obtain ⟨z, rfl, rfl⟩ := pairN g cap hc
    exact ⟨z, by unfold rowV; rw [if_neg h0]⟩
theorem path_more {l : List ByteArray} {i : Nat} (h : 2 ≤ l.length) (h2 : l.length < 9223372036854775808) :
    pathL l i = if i < half l.length then pathL (l.take (half l.length)) i ++ [rootL (l.drop (half l.length))] else pathL (l.drop (half l.length)) (i - half l.length) ++ [rootL (l.take (half l.length))] := by
  obtain ⟨k1, _, _, _⟩ := half_facts l.length h h2
  unfold pathL
  rw [lev_more h h2]
  split
  · rename_i hi
    rw [List.length_take, Nat.min_eq_left (by omega), decide_eq_true hi]
    show (rootL (l.drop _) :: outP (l.take _) _).reverse = _
    rw [List.reverse_cons]
  · rename_i hi
    rw [List.length_drop, decide_eq_false hi]
    show (rootL (l.take _) :: outP (l.drop _) _).reverse = _
    rw [List.reverse_cons]
theorem path_one {l : List ByteArray} {i : Nat} (h : l.length = 1) : pathL l i = [] := by
  unfold pathL
  rw [h, lev_small (by decide)]; rfl
def PaPost (l : List ByteArray) (i : Nat) (w : World) (e : Ending) (w' : World) : Prop :=
  (∃ z, e = .returned (rowV (pathL l i).length z) ∧ w'.ownsRow w.heap.size 9 1 (rowV (pathL l i).length z) (pathL l i).length ((pathL l i).map Value.string)) ∧ Below w.heap.size w w'
set_option maxRecDepth 100000 in
set_option maxHeartbeats 2000000 in
theorem rpath_any : ∀ (n : Nat) (i : Nat) (l : List ByteArray) (A : Option Addr) (c : Nat) (w : World), l.length = n → 1 ≤ n → i < n → n ≤ c → n < 1000000 → SL w 1 encS A l → Sml l →
    Calls Tryd.prog 55 #[.slice A n c, .int .i64 (i : Int)] w (PaPost l i w) := by
  intro n
  induction n using Nat.strongRecOn with
  | _ n ih =>
    intro i l A c w hl h1 hi hc hn hs hsh
    obtain ⟨R, eR⟩ : ∃ R, R = PaPost l i w := ⟨_, rfl⟩
    rw [← eR]
    by_cases h2 : n = 1
    · subst h2
      have FIN : Hid (R (.returned (.slice none 0 0)) w) := by
        rw [eR]
        unfold PaPost
        rw [path_one hl]
        exact ⟨⟨0, rfl, World.ownsRow_nil _ _ _ _⟩, Below.refl _ _⟩
      clear ih hs hsh eR hl
      go_enter Tryd.func55, Tryd.ntmps55
      go_wp2_with fail
      exact FIN.out
    · have h3 : 2 ≤ n := by omega
      obtain ⟨b, off, rfl, hcl⟩ := hs.cells (fun e => by rw [e] at hl; simp at hl; omega)
      obtain ⟨k1, k2, _, _⟩ := half_facts n h3 (by omega)
      have k0 := half_pos n
      have HH := Lib.hid (fun w => split_any n w h3 (by omega))
      have hpm := path_more (l := l) (i := i) (by omega) (by omega)
      rw [hl] at hpm
      have hn1 : ((n : Int) == 1) = false := beq_eq_false_iff_ne.2 (by omega)
      have HS := Lib.hid hs
      by_cases hik : i < half n
      · have CA : Hid (∀ w', SL w' 1 encS (some ⟨b, off, none⟩) l → Calls Tryd.prog 55 #[.slice (some ⟨b, off, none⟩) (half n) c, .int .i64 (i : Int)] w' (PaPost (l.take (half n)) i w')) := fun w' h1 =>
          ih (half n) k1 i (l.take (half n)) (some ⟨b, off, none⟩) c w' (by rw [List.length_take]; omega) (by omega) hik (by omega) (by omega) (h1.take _) (hsh.take _)
        have CB : Hid (∀ w', SL w' 1 encS (some ⟨b, off, none⟩) l → Calls Tryd.prog 26 #[.slice (some ⟨b, off + half n, none⟩) (n - half n) (c - half n)] w' fun e w2 => e = .returned (.string (rootL (l.drop (half n)))) ∧ Below w'.heap.size w' w2) := fun w' h1 => by
          have := rroot_any (n - half n) (l.drop (half n)) (some ⟨b, off + half n, none⟩) (c - half n) w' (by rw [List.length_drop]; omega) (by omega) (by omega) (sl_drop h1) (hsh.drop _)
          unfold RRPost at this
          rw [rootOf_ne (by rw [List.length_drop]; omega)] at this
          exact this
        rw [if_pos hik] at hpm
        have hps : pathL (l.take (half n)) i = pathL (l.take (half n)) i := rfl
        unfold PaPost at CA
        obtain ⟨pa, epa⟩ : ∃ pa, pa = pathL (l.take (half n)) i := ⟨_, rfl⟩
        obtain ⟨rb, erb⟩ : ∃ rb, rb = rootL (l.drop (half n)) := ⟨_, rfl⟩
        rw [← epa] at CA hpm
        rw [← erb] at CB hpm
        have hpl : pa.length < 1000000 := by rw [epa, path_len]; have := lev_len ((l.take (half n))).length (i); rw [List.length_take] at this; rw [List.length_take]; omega
        obtain ⟨k, ek⟩ : ∃ k, k = half n := ⟨_, rfl⟩
        rw [← ek] at HH CA CB k0 k1 k2 hik
        have FIN : Hid (∀ v' w', w'.ownsRow w.heap.size 9 1 v' (pa.length + 1) (pa.map Value.string ++ [.string rb]) → Below w.heap.size w w' → R (.returned v') w') := fun v' w' hr hb => by
          have hl2 : (pathL l i).length = pa.length + 1 := by rw [hpm, List.length_append]; rfl
          obtain ⟨z, rfl⟩ := rowV_of hr (by omega)
          rw [eR]
          unfold PaPost
          rw [hl2]
          refine ⟨⟨z, rfl, ?_⟩, hb⟩
          rw [hpm, List.map_append]; exact hr
        have hck : ¬ c = k := by omega
        have g1 : (0 : Int) ≤ (k : Int) := by omega
        have g2 : (k : Int) ≤ (n : Int) := by omega
        have g3 : (k : Int) ≤ (c : Int) := by omega
        have hlt1 : (i : Int) < (k : Int) := by omega
        clear ih hs hcl eR hpm epa erb ek hsh hl hps
        go_enter Tryd.func55, Tryd.ntmps55
        go_wp2_with (go_at_call 52; refine (HH.out _).mono ?_; rintro e w' ⟨rfl, rfl⟩)
        obtain ⟨M, eM⟩ : ∃ M, M = pa.length := ⟨_, rfl⟩
        rw [← eM] at CA FIN hpl
        have hiw : True := trivial
        refine Free.wp_region_free 10 [(4, .ind (fun z => rowV M z) (fun z w2 => w2.ownsRow w.heap.size 9 1 (rowV M z) M (pa.map Value.string))), (8, .det (.string rb)), (9, .ind (fun b => .slice (some ⟨b, 0, none⟩) 1 1) (fun b w2 => w2.heap[b]? = some (.cells #[.string rb] 9 (0, 0))))] (fun w2 => Below w.heap.size w w2) (by kernel_rfl) (by kernel_rfl) ?_ (Below.refl _ _).drew (fun _ _ h g => h.trans (Below.mono g h.size)) ?_
        · intro j mk rr hf z w1 w2 hr gr
          simp only [Free.find] at hf
          split at hf
          · cases hf; exact row_below hr gr
          · split at hf
            · cases hf
            · split at hf
              · cases hf; exact (gr.block _ (Array.getElem?_eq_some_iff.1 hr).1).trans hr
              · cases hf
        simp only [List.take_succ_cons, List.take_zero]
        iterate 4 (apply Free.chain_still (by first | exact Free.wanted_of rfl rfl rfl | rfl) rfl; (intro w' hB hA; obtain qB := hB; clear hA  ; go_light; go_simp <;> rfl); (try simp only [Act.put, List.setIfInBounds_toArray, List.set_cons_succ, List.set_cons_zero]))
        apply Free.chain_ind (by first | exact Free.wanted_of rfl rfl rfl | rfl) rfl
        · intro w' hB hA
          refine Free.opRun_call (f := 55) (args := #[(.slice (some ⟨b, off, none⟩) k c), (.int .i64 (i : Int))]) (by clear hB hA; go_simp <;> rfl) ?_
          refine (CA.out w' (HS.out.below hB (Nat.le_refl _))).mono ?_
          rintro e w3 ⟨⟨z, rfl, hr⟩, hb3⟩
          exact ⟨_, rfl, hb3, z, rfl, own_base hr hB.size⟩
        intro z
        simp only [Act.put, List.setIfInBounds_toArray, List.set_cons_succ, List.set_cons_zero]
        iterate 3 (apply Free.chain_still (by first | exact Free.wanted_of rfl rfl rfl | rfl) rfl; (intro w' hB hA; obtain qB := hB; clear hA  ; go_light; go_simp <;> rfl); (try simp only [Act.put, List.setIfInBounds_toArray, List.set_cons_succ, List.set_cons_zero]))
        apply Free.chain_det (by first | exact Free.wanted_of rfl rfl rfl | rfl) rfl
        · intro w' hB hA
          refine Free.opRun_call (f := 26) (args := #[(.slice (some ⟨b, off + k, none⟩) (n - k) (c - k))]) (by clear hB hA; go_simp <;> rfl) ?_
          refine (CB.out w' (HS.out.below hB (Nat.le_refl _))).mono ?_
          rintro e w3 ⟨rfl, hb3⟩
          exact ⟨_, rfl, hb3, rfl⟩
        simp only [Act.put, List.setIfInBounds_toArray, List.set_cons_succ, List.set_cons_zero]
        apply Free.chain_ind (by first | exact Free.wanted_of rfl rfl rfl | rfl) rfl
        · intro w' hB hA
          refine Free.opRun_of (v := .slice (some ⟨w'.heap.size, 0, none⟩) 1 1) (w' := w'.alloc (.cells #[.string rb] 9)) (by clear hB hA; go_light; go_simp <;> rfl) ⟨Free.Grow.alloc _ _, _, rfl, new_at rfl⟩
        intro b6
        simp only [Act.put, List.setIfInBounds_toArray, List.set_cons_succ, List.set_cons_zero]
        apply Free.chain_nil
        intro wy hBz _ hh
        have hz6 : wy.heap[b6]? = some (.cells #[.string rb] 9 (0, 0)) := hh _ List.mem_cons_self
        have hz3 : wy.ownsRow w.heap.size 9 1 (rowV M z) M (pa.map Value.string) := hh _ (List.mem_cons_of_mem _ List.mem_cons_self)
        simp only [List.drop_succ_cons, List.drop_zero]
        have HBY := Lib.hid hBz
        clear hh hBz
        obtain ⟨i0, hi0, hz0, hz1, hz2⟩ := info_parts infoStr
        refine wpList_append_list (ec := encS) rfl (.tmp 19) (.tmp 24) 23 rfl w.heap.size 9 i0 _ 16 Tryd.underlying23 hi0 hz0 hz1 hz2 rfl (by decide) encS_len encS_one _ _ _ rfl hz3 (some ⟨b6, 0, none⟩) 1 [rb] rfl (sl_new (l := [rb]) hz6) (by have : maxLen = 9223372036854775807 := rfl; simp only [List.length_cons, List.length_nil]; omega) (by simp only [List.length_cons, List.length_nil]; omega) HBY.out.size ?_
        intro v5 w5 hown5 hg5 _
        have hb5 : Below w.heap.size w w5 := HBY.out.grown hg5 HBY.out.size (fun j e => (hz3.lt j e).1)
        have HF := Lib.hid (FIN.out v5 w5 hown5 hb5)
        clear hown5 hg5 hb5 hi0 hz0 hz1 hz2 hz6 hz3 HBY
        go_wp2_with fail
        exact HF.out
      · have CA : Hid (∀ w', SL w' 1 encS (some ⟨b, off, none⟩) l → Calls Tryd.prog 55 #[.slice (some ⟨b, off + half n, none⟩) (n - half n) (c - half n), .int .i64 ((i : Int) - ((half n : Nat) : Int))] w' (PaPost (l.drop (half n)) (i - half n) w')) := fun w' h1 => by
          have := ih (n - half n) (by omega) (i - half n) (l.drop (half n)) (some ⟨b, off + half n, none⟩) (c - half n) w' (by rw [List.length_drop]; omega) (by omega) (by omega) (by omega) (by omega) (sl_drop h1) (hsh.drop _)
          rw [show ((i - half n : Nat) : Int) = (i : Int) - ((half n : Nat) : Int) by omega] at this
          exact this
        have CB : Hid (∀ w', SL w' 1 encS (some ⟨b, off, none⟩) l → Calls Tryd.prog 26 #[.slice (some ⟨b, off, none⟩) (half n) c] w' fun e w2 => e = .returned (.string (rootL (l.take (half n)))) ∧ Below w'.heap.size w' w2) := fun w' h1 => by
          have := rroot_any (half n) (l.take (half n)) (some ⟨b, off, none⟩) c w' (by rw [List.length_take]; omega) (by omega) (by omega) (h1.take _) (hsh.take _)
          unfold RRPost at this
          rw [rootOf_ne (by rw [List.length_take]; omega)] at this
          exact this
        rw [if_neg hik] at hpm
        have hps : pathL (l.drop (half n)) (i - half n) = pathL (l.drop (half n)) (i - half n) := rfl
        unfold PaPost at CA
        obtain ⟨pa, epa⟩ : ∃ pa, pa = pathL (l.drop (half n)) (i - half n) := ⟨_, rfl⟩
        obtain ⟨rb, erb⟩ : ∃ rb, rb = rootL (l.take (half n)) := ⟨_, rfl⟩
        rw [← epa] at CA hpm
        rw [← erb] at CB hpm
        have hpl : pa.length < 1000000 := by rw [epa, path_len]; have := lev_len ((l.drop (half n))).length ((i - half n)); rw [List.length_drop] at this; rw [List.length_drop]; omega
        obtain ⟨k, ek⟩ : ∃ k, k = half n := ⟨_, rfl⟩
        rw [← ek] at HH CA CB k0 k1 k2 hik
        have FIN : Hid (∀ v' w', w'.ownsRow w.heap.size 9 1 v' (pa.length + 1) (pa.map Value.string ++ [.string rb]) → Below w.heap.size w w' → R (.returned v') w') := fun v' w' hr hb => by
          have hl2 : (pathL l i).length = pa.length + 1 := by rw [hpm, List.length_append]; rfl
          obtain ⟨z, rfl⟩ := rowV_of hr (by omega)
          rw [eR]
          unfold PaPost
          rw [hl2]
          refine ⟨⟨z, rfl, ?_⟩, hb⟩
          rw [hpm, List.map_append]; exact hr
        have hck : ¬ c = k := by omega
        have g1 : (0 : Int) ≤ (k : Int) := by omega
        have g2 : (k : Int) ≤ (n : Int) := by omega
        have g3 : (k : Int) ≤ (c : Int) := by omega
        have hlt1 : ¬ (i : Int) < (k : Int) := by omega
        clear ih hs hcl eR hpm epa erb ek hsh hl hps
        go_enter Tryd.func55, Tryd.ntmps55
        go_wp2_with (go_at_call 52; refine (HH.out _).mono ?_; rintro e w' ⟨rfl, rfl⟩)
        obtain ⟨M, eM⟩ : ∃ M, M = pa.length := ⟨_, rfl⟩
        rw [← eM] at CA FIN hpl
        have hiw : IntKind.i64.wrap ((i : Int) - (k : Int)) = (i : Int) - (k : Int) := IntWalk.i64_in _ (by omega)
        refine Free.wp_region_free 12 [(6, .ind (fun z => rowV M z) (fun z w2 => w2.ownsRow w.heap.size 9 1 (rowV M z) M (pa.map Value.string))), (10, .det (.string rb)), (11, .ind (fun b => .slice (some ⟨b, 0, none⟩) 1 1) (fun b w2 => w2.heap[b]? = some (.cells #[.string rb] 9 (0, 0))))] (fun w2 => Below w.heap.size w w2) (by kernel_rfl) (by kernel_rfl) ?_ (Below.refl _ _).drew (fun _ _ h g => h.trans (Below.mono g h.size)) ?_
        · intro j mk rr hf z w1 w2 hr gr
          simp only [Free.find] at hf
          split at hf
          · cases hf; exact row_below hr gr
          · split at hf
            · cases hf
            · split at hf
              · cases hf; exact (gr.block _ (Array.getElem?_eq_some_iff.1 hr).1).trans hr
              · cases hf
        simp only [List.take_succ_cons, List.take_zero]
        iterate 6 (apply Free.chain_still (by first | exact Free.wanted_of rfl rfl rfl | rfl) rfl; (intro w' hB hA; obtain qB := hB; clear hA  ; go_light; go_simp <;> rfl); (try simp only [Act.put, List.setIfInBounds_toArray, List.set_cons_succ, List.set_cons_zero]))
        apply Free.chain_ind (by first | exact Free.wanted_of rfl rfl rfl | rfl) rfl
        · intro w' hB hA
          refine Free.opRun_call (f := 55) (args := #[(.slice (some ⟨b, off + k, none⟩) (n - k) (c - k)), (.int .i64 ((i : Int) - (k : Int)))]) (by clear hB hA; go_simp <;> rfl) ?_
          refine (CA.out w' (HS.out.below hB (Nat.le_refl _))).mono ?_
          rintro e w3 ⟨⟨z, rfl, hr⟩, hb3⟩
          exact ⟨_, rfl, hb3, z, rfl, own_base hr hB.size⟩
        intro z
        simp only [Act.put, List.setIfInBounds_toArray, List.set_cons_succ, List.set_cons_zero]
        iterate 3 (apply Free.chain_still (by first | exact Free.wanted_of rfl rfl rfl | rfl) rfl; (intro w' hB hA; obtain qB := hB; clear hA  ; go_light; go_simp <;> rfl); (try simp only [Act.put, List.setIfInBounds_toArray, List.set_cons_succ, List.set_cons_zero]))
        apply Free.chain_det (by first | exact Free.wanted_of rfl rfl rfl | rfl) rfl
        · intro w' hB hA
          refine Free.opRun_call (f := 26) (args := #[(.slice (some ⟨b, off, none⟩) k c)]) (by clear hB hA; go_simp <;> rfl) ?_
          refine (CB.out w' (HS.out.below hB (Nat.le_refl _))).mono ?_
          rintro e w3 ⟨rfl, hb3⟩
          exact ⟨_, rfl, hb3, rfl⟩
        simp only [Act.put, List.setIfInBounds_toArray, List.set_cons_succ, List.set_cons_zero]
        apply Free.chain_ind (by first | exact Free.wanted_of rfl rfl rfl | rfl) rfl
        · intro w' hB hA
          refine Free.opRun_of (v := .slice (some ⟨w'.heap.size, 0, none⟩) 1 1) (w' := w'.alloc (.cells #[.string rb] 9)) (by clear hB hA; go_light; go_simp <;> rfl) ⟨Free.Grow.alloc _ _, _, rfl, new_at rfl⟩
        intro b6
        simp only [Act.put, List.setIfInBounds_toArray, List.set_cons_succ, List.set_cons_zero]
        apply Free.chain_nil
        intro wy hBz _ hh
        have hz6 : wy.heap[b6]? = some (.cells #[.string rb] 9 (0, 0)) := hh _ List.mem_cons_self
        have hz3 : wy.ownsRow w.heap.size 9 1 (rowV M z) M (pa.map Value.string) := hh _ (List.mem_cons_of_mem _ List.mem_cons_self)
        simp only [List.drop_succ_cons, List.drop_zero]
        have HBY := Lib.hid hBz
        clear hh hBz
        obtain ⟨i0, hi0, hz0, hz1, hz2⟩ := info_parts infoStr
        refine wpList_append_list (ec := encS) rfl (.tmp 32) (.tmp 37) 23 rfl w.heap.size 9 i0 _ 16 Tryd.underlying23 hi0 hz0 hz1 hz2 rfl (by decide) encS_len encS_one _ _ _ rfl hz3 (some ⟨b6, 0, none⟩) 1 [rb] rfl (sl_new (l := [rb]) hz6) (by have : maxLen = 9223372036854775807 := rfl; simp only [List.length_cons, List.length_nil]; omega) (by simp only [List.length_cons, List.length_nil]; omega) HBY.out.size ?_
        intro v5 w5 hown5 hg5 _
        have hb5 : Below w.heap.size w w5 := HBY.out.grown hg5 HBY.out.size (fun j e => (hz3.lt j e).1)
        have HF := Lib.hid (FIN.out v5 w5 hown5 hb5)
        clear hown5 hg5 hb5 hi0 hz0 hz1 hz2 hz6 hz3 HBY
        go_wp2_with fail
        exact HF.out
/-- What Prove hands back: the path and OK, or nil and ErrArg. -/
def prP (l : List ByteArray) (i : Int) : List ByteArray := if 0 ≤ i ∧ i < (l.length : Int) then pathL l i.toNat else []
def prE (l : List ByteArray) (i : Int) : Int := if 0 ≤ i ∧ i < (l.length : Int) then 0 else 1
def PrX (l : List ByteArray) (i : Int) (w : World) (e : Ending) (w' : World) : Prop :=
  (∃ A c, e = .returned (.tuple #[.slice A (prP l i).length c, .int .i64 (prE l i)]) ∧ SL w' 1 encS A (prP l i)) ∧ Below w.heap.size w w'
theorem prove_x (l : List ByteArray) (A : Option Addr) (c : Nat) (i : Int) (w : World) (hc : l.length ≤ c) (hn : l.length < 1000000000) (hs : SL w 1 encS A l) (hsh : Short l) (hT : HasT w) :
    Calls Tryd.prog 18 #[.slice A l.length c, .int .i64 i] w (PrX l i w) := by
  refine (prove_dis l A c i w hc hn hs hsh hT).mono ?_
  rintro e w' ⟨hb, ⟨h0, h1, A', c', _, h2, rfl⟩ | ⟨h, rfl⟩⟩
  · unfold PrX prP prE
    rw [if_pos ⟨h0, h1⟩, if_pos ⟨h0, h1⟩]
    exact ⟨⟨A', c', rfl, h2⟩, hb⟩
  · unfold PrX prP prE
    rw [if_neg h, if_neg h]
    exact ⟨⟨none, 0, rfl, SL.nil⟩, hb⟩
set_option maxRecDepth 100000 in
theorem rprove_x (l : List ByteArray) (A : Option Addr) (c : Nat) (i : Int) (w : World) (hc : l.length ≤ c) (hn : l.length < 1000000) (hs : SL w 1 encS A l) (hsh : Sml l) :
    Calls Tryd.prog 24 #[.slice A l.length c, .int .i64 i] w (PrX l i w) := by
  obtain ⟨R, eR⟩ : ∃ R, R = PrX l i w := ⟨_, rfl⟩
  rw [← eR]
  by_cases h : 0 ≤ i ∧ i < (l.length : Int)
  · obtain ⟨I, rfl⟩ : ∃ I : Nat, i = (I : Int) := ⟨i.toNat, by omega⟩
    have CP := Lib.hid (rpath_any l.length I l A c w rfl (by omega) (by omega) hc hn hs hsh)
    unfold PaPost at CP
    have FIN : Hid (∀ z w', w'.ownsRow w.heap.size 9 1 (rowV (pathL l I).length z) (pathL l I).length ((pathL l I).map Value.string) → Below w.heap.size w w' → R (.returned (.tuple #[rowV (pathL l I).length z, .int .i64 0])) w') := fun z w' hr hb => by
      rw [eR]
      unfold PrX prP prE
      rw [if_pos h, if_pos h, Int.toNat_natCast]
      obtain ⟨A', c', e1, _, hsl⟩ := row_slS hr
      exact ⟨⟨A', c', by rw [e1], hsl⟩, hb⟩
    have g1 : ¬ (I : Int) < 0 := by omega
    have g2 : ¬ (l.length : Int) ≤ (I : Int) := by omega
    clear eR h hs hsh
    go_enter Tryd.func24, Tryd.ntmps24
    go_wp2_with fail
    refine CP.out.mono ?_
    rintro e w1 ⟨⟨z, rfl, hr⟩, hb⟩
    have HF := Lib.hid (FIN.out z w1 hr hb)
    clear hr hb
    go_wp2_with fail
    exact HF.out
  · have FIN : Hid (R (.returned (.tuple #[.slice none 0 0, .int .i64 1])) w) := by
      rw [eR]
      unfold PrX prP prE
      rw [if_neg h, if_neg h]
      exact ⟨⟨none, 0, rfl, SL.nil⟩, Below.refl _ _⟩
    clear eR hs hsh
    go_enter Tryd.func24, Tryd.ntmps24
    by_cases g1 : i < 0
    · clear h
      go_wp2_with fail
      exact FIN.out
    · have g2 : (l.length : Int) ≤ i := by omega
      clear h
      go_wp2_with fail
      exact FIN.out
end Go.Proofs.YtamiaalfjmppaaaDoor

namespace Go.Proofs.YtamiaalfjmppaaaDoor
open Go.RowKit Go.Blk Go.Sg Go.Opn Go.Di Go.Apl Go.Rf

/-- What a path leads to, and whether it has the right number of elements. -/
def Led (t : ByteArray) (i n : Nat) (p : List ByteArray) (y : ByteArray) (ok : Bool) : Prop := ok = decide (p.length = (lev i n).length) ∧ (ok = true → y = upD t (sidesL i n) p.reverse) ∧ y.size ≤ 200
theorem led_left {t : ByteArray} {i n : Nat} {p : List ByteArray} {y q : ByteArray} {ok : Bool} (hn : 2 ≤ n) (hn2 : n < 9223372036854775808) (hi : i < half n) (hr : p.reverse = q :: p.dropLast.reverse) (h : Led t i (half n) p.dropLast y ok) : Led t i n p (nodeD y q) ok := by
  have hl : p.length = p.dropLast.length + 1 := by have := congrArg List.length hr; simpa using this
  obtain ⟨h1, h2, h3⟩ := h
  have hz : (nodeD y q).size = 64 := tagD_size _ _ _
  refine ⟨?_, fun ho => ?_, by omega⟩
  · rw [h1, lev_more hn hn2, if_pos hi, List.length_cons, hl]
    congr 1
    exact propext ⟨fun h => by omega, fun h => by omega⟩
  · rw [hr, sides_more hn hn2, upD_cons, decide_eq_true hi, if_pos hi, if_pos rfl, h2 ho]
theorem led_right {t : ByteArray} {i n : Nat} {p : List ByteArray} {y q : ByteArray} {ok : Bool} (hn : 2 ≤ n) (hn2 : n < 9223372036854775808) (hi : ¬ i < half n) (hr : p.reverse = q :: p.dropLast.reverse) (h : Led t (i - half n) (n - half n) p.dropLast y ok) : Led t i n p (nodeD q y) ok := by
  have hl : p.length = p.dropLast.length + 1 := by have := congrArg List.length hr; simpa using this
  obtain ⟨h1, h2, h3⟩ := h
  have hz : (nodeD q y).size = 64 := tagD_size _ _ _
  refine ⟨?_, fun ho => ?_, by omega⟩
  · rw [h1, lev_more hn hn2, if_neg hi, List.length_cons, hl]
    congr 1
    exact propext ⟨fun h => by omega, fun h => by omega⟩
  · rw [hr, sides_more hn hn2, upD_cons, decide_eq_false hi, if_neg hi, if_neg (by decide), h2 ho]
def LdPost (t : ByteArray) (i n : Nat) (p : List ByteArray) (w : World) (e : Ending) (w' : World) : Prop :=
  (∃ y ok, e = .returned (.tuple #[.string y, .bool ok]) ∧ Led t i n p y ok) ∧ Below w.heap.size w w'
set_option maxRecDepth 100000 in
set_option maxHeartbeats 4000000 in
theorem rleads_any (t : ByteArray) (ht : t.size ≤ 200) : ∀ (n i : Nat) (p : List ByteArray) (A : Option Addr) (c : Nat) (w : World), 1 ≤ n → n < 4611686018427387904 → i < n → p.length ≤ c → p.length < 1000000 → SL w 1 encS A p → Sml p →
    Calls Tryd.prog 57 #[.string t, .int .i64 (i : Int), .int .i64 (n : Int), .slice A p.length c] w (LdPost t i n p w) := by
  intro n
  induction n using Nat.strongRecOn with
  | _ n ih =>
    intro i p A c w h1 h2 hi hpc hpb hsl hmed
    obtain ⟨R, eR⟩ : ∃ R, R = LdPost t i n p w := ⟨_, rfl⟩
    rw [← eR]
    by_cases hn : n = 1
    · subst hn
      have FIN : Hid (R (.returned (.tuple #[.string t, .bool ((p.length : Int) == 0)])) w) := by
        rw [eR]
        refine ⟨⟨t, _, rfl, ?_, fun _ => ?_, ht⟩, Below.refl _ _⟩
        · rw [lev_small (by decide)]
          cases p with
          | nil => rfl
          | cons a p => rw [decide_eq_false (by simp)]; exact beq_eq_false_iff_ne.2 (by simp; omega)
        · rw [sides_small (by decide)]; rfl
      clear ih hsl hmed eR
      go_enter Tryd.func57, Tryd.ntmps57
      go_wp2_with fail
      exact FIN.out
    · have h3 : 2 ≤ n := by omega
      by_cases hp0 : p = []
      · subst hp0
        have hp1 := lev_pos (i := i) h3 (by omega)
        have FIN : Hid (R (.returned (.tuple #[.string ⟨#[]⟩, .bool false])) w) := by
          rw [eR]
          refine ⟨⟨⟨#[]⟩, false, rfl, ?_, (fun h => by cases h), by decide⟩, Below.refl _ _⟩
          rw [decide_eq_false]; simp; intro e; rw [e] at hp1; simp at hp1
        have hn1 : ((n : Int) == 1) = false := beq_eq_false_iff_ne.2 (by omega)
        clear ih hsl hmed eR hp1
        rw [List.length_nil]
        go_enter Tryd.func57, Tryd.ntmps57
        go_wp2_with fail
        exact FIN.out
      · have hp0 : 0 < p.length := List.length_pos_iff.2 hp0
        obtain ⟨k1, k2, _, _⟩ := half_facts n h3 (by omega)
        have k0 := half_pos n
        obtain ⟨m, em⟩ : ∃ m, p.length = m + 1 := ⟨p.length - 1, by omega⟩
        obtain ⟨q, hq⟩ : ∃ q, p[m]? = some q := ⟨_, List.getElem?_eq_getElem (by omega)⟩
        have hqz := hmed q (List.mem_of_getElem? hq)
        have hrev := rev_last em hq
        have hdl : p.dropLast.length = m := by rw [List.length_dropLast]; omega
        have hmd : Sml p.dropLast := fun b hb => hmed b ((List.dropLast_sublist p).subset hb)
        have HSP := Lib.hid (fun w => split_any n w h3 h2)
        obtain ⟨b, off, rfl, hc⟩ := hsl.at_ hq
        have c3 := hc 0 _ rfl
        simp only [Nat.mul_one, Nat.add_zero] at c3
        clear hc
        by_cases hik : i < half n
        · have CALL : Hid (Calls Tryd.prog 57 #[.string t, .int .i64 (i : Int), .int .i64 ((half n : Nat) : Int), .slice (some ⟨b, off, none⟩) m c] w (LdPost t i (half n) p.dropLast w)) := by
            have h0 := ih (half n) (by omega) i p.dropLast (some ⟨b, off, none⟩) c w (by omega) (by omega) (by omega) (by omega) (by omega) (sl_init hsl) hmd
            rw [hdl] at h0
            skip
            exact h0
          unfold LdPost at CALL
          have CN : Hid (∀ y w, y.size ≤ 200 → Calls Tryd.prog 56 #[.string y, .string q] w fun e w' => e = .returned (.string (nodeD y q)) ∧ Below w.heap.size w w') := fun y w hy => noder_any y q w (by omega) (by omega)
          have FIN : Hid (∀ y ok w', Led t i (half n) p.dropLast y ok → Below w.heap.size w w' → R (.returned (.tuple #[.string (nodeD y q), .bool ok])) w') := fun y ok w' h hb => by
            rw [eR]
            exact ⟨⟨_, ok, rfl, led_left h3 (by omega) hik hrev h⟩, hb⟩
          obtain ⟨kk, ekk⟩ : ∃ kk, kk = half n := ⟨_, rfl⟩
          rw [← ekk] at HSP CALL hik k0 k1 k2 FIN
          have j0 : (0 : Int) ≤ (p.length : Int) - 1 := by omega
          have j0' : (1 : Int) ≤ (p.length : Int) := by omega
          have j1 : (p.length : Int) - 1 < (p.length : Int) := by omega
          have j2 : ((p.length : Int) - 1).toNat = m := by omega
          have j3 : (p.length : Int) - 1 ≤ (c : Int) := by omega
          have hmp : m < p.length := by omega
          have hn1 : ((n : Int) == 1) = false := beq_eq_false_iff_ne.2 (by omega)
          have hp1 : ((p.length : Int) == 0) = false := beq_eq_false_iff_ne.2 (by omega)
          have hlt1 : (i : Int) < (kk : Int) := by omega
          clear ih hmed eR ekk hq hrev hdl hmd hsl em hn hqz
          go_enter Tryd.func57, Tryd.ntmps57
          go_wp2_with fail
          refine (HSP.out _).mono ?_
          rintro e w' ⟨rfl, rfl⟩
          go_wp2_with fail
          refine CALL.out.mono ?_
          rintro e w2 ⟨⟨y, ok, rfl, hld⟩, hb2⟩
          have HLD := Lib.hid hld
          have HB2 := Lib.hid hb2
          have CN2 := Lib.hid (CN.out y w2 hld.2.2)
          clear hld hb2 CALL CN c3
          go_wp2_with fail
          refine CN2.out.mono ?_
          rintro e w3 ⟨rfl, hb3⟩
          have HF := Lib.hid (FIN.out y ok w3 HLD.out (HB2.out.trans (hb3.mono HB2.out.size)))
          clear hb3 FIN
          go_wp2_with fail
          exact HF.out
        · have CALL : Hid (Calls Tryd.prog 57 #[.string t, .int .i64 ((i : Int) - ((half n : Nat) : Int)), .int .i64 ((n : Int) - ((half n : Nat) : Int)), .slice (some ⟨b, off, none⟩) m c] w (LdPost t (i - half n) (n - half n) p.dropLast w)) := by
            have h0 := ih (n - half n) (by omega) (i - half n) p.dropLast (some ⟨b, off, none⟩) c w (by omega) (by omega) (by omega) (by omega) (by omega) (sl_init hsl) hmd
            rw [hdl] at h0
            rw [show ((i - half n : Nat) : Int) = (i : Int) - ((half n : Nat) : Int) by omega, show ((n - half n : Nat) : Int) = (n : Int) - ((half n : Nat) : Int) by omega] at h0
            exact h0
          unfold LdPost at CALL
          have CN : Hid (∀ y w, y.size ≤ 200 → Calls Tryd.prog 56 #[.string q, .string y] w fun e w' => e = .returned (.string (nodeD q y)) ∧ Below w.heap.size w w') := fun y w hy => noder_any q y w (by omega) (by omega)
          have FIN : Hid (∀ y ok w', Led t (i - half n) (n - half n) p.dropLast y ok → Below w.heap.size w w' → R (.returned (.tuple #[.string (nodeD q y), .bool ok])) w') := fun y ok w' h hb => by
            rw [eR]
            exact ⟨⟨_, ok, rfl, led_right h3 (by omega) hik hrev h⟩, hb⟩
          obtain ⟨kk, ekk⟩ : ∃ kk, kk = half n := ⟨_, rfl⟩
          rw [← ekk] at HSP CALL hik k0 k1 k2 FIN
          have j0 : (0 : Int) ≤ (p.length : Int) - 1 := by omega
          have j0' : (1 : Int) ≤ (p.length : Int) := by omega
          have j1 : (p.length : Int) - 1 < (p.length : Int) := by omega
          have j2 : ((p.length : Int) - 1).toNat = m := by omega
          have j3 : (p.length : Int) - 1 ≤ (c : Int) := by omega
          have hmp : m < p.length := by omega
          have hn1 : ((n : Int) == 1) = false := beq_eq_false_iff_ne.2 (by omega)
          have hp1 : ((p.length : Int) == 0) = false := beq_eq_false_iff_ne.2 (by omega)
          have hlt1 : ¬ (i : Int) < (kk : Int) := by omega
          clear ih hmed eR ekk hq hrev hdl hmd hsl em hn hqz
          go_enter Tryd.func57, Tryd.ntmps57
          go_wp2_with fail
          refine (HSP.out _).mono ?_
          rintro e w' ⟨rfl, rfl⟩
          go_wp2_with fail
          refine CALL.out.mono ?_
          rintro e w2 ⟨⟨y, ok, rfl, hld⟩, hb2⟩
          have HLD := Lib.hid hld
          have HB2 := Lib.hid hb2
          have CN2 := Lib.hid (CN.out y w2 hld.2.2)
          clear hld hb2 CALL CN c3
          go_wp2_with fail
          refine CN2.out.mono ?_
          rintro e w3 ⟨rfl, hb3⟩
          have HF := Lib.hid (FIN.out y ok w3 HLD.out (HB2.out.trans (hb3.mono HB2.out.size)))
          clear hb3 FIN
          go_wp2_with fail
          exact HF.out
set_option maxRecDepth 100000 in
set_option maxHeartbeats 2000000 in
theorem rcheck_any (r : ByteArray) (n i : Int) (x : Fac) (s : ByteArray) (p : List ByteArray) (A : Option Addr) (c : Nat) (w : World) (hx : x.Ok) (hss : s.size ≤ 200) (hpc : p.length ≤ c) (hpb : p.length < 1000000) (hs : SL w 1 encS A p) (hsh : Sml p) :
    Calls Tryd.prog 28 #[.string r, .int .i64 n, .int .i64 i, .agg (encF x).toArray, .string s, .slice A p.length c] w fun e w' => e = .returned (.bool (checkD r n i x s p)) ∧ Below w.heap.size w w' := by
  obtain ⟨R, eR⟩ : ∃ R : Ending → World → Prop, R = fun e w' => e = .returned (.bool (checkD r n i x s p)) ∧ Below w.heap.size w w' := ⟨_, rfl⟩
  rw [← eR]
  by_cases h : 1 ≤ n ∧ n ≤ 4000 ∧ 0 ≤ i ∧ i < n
  · obtain ⟨N, rfl⟩ : ∃ N : Nat, n = (N : Int) := ⟨n.toNat, by omega⟩
    obtain ⟨I, rfl⟩ : ∃ I : Nat, i = (I : Int) := ⟨i.toNat, by omega⟩
    have hlz : (leafD x s).size = 64 := tagD_size _ _ _
    have CL := Lib.hid (fun w => leafr_any x s w hx (by omega))
    have CD : Hid (∀ w', SL w' 1 encS A p → Calls Tryd.prog 57 #[.string (leafD x s), .int .i64 (I : Int), .int .i64 (N : Int), .slice A p.length c] w' (LdPost (leafD x s) I N p w')) := fun w' h1 => rleads_any (leafD x s) (by omega) N I p A c w' (by omega) (by omega) (by omega) hpc hpb h1 hsh
    unfold LdPost at CD
    have FIN : Hid (∀ y ok w', Led (leafD x s) I N p y ok → Below w.heap.size w w' → R (.returned (.bool (ok && (y.toList == r.toList)))) w') := fun y ok w' hl hb => by
      rw [eR]
      refine ⟨?_, hb⟩
      unfold checkD
      rw [decide_eq_true h, Int.toNat_natCast, Int.toNat_natCast, Bool.true_and, ← hl.1]
      cases ok with
      | false => rfl
      | true =>
        rw [← hl.2.1 rfl, Bool.true_and, Bool.true_and]
        by_cases e : y = r
        · rw [decide_eq_true e, e]; simp
        · rw [decide_eq_false e]
          cases hq : (y.toList == r.toList) with
          | false => rfl
          | true => exact absurd (tl_eq (by simpa using hq)) e
    have g1 : ¬ (N : Int) < 1 := by omega
    have g2 : ¬ (4000 : Int) < (N : Int) := by omega
    have g3 : ¬ (I : Int) < 0 := by omega
    have g4 : ¬ (N : Int) ≤ (I : Int) := by omega
    have HS := Lib.hid hs
    obtain ⟨lf, elf⟩ : ∃ lf, lf = leafD x s := ⟨_, rfl⟩
    rw [← elf] at CL CD FIN
    clear eR h elf hlz hs hsh hx
    obtain ⟨xr, xa, xl, xh, xf, xs⟩ := x
    rw [show encF ⟨xr, xa, xl, xh, xf, xs⟩ = [.int .i64 xr, .int .i64 xa, .int .i64 xl, .int .i64 xh, .int .i64 xf, .bool xs] from rfl] at CL ⊢
    go_enter Tryd.func28, Tryd.ntmps28
    go_wp2_with fail
    refine (CL.out _).mono ?_
    rintro e w1 ⟨rfl, hb⟩
    have L : Hid (Below w.heap.size w w1) := (((Below.refl _ w).alloc (Nat.le_refl _) _).trans (hb.mono (by simp)))
    clear hb
    go_wp2_with fail
    refine (CD.out _ (HS.out.below L.out (Nat.le_refl _))).mono ?_
    rintro e w2 ⟨⟨y, ok, rfl, hld⟩, hb⟩
    have HF := Lib.hid (FIN.out y ok w2 hld (L.out.trans (hb.mono L.out.size)))
    clear hld hb FIN
    cases ok with
    | false =>
      go_wp2_with fail
      exact HF.out
    | true =>
      go_wp2_with fail
      exact HF.out
  · have FIN : Hid (∀ w', Below w.heap.size w w' → R (.returned (.bool false)) w') := fun w' hb => by
      rw [eR]
      refine ⟨?_, hb⟩
      unfold checkD
      rw [decide_eq_false h]; rfl
    clear eR hs hsh hx
    obtain ⟨xr, xa, xl, xh, xf, xs⟩ := x
    rw [show encF ⟨xr, xa, xl, xh, xf, xs⟩ = [.int .i64 xr, .int .i64 xa, .int .i64 xl, .int .i64 xh, .int .i64 xf, .bool xs] from rfl]
    have HA : Hid (Below w.heap.size w (w.alloc (.cells #[.int .i64 xr, .int .i64 xa, .int .i64 xl, .int .i64 xh, .int .i64 xf, .bool xs] 25))) := (Below.refl _ _).alloc (Nat.le_refl _) _
    go_enter Tryd.func28, Tryd.ntmps28
    by_cases g1 : n < 1
    · clear h
      go_wp2_with fail
      exact FIN.out _ HA.out
    by_cases g2 : 4000 < n
    · clear h
      go_wp2_with fail
      exact FIN.out _ HA.out
    by_cases g3 : i < 0
    · clear h
      go_wp2_with fail
      exact FIN.out _ HA.out
    · have g4 : n ≤ i := by omega
      clear h
      go_wp2_with fail
      exact FIN.out _ HA.out
end Go.Proofs.YtamiaalfjmppaaaDoor
