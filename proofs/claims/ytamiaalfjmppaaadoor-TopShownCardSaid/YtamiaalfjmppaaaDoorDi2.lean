/- Package disclose: Root. Condition: the variables of digest and of strconv hold their numbers; texts of at most 10^9 bytes. -/
import Derived.Test.YtamiaalfjmppaaaDoorDi1
import Derived.Test.YtamiaalfjmppaaaDoorRf
import Derived.Laws.EntriesVeiled
namespace Go.Proofs.YtamiaalfjmppaaaDoor
open Go.RowKit Go.W32 Go.Blk Go.Sg Go.Opn Go.Di

def encS (b : ByteArray) : List Value := [.string b]
def Short (l : List ByteArray) : Prop := ∀ b ∈ l, b.size ≤ 1000000000
theorem Short.take {l : List ByteArray} (h : Short l) (k : Nat) : Short (l.take k) := fun b hb => h b (List.mem_of_mem_take hb)
theorem Short.drop {l : List ByteArray} (h : Short l) (k : Nat) : Short (l.drop k) := fun b hb => h b (List.mem_of_mem_drop hb)
/-- The digest of all leaves. -/
def rootL (l : List ByteArray) : ByteArray :=
  if l.length ≤ 1 then l.headD ⟨#[]⟩ else if _h : 2 ≤ l.length ∧ l.length < 9223372036854775808 then nodeD (rootL (l.take (half l.length))) (rootL (l.drop (half l.length))) else ⟨#[]⟩
termination_by l.length
decreasing_by
  · have := (half_facts l.length _h.1 _h.2).1; rw [List.length_take]; omega
  · have := half_pos l.length; rw [List.length_drop]; omega
theorem rootL_one (b : ByteArray) : rootL [b] = b := by rw [rootL]; rfl
theorem rootL_more {l : List ByteArray} (h : 2 ≤ l.length) (h2 : l.length < 9223372036854775808) : rootL l = nodeD (rootL (l.take (half l.length))) (rootL (l.drop (half l.length))) := by
  rw [rootL, if_neg (by omega), dif_pos ⟨h, h2⟩]
theorem rootL_size (l : List ByteArray) (h : Short l) (h1 : l ≠ []) (h2 : l.length < 9223372036854775808) : (rootL l).size ≤ 1000000000 := by
  by_cases hl : 2 ≤ l.length
  · rw [rootL_more hl h2]
    have : (nodeD (rootL (l.take (half l.length))) (rootL (l.drop (half l.length)))).size = 64 := tagD_size _ _ _
    omega
  · match l, h1, hl with
    | [b], _, _ => rw [rootL_one]; exact h b (by simp)
    | _ :: _ :: _, _, hl => simp at hl
theorem sl_drop {w : World} {b off k : Nat} {l : List ByteArray} (h : SL w 1 encS (some ⟨b, off, none⟩) l) : SL w 1 encS (some ⟨b, off + k, none⟩) (l.drop k) := by
  refine ⟨fun hn => ⟨b, off + k, rfl, fun i e hi p u hu => ?_⟩⟩
  rw [List.getElem?_drop] at hi
  obtain ⟨_, _, e1, h1⟩ := h.at_ hi
  cases e1
  have := h1 p u hu
  rw [← this]; congr 2; omega
theorem det3 {i j m : Nat} {u v x : Value} : ∀ k mk r, Free.find [(i, .det u), (j, .det v), (m, .det x)] k ≠ some (.ind mk r) := by
  intro k mk r hf
  simp only [Free.find] at hf
  split at hf
  · cases hf
  · split at hf
    · cases hf
    · split at hf <;> cases hf
theorem take_ne {l : List ByteArray} {k : Nat} (h : 0 < k) (hl : 0 < l.length) : l.take k ≠ [] := fun e => by
  have h1 : (l.take k).length = 0 := by rw [e]; rfl
  rw [List.length_take] at h1; omega
theorem drop_ne {l : List ByteArray} {k : Nat} (h : k < l.length) : l.drop k ≠ [] := fun e => by
  have h1 : (l.drop k).length = 0 := by rw [e]; rfl
  rw [List.length_drop] at h1; omega
def RootPost (l : List ByteArray) (w : World) (e : Ending) (w' : World) : Prop := e = .returned (.string (rootL l)) ∧ Below w.heap.size w w'
set_option maxRecDepth 100000 in
set_option maxHeartbeats 2000000 in
theorem root1_any (bx : Nat) : ∀ (n : Nat) (l : List ByteArray) (A : Option Addr) (c : Nat) (w : World), l.length = n → 1 ≤ n → n ≤ c → n < 1000000000 → SL w 1 encS A l → Short l → w.cell? ⟨bx, 0, none⟩ = some (.func (.func 46) #[] #[.pointer (some ⟨bx, 0, none⟩)]) → HasT w →
    Calls Tryd.prog 46 #[.slice A n c, .pointer (some ⟨bx, 0, none⟩)] w (RootPost l w) := by
  intro n
  induction n using Nat.strongRecOn with
  | _ n ih =>
    intro l A c w hl h1 hc hn hs hsh hbx hT
    obtain ⟨b, off, rfl, hcl⟩ := hs.cells (fun e => by rw [e] at hl; simp at hl; omega)
    obtain ⟨R, eR⟩ : ∃ R, R = RootPost l w := ⟨_, rfl⟩
    rw [← eR]
    by_cases h2 : n = 1
    · subst h2
      obtain ⟨x, rfl⟩ : ∃ x, l = [x] := by
        match l, hl with
        | [x], _ => exact ⟨x, rfl⟩
      have c0 := hcl 0 x rfl 0 _ rfl
      simp only [Nat.zero_mul, Nat.add_zero] at c0
      have FIN : Hid (R (.returned (.string x)) w) := by rw [eR]; exact ⟨by rw [rootL_one], Below.refl _ _⟩
      clear ih hs hsh hT hcl eR hl
      go_enter Tryd.func46, Tryd.ntmps46
      go_wp2_with fail
      exact FIN.out
    · have h3 : 2 ≤ n := by omega
      obtain ⟨k1, k2, _, _⟩ := half_facts n h3 (by omega)
      have k0 := half_pos n
      have HH := Lib.hid (fun w => half_any n w h3 (by omega))
      obtain ⟨k, ek⟩ : ∃ k, k = half n := ⟨_, rfl⟩
      have CA := Lib.hid (fun w' (h1 : SL w' 1 encS (some ⟨b, off, none⟩) l) (h2 : w'.cell? ⟨bx, 0, none⟩ = some (.func (.func 46) #[] #[.pointer (some ⟨bx, 0, none⟩)])) (h3 : HasT w') => ih (half n) k1 (l.take (half n)) (some ⟨b, off, none⟩) c w' (by rw [List.length_take]; omega) k0 (by omega) (by omega) (h1.take _) (hsh.take _) h2 h3)
      have CB := Lib.hid (fun w' (h1 : SL w' 1 encS (some ⟨b, off, none⟩) l) (h2 : w'.cell? ⟨bx, 0, none⟩ = some (.func (.func 46) #[] #[.pointer (some ⟨bx, 0, none⟩)])) (h3 : HasT w') => ih (n - half n) (by omega) (l.drop (half n)) (some ⟨b, off + half n, none⟩) (c - half n) w' (by rw [List.length_drop]; omega) (by omega) (by omega) (by omega) (sl_drop h1) (hsh.drop _) h2 h3)
      have s1 := rootL_size (l.take (half n)) (hsh.take _) (take_ne k0 (by omega)) (by rw [List.length_take]; omega)
      have s2 := rootL_size (l.drop (half n)) (hsh.drop _) (drop_ne (by omega)) (by rw [List.length_drop]; omega)
      have CN := Lib.hid (fun w h => node_any (rootL (l.take (half n))) (rootL (l.drop (half n))) w s1 s2 h)
      have hroot : rootL l = nodeD (rootL (l.take (half n))) (rootL (l.drop (half n))) := by rw [rootL_more (by omega) (by omega), hl]
      unfold RootPost at CA CB
      obtain ⟨ra, era⟩ : ∃ ra, ra = rootL (l.take (half n)) := ⟨_, rfl⟩
      obtain ⟨rb, erb⟩ : ∃ rb, rb = rootL (l.drop (half n)) := ⟨_, rfl⟩
      rw [← era] at CA CN hroot
      rw [← erb] at CB CN hroot
      rw [← ek] at HH CA CB k0 k1 k2
      have FIN : Hid (∀ w', Below w.heap.size w w' → R (.returned (.string (nodeD ra rb))) w') := by
        intro w' hb; rw [eR]; exact ⟨by rw [hroot], hb⟩
      have HT := Lib.hid hT
      have HS := Lib.hid hs
      have HBX := Lib.hid hbx
      have hn1 : ((n : Int) == 1) = false := beq_eq_false_iff_ne.2 (by omega)
      clear ih hs hT hcl eR hroot era erb ek s1 s2 hsh hbx hl
      go_enter Tryd.func46, Tryd.ntmps46
      go_wp2_with (go_at_call 47; refine (HH.out _).mono ?_; rintro e w' ⟨rfl, rfl⟩)
      have hck : ¬ c = k := by omega
      have g1 : (0 : Int) ≤ (k : Int) := by omega
      have g2 : (k : Int) ≤ (n : Int) := by omega
      have g3 : (k : Int) ≤ (c : Int) := by omega
      refine Free.wp_region_free 12 [(4, .det (.string ra)), (9, .det (.string rb)), (10, .det (.string (nodeD ra rb)))] (fun w2 => Below w.heap.size w w2 ∧ w2.cell? ⟨bx, 0, none⟩ = some (.func (.func 46) #[] #[.pointer (some ⟨bx, 0, none⟩)])) (by kernel_rfl) (by kernel_rfl) (Free.mono_det det3) ⟨(Below.refl _ _).drew, HBX.out⟩ (fun _ _ h g => ⟨h.1.trans (Below.mono g h.1.size), cell_grow h.2 g⟩) ?_
      simp only [List.take_succ_cons, List.take_zero]
      iterate 4 (apply Free.chain_still (by first | exact Free.wanted_of rfl rfl rfl | rfl) rfl; (intro w' hB hA; obtain ⟨qB, q1⟩ := hB; clear hA  qB; go_light; go_simp <;> rfl); (try simp only [Act.put, List.setIfInBounds_toArray, List.set_cons_succ, List.set_cons_zero]))
      apply Free.chain_det (by first | exact Free.wanted_of rfl rfl rfl | rfl) rfl
      · intro w' hB hA
        refine Free.opRun_call (f := 46) (args := #[.slice (some ⟨b, off, none⟩) k c, .pointer (some ⟨bx, 0, none⟩)]) (by clear hB hA; go_simp <;> rfl) ?_
        refine (CA.out w' (HS.out.below hB.1 (Nat.le_refl _)) hB.2 (HT.out.below hB.1 (Nat.le_refl _))).mono ?_
        rintro e w3 ⟨rfl, hb3⟩
        exact ⟨_, rfl, hb3, rfl⟩
      simp only [Act.put, List.setIfInBounds_toArray, List.set_cons_succ, List.set_cons_zero]
      iterate 4 (apply Free.chain_still (by first | exact Free.wanted_of rfl rfl rfl | rfl) rfl; (intro w' hB hA; obtain ⟨qB, q1⟩ := hB; clear hA  qB; go_light; go_simp <;> rfl); (try simp only [Act.put, List.setIfInBounds_toArray, List.set_cons_succ, List.set_cons_zero]))
      apply Free.chain_det (by first | exact Free.wanted_of rfl rfl rfl | rfl) rfl
      · intro w' hB hA
        refine Free.opRun_call (f := 46) (args := #[.slice (some ⟨b, off + k, none⟩) (n - k) (c - k), .pointer (some ⟨bx, 0, none⟩)]) (by clear hB hA; go_simp <;> rfl) ?_
        refine (CB.out w' (HS.out.below hB.1 (Nat.le_refl _)) hB.2 (HT.out.below hB.1 (Nat.le_refl _))).mono ?_
        rintro e w3 ⟨rfl, hb3⟩
        exact ⟨_, rfl, hb3, rfl⟩
      simp only [Act.put, List.setIfInBounds_toArray, List.set_cons_succ, List.set_cons_zero]
      apply Free.chain_det (by first | exact Free.wanted_of rfl rfl rfl | rfl) rfl
      · intro w' hB hA
        refine Free.opRun_call (f := 48) (args := #[.string ra, .string rb]) (by clear hB hA; go_simp <;> rfl) ?_
        refine (CN.out w' (HT.out.below hB.1 (Nat.le_refl _))).mono ?_
        rintro e w3 ⟨rfl, hb3⟩
        exact ⟨_, rfl, hb3, rfl⟩
      simp only [Act.put, List.setIfInBounds_toArray, List.set_cons_succ, List.set_cons_zero]
      iterate 1 (apply Free.chain_still (by first | exact Free.wanted_of rfl rfl rfl | rfl) rfl; (intro w' hB hA; obtain ⟨qB, q1⟩ := hB; clear hA  qB; go_light; go_simp <;> rfl); (try simp only [Act.put, List.setIfInBounds_toArray, List.set_cons_succ, List.set_cons_zero]))
      apply Free.chain_nil
      intro wy hBz _ _
      simp only [List.drop_succ_cons, List.drop_zero]
      have L := Lib.hid hBz.1
      clear hBz
      go_wp2_with fail
      exact FIN.out _ L.out
set_option maxRecDepth 100000 in
theorem root_any (l : List ByteArray) (A : Option Addr) (c : Nat) (w : World) (hc : l.length ≤ c) (hn : l.length < 1000000000) (hs : SL w 1 encS A l) (hsh : Short l) (hT : HasT w) :
    Calls Tryd.prog 16 #[.slice A l.length c] w fun e w' => e = .returned (.string (if l = [] then sumB KC ⟨#[110, 111, 110, 101]⟩ else rootL l)) ∧ Below w.heap.size w w' := by
  obtain ⟨R, eR⟩ : ∃ R : Ending → World → Prop, R = fun e w' => e = .returned (.string (if l = [] then sumB KC ⟨#[110, 111, 110, 101]⟩ else rootL l)) ∧ Below w.heap.size w w' := ⟨_, rfl⟩
  rw [← eR]
  by_cases h0 : l = []
  · subst h0
    have FIN : Hid (∀ w', Below w.heap.size w w' → R (.returned (.string (sumB KC ⟨#[110, 111, 110, 101]⟩))) w') := by
      intro w' hb; rw [eR]; exact ⟨by rw [if_pos rfl], hb⟩
    have N1 := Lib.hid (fun w h => sum_any KC ⟨#[110, 111, 110, 101]⟩ w (by decide) h)
    have HT := Lib.hid hT
    clear hT eR hs hsh
    rw [List.length_nil]
    go_enter Tryd.func16, Tryd.ntmps16
    go_wp2_with fail
    refine (N1.out _ HT.out.k).mono ?_
    rintro e w1 ⟨rfl, hb⟩
    have L := Lib.hid hb
    clear hb
    go_wp2_with fail
    exact FIN.out _ L.out
  · have hl1 : 1 ≤ l.length := by cases l with
      | nil => exact absurd rfl h0
      | cons a l => simp
    have FIN : Hid (∀ w', Below w.heap.size w w' → R (.returned (.string (rootL l))) w') := by
      intro w' hb; rw [eR]; exact ⟨by rw [if_neg h0], hb⟩
    have q0 : ((l.length : Int) == 0) = false := beq_eq_false_iff_ne.2 (by omega)
    have q1 : (l.length == 0) = false := beq_eq_false_iff_ne.2 (by omega)
    have C1 := Lib.hid (fun bx w' (h1 : SL w' 1 encS A l) (h2 : w'.cell? ⟨bx, 0, none⟩ = some (.func (.func 46) #[] #[.pointer (some ⟨bx, 0, none⟩)])) (h3 : HasT w') => root1_any bx l.length l A c w' rfl hl1 hc hn h1 hsh h2 h3)
    have HT := Lib.hid hT
    have HS := Lib.hid hs
    clear hT eR hs hsh h0
    go_enter Tryd.func16, Tryd.ntmps16
    go_wp2_with fail
    have CB : (w.alloc (.cells #[.func (.func 46) #[] #[.pointer (some ⟨w.heap.size, 0, none⟩)]] 36)).cell? ⟨w.heap.size, 0, none⟩ = some (.func (.func 46) #[] #[.pointer (some ⟨w.heap.size, 0, none⟩)]) := by
      have hz : (w.alloc (.cells #[.func (.func 46) #[] #[.pointer (some ⟨w.heap.size, 0, none⟩)]] 36)).heap[w.heap.size]? = some (.cells #[.func (.func 46) #[] #[.pointer (some ⟨w.heap.size, 0, none⟩)]] 36) := Rf.new_at rfl
      unfold World.cell?
      rw [hz]; rfl
    refine (C1.out _ _ (HS.out.alloc _) CB (HT.out.alloc _)).mono ?_
    rintro e w1 ⟨rfl, hb⟩
    have L : Hid (Below w.heap.size w w1) := ((Below.refl _ w).alloc (Nat.le_refl _) _).trans (hb.mono (by simp))
    clear hb
    go_wp2_with fail
    exact FIN.out _ L.out
end Go.Proofs.YtamiaalfjmppaaaDoor
