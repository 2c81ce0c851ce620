/- A region that draws its order and holds calls that turn the world, one after the other: each operation shown once, the world being at the stage that its calls have reached. No condition. The reference's journal: Open. Condition: the disk lies in memory. The reference's journal, or none, in memory, with all that it may write to. No condition. Both journals in one memory. No condition. -/
import Derived.Test.YthfjaaigncjhlaaGreatDoorFree
import Derived.Test.YthfjaaigncjhlaaGreatDoorY3
import Derived.Test.YthfjaaigncjhlaaGreatDoorY1
namespace Go.Fre3
open Go Go.RowKit
open Go.Free (opRun opRun_wp bef okWith okFree frm put_defers put_size put_get_ne put_get_eq frm_defers frm_size frm_slot act_ext frm_more OK frm_lt frm_congr getD_some some_getD bef_listed bef_ready looks_alike exec_alike left left_set)

/-- Which call an operation is. -/
def cl : List Nat → Nat → Option Nat
  | [], _ => none
  | c :: r, k => if c = k then some 0 else (cl r k).map (· + 1)
theorem cl_none : ∀ (Cs : List Nat) (k : Nat), cl Cs k = none → k ∉ Cs
  | [], _, _ => by simp
  | c :: r, k, h => by
    unfold cl at h
    split at h
    · cases h
    · rename_i hne
      have h2 : cl r k = none := by cases hc : cl r k with | none => rfl | some x => rw [hc] at h; cases h
      intro hm
      rcases List.mem_cons.1 hm with e | e
      · exact hne e.symm
      · exact cl_none r k h2 e
theorem cl_split : ∀ (Cs : List Nat) (k c : Nat), cl Cs k = some c → ∃ L1 L2, Cs = L1 ++ k :: L2 ∧ L1.length = c
  | [], _, _, h => by cases h
  | x :: r, k, c, h => by
    unfold cl at h
    split at h
    · rename_i e
      cases h
      exact ⟨[], r, by rw [e]; rfl, rfl⟩
    · cases hc : cl r k with
      | none => rw [hc] at h; cases h
      | some y =>
        rw [hc] at h
        cases h
        obtain ⟨L1, L2, h1, h2⟩ := cl_split r k y hc
        exact ⟨x :: L1, L2, by rw [h1]; rfl, by simp [h2]⟩
def pw (b : Array Nat) : List Nat → Bool
  | [] => true
  | c :: r => r.all (fun q => bef b q c) && pw b r
def callsOk (b : Array Nat) (Cs : List Nat) (n : Nat) : Bool := Cs.all (fun c => decide (c < n)) && pw b Cs
theorem pw_split {b : Array Nat} : ∀ (L1 L2 : List Nat) (k : Nat), pw b (L1 ++ k :: L2) = true → (∀ x ∈ L1, bef b k x = true) ∧ (∀ y ∈ L2, bef b y k = true)
  | [], L2, k, h => by
    unfold pw at h
    rw [List.nil_append] at h
    simp only [Bool.and_eq_true, List.all_eq_true] at h
    exact ⟨fun x hx => by simp at hx, h.1⟩
  | x :: L1, L2, k, h => by
    rw [List.cons_append] at h
    unfold pw at h
    simp only [Bool.and_eq_true, List.all_eq_true] at h
    obtain ⟨h1, h2⟩ := pw_split L1 L2 k h.2
    refine ⟨fun y hy => ?_, h2⟩
    rcases List.mem_cons.1 hy with e | e
    · rw [e]; exact h.1 k (by simp)
    · exact h1 y e
/-- How many calls have been done. -/
def stg (Cs : List Nat) (listed : Array Bool) : Nat := Cs.countP (fun c => listed.getD c false)
section
variable (P : Program) (ops : Array Oper) (b : Array Nat) (Cs : List Nat) (B : Nat → World → Prop)
def chain (fin : Act → Prop) : List Oper → Nat → Act → Prop
  | [], _, a => fin a
  | o :: rest, k, a =>
    if Region.wanted o (yielded ops a.tmps) then
      match cl Cs k with
      | none => ∃ v, (∀ s w', B s w' → (execOp a.eval o).run P w' = .ok (.value v) w') ∧ chain fin rest (k + 1) (a.put o.dst v)
      | some c => ∃ x, (∀ w', B c w' → opRun P o a.eval w' fun u w2 => B (c + 1) w2 ∧ u = x) ∧ chain fin rest (k + 1) (a.put o.dst x)
    else cl Cs k = none ∧ chain fin rest (k + 1) (a.put o.dst undef)
end
section
variable {P : Program} {ops : Array Oper} {b : Array Nat} {Cs : List Nat} {B : Nat → World → Prop} {a0 : Act}
def StepT (P : Program) (ops : Array Oper) (Cs : List Nat) (B : Nat → World → Prop) (a0 : Act) (n : Nat) (v : Nat → Value) (k : Nat) : Prop :=
  (Region.wanted (ops.getD k default) (yielded ops (frm ops a0 v (fun i => decide (i < k)) n).tmps) = true →
    (cl Cs k = none → ∀ s w', B s w' → (execOp (frm ops a0 v (fun i => decide (i < k)) n).eval (ops.getD k default)).run P w' = .ok (.value (v k)) w') ∧
    (∀ c, cl Cs k = some c → ∀ w', B c w' → opRun P (ops.getD k default) (frm ops a0 v (fun i => decide (i < k)) n).eval w' fun y w2 => B (c + 1) w2 ∧ y = v k)) ∧
  (Region.wanted (ops.getD k default) (yielded ops (frm ops a0 v (fun i => decide (i < k)) n).tmps) = false → cl Cs k = none ∧ v k = undef)
theorem StepT_congr {n : Nat} {v v' : Nat → Value} {k : Nat} (h : ∀ j, j < k + 1 → v j = v' j) (hs : StepT P ops Cs B a0 n v k) : StepT P ops Cs B a0 n v' k := by
  have e : frm ops a0 v (fun j => decide (j < k)) n = frm ops a0 v' (fun j => decide (j < k)) n := frm_congr _ _ _ _ (fun j _ hs => h j (by simp at hs; omega))
  have ek := h k (by omega)
  unfold StepT at *
  rw [← e, ← ek]
  exact hs
theorem chain_out {n : Nat} {fin : Act → Prop} (hn : n ≤ ops.size) :
    ∀ (l : List Oper) (k : Nat) (v0 : Nat → Value), k + l.length = n → (∀ j, j < l.length → l[j]? = ops[k + j]?) →
      (∀ j, j < k → StepT P ops Cs B a0 n v0 j) → chain P ops Cs B fin l k (frm ops a0 v0 (fun i => decide (i < k)) n) →
      ∃ v, (∀ j, j < n → StepT P ops Cs B a0 n v j) ∧ fin (frm ops a0 v (fun i => decide (i < n)) n)
  | [], k, v0, hk, _, ht, hc => by
    have : k = n := by simpa using hk
    subst this
    exact ⟨v0, ht, hc⟩
  | o :: l, k, v0, hk, hl, ht, hc => by
    simp only [List.length_cons] at hk
    have ho : ops.getD k default = o := by
      have := hl 0 (by simp)
      simp only [List.getElem?_cons_zero, Nat.add_zero] at this
      simp [Array.getD_eq_getD_getElem?, ← this]
    have hl' : ∀ j, j < l.length → l[j]? = ops[k + 1 + j]? := fun j hj => by
      have := hl (j + 1) (by simp; omega)
      simpa [Nat.add_assoc, Nat.add_comm 1 j] using this
    have go : ∀ x : Value, (StepT P ops Cs B a0 n (fun j => if j = k then x else v0 j) k) →
        chain P ops Cs B fin l (k + 1) ((frm ops a0 v0 (fun i => decide (i < k)) n).put o.dst x) →
        ∃ v, (∀ j, j < n → StepT P ops Cs B a0 n v j) ∧ fin (frm ops a0 v (fun i => decide (i < n)) n) := by
      intro x hx hcx
      refine chain_out hn l (k + 1) (fun j => if j = k then x else v0 j) (by omega) hl' ?_ ?_
      · intro j hj
        by_cases e : j = k
        · subst e; exact hx
        · exact StepT_congr (fun i hi => by simp [show i ≠ k by omega]) (ht j (by omega))
      · have e : frm ops a0 (fun j => if j = k then x else v0 j) (fun i => decide (i < k + 1)) n = (frm ops a0 v0 (fun i => decide (i < k)) n).put o.dst x := by
          rw [frm_lt _ (k + 1) n (by omega), frm_lt _ k n (by omega)]
          simp only [frm, if_true]
          rw [ho, frm_congr (fun j => if j = k then x else v0 j) v0 _ k (fun j hj _ => by simp [show j ≠ k by omega])]
        rw [e]; exact hcx
    have ek : ∀ x : Value, frm ops a0 (fun j => if j = k then x else v0 j) (fun i => decide (i < k)) n = frm ops a0 v0 (fun i => decide (i < k)) n := fun x =>
      frm_congr _ _ _ _ (fun j _ hs => by have : j < k := by simpa using hs
                                          simp [show j ≠ k by omega])
    unfold chain at hc
    by_cases hw : Region.wanted o (yielded ops (frm ops a0 v0 (fun i => decide (i < k)) n).tmps) = true
    · rw [if_pos hw] at hc
      cases hf : cl Cs k with
      | none =>
        rw [hf] at hc
        obtain ⟨x, h1, h2⟩ := hc
        refine go x ?_ h2
        unfold StepT
        rw [ek x, ho]
        refine ⟨fun _ => ⟨fun _ s w' hb => ?_, fun c hy => (by rw [hf] at hy; cases hy)⟩, fun hw' => absurd hw (by rw [hw']; simp)⟩
        simp only [if_true]
        exact h1 s w' hb
      | some c =>
        rw [hf] at hc
        obtain ⟨x, h1, h2⟩ := hc
        refine go x ?_ h2
        unfold StepT
        rw [ek x, ho]
        refine ⟨fun _ => ⟨fun hy => (by rw [hf] at hy; cases hy), fun c' hy w' hb => ?_⟩, fun hw' => absurd hw (by rw [hw']; simp)⟩
        rw [hf] at hy
        cases hy
        simp only [if_true]
        exact h1 w' hb
    · rw [if_neg hw] at hc
      refine go undef ?_ hc.2
      unfold StepT
      rw [ek, ho]
      exact ⟨fun hw' => absurd hw' hw, fun _ => ⟨hc.1, by simp⟩⟩
structure J (P : Program) (ops : Array Oper) (Cs : List Nat) (B : Nat → World → Prop) (a0 : Act) (n : Nat) (v : Nat → Value) (listed : Array Bool) (a : Act) (w : World) : Prop where
  inv : HeadInv .any ops n listed
  fr : a = frm ops a0 v (fun j => listed.getD j false) n
  bw : B (stg Cs listed) w
theorem countP_all {p : Nat → Bool} : ∀ L : List Nat, (∀ x ∈ L, p x = true) → L.countP p = L.length
  | [], _ => rfl
  | x :: r, h => by
    rw [List.countP_cons_of_pos (h x (by simp)), countP_all r (fun y hy => h y (by simp [hy]))]; rfl
theorem countP_no {p : Nat → Bool} (L : List Nat) (h : ∀ x ∈ L, p x = false) : L.countP p = 0 := List.countP_eq_zero.2 (fun x hx => by rw [h x hx]; decide)
theorem J_step {n : Nat} {v : Nat → Value} {listed : Array Bool} {a : Act} {w : World} {Q : Exit → Act → World → Prop} (ok : OK ops n b) (hcs : callsOk b Cs n = true)
    (tr : ∀ j, j < n → StepT P ops Cs B a0 n v j)
    (hJ : J P ops Cs B a0 n v listed a w) {i : Nat} (hin : i < n) (hr : i ∈ Region.ready .any ops listed) :
    wpOp P ops Q i (fun a' w' => J P ops Cs B a0 n v (listed.setIfInBounds i true) a' w') a w := by
  obtain ⟨hul, o, ho, _⟩ := mem_ready.1 hr
  have hi : i < ops.size := (Array.getElem?_eq_some_iff.1 ho).1
  have hul' := getD_both hul
  have hod := getD_some ho
  have inv' := hJ.inv.set hr hin
  have hdist : ∀ j, j < n → j ≠ i → (ops.getD j default).dst = none ∨ (ops.getD j default).dst ≠ (ops.getD i default).dst := by
    intro j hj hne
    rcases Nat.lt_or_gt_of_ne hne with h | h
    · exact ok.dist j i h hin
    · rcases ok.dist i j h hj with h' | h'
      · by_cases e : (ops.getD j default).dst = none
        · exact .inl e
        · right; rw [h']; exact e
      · right; exact Ne.symm h'
  have hself : (listed.setIfInBounds i true).getD i false = true := by
    have : i < listed.size := by rw [hJ.inv.size]; exact hi
    simp [this]
  have hlset : (fun j => (listed.setIfInBounds i true).getD j false) = fun j => if j = i then true else listed.getD j false := by
    funext j
    by_cases e : j = i
    · subst e; rw [hself]; simp
    · rw [if_neg e, getD_set_ne false (Ne.symm e)]
  have hal := exec_alike (ops := ops) (o := o) (a := a) (a' := frm ops a0 v (fun j => decide (j < i)) n)
    (Region.noSelect_spec ok.sel i _ · · ho) (fun t ht => by rw [hJ.fr]; exact looks_alike ok hJ.inv hin hr v t (by rw [hod]; exact ht))
  have st := tr i hin
  unfold StepT at st
  rw [hod] at st
  have hfr : (frm ops a0 v (fun j => listed.getD j false) n).put o.dst (v i) = frm ops a0 v (fun j => (listed.setIfInBounds i true).getD j false) n := by
    rw [hlset, frm_more v _ i n hin hul' hdist v (fun _ _ => rfl), hod]
  have same : cl Cs i = none → stg Cs (listed.setIfInBounds i true) = stg Cs listed := fun h => by
    have hni := cl_none Cs i h
    unfold stg
    refine List.countP_congr (fun c hc => ?_)
    have hne : i ≠ c := fun e => hni (by rw [e]; exact hc)
    rw [getD_set_ne false hne]
  unfold wpOp
  simp only [ho]
  rw [hal.2]
  cases hw : Region.wanted o (yielded ops (frm ops a0 v (fun j => decide (j < i)) n).tmps) with
  | false =>
    simp only [Bool.false_eq_true, if_false]
    obtain ⟨h1, h2⟩ := st.2 hw
    refine ⟨inv', ?_, by rw [same h1]; exact hJ.bw⟩
    rw [hJ.fr, ← h2]; exact hfr
  | true =>
    simp only [if_true]
    left
    obtain ⟨s1, s2⟩ := st.1 hw
    cases hf : cl Cs i with
    | none =>
      have e := s1 hf _ w hJ.bw
      rw [← hal.1] at e
      unfold Oper.wp
      rw [e]
      simp only [Oper.upon]
      exact ⟨inv', by rw [hJ.fr]; exact hfr, by rw [same hf]; exact hJ.bw⟩
    | some c =>
      obtain ⟨L1, L2, hC, hL⟩ := cl_split Cs i c hf
      unfold callsOk at hcs
      simp only [Bool.and_eq_true, List.all_eq_true, decide_eq_true_eq] at hcs
      have hlt := hcs.1
      have hpw := hcs.2
      rw [hC] at hpw hlt
      obtain ⟨p1, p2⟩ := pw_split L1 L2 i hpw
      have l1 : ∀ x ∈ L1, listed.getD x false = true := fun x hx => bef_ready ok hJ.inv hr (by have := hlt x (by simp [hx]); have := ok.le; omega) (p1 x hx)
      have l2 : ∀ y ∈ L2, listed.getD y false = false := fun y hy => by
        cases hly : listed.getD y false with
        | false => rfl
        | true =>
          have hyn := hlt y (by simp [hy])
          have := bef_listed ok hJ.inv y (by have := ok.le; omega) hly i (by have := ok.le; omega) (p2 y hy)
          rw [hul'] at this; cases this
      have hs1 : stg Cs listed = c := by
        unfold stg
        rw [hC, List.countP_append, List.countP_cons_of_neg (by rw [hul']; decide), countP_all L1 l1, countP_no L2 l2, hL]; rfl
      have hne : ∀ y ∈ L2, i ≠ y := fun y hy e => by
        have h1 := p2 y hy
        have hyn := hlt y (by simp [hy])
        have := ok.lt y i (by have := ok.le; omega) (by have := ok.le; omega) h1
        omega
      have hne1 : ∀ x ∈ L1, i ≠ x := fun x hx e => by have := l1 x hx; rw [← e, hul'] at this; cases this
      have hs2 : stg Cs (listed.setIfInBounds i true) = c + 1 := by
        unfold stg
        rw [hC, List.countP_append, List.countP_cons_of_pos (by exact hself), countP_all L1 (fun x hx => by rw [getD_set_ne false (hne1 x hx)]; exact l1 x hx), countP_no L2 (fun y hy => by rw [getD_set_ne false (hne y hy)]; exact l2 y hy), hL]
      have hrun := s2 c hf w (by rw [← hs1]; exact hJ.bw)
      have hrun' : opRun P o a.eval w fun y w2 => B (c + 1) w2 ∧ y = v i := by
        unfold opRun at *; rw [hal.1]; exact hrun
      refine opRun_wp hrun' ?_
      rintro y w2 ⟨hg, rfl⟩
      exact ⟨inv', by rw [hJ.fr]; exact hfr, by rw [hs2]; exact hg⟩
theorem region_staged {n : Nat} {v : Nat → Value} {Q : Exit → Act → World → Prop} (ok : OK ops n b) (hcs : callsOk b Cs n = true) (tr : ∀ j, j < n → StepT P ops Cs B a0 n v j)
    (hfin : ∀ w, B Cs.length w → wpList P ops Q (ops.toList.drop n) (frm ops a0 v (fun i => decide (i < n)) n) w) :
    ∀ (m : Nat) (listed : Array Bool) (a : Act) (w : World), left listed n = m → J P ops Cs B a0 n v listed a w → wpAny P .any ops Q (m + (ops.size - n)) listed a w := by
  intro m
  induction m with
  | zero =>
    rintro listed a w hm hJ
    have hl : ∀ j, j < n → listed.getD j false = true := by
      intro j hj
      have := List.countP_eq_zero.1 hm j (by simpa using hj)
      simpa using this
    have e : listed = Array.replicate n true ++ Array.replicate (ops.size - n) false := by
      apply Array.ext
      · rw [hJ.inv.size]; simp; have := ok.le; omega
      · intro i h1 h2
        by_cases hi : i < n
        · have := hl i hi
          simp [h1] at this
          rw [this, Array.getElem_append_left (by simpa using hi)]; simp
        · have := hJ.inv.tail i (by omega) (by rw [← hJ.inv.size]; exact h1)
          simp [h1] at this
          rw [this, Array.getElem_append_right (by simp; omega)]; simp
    have ef : a = frm ops a0 v (fun i => decide (i < n)) n := by
      rw [hJ.fr]
      exact act_ext (by rw [frm_defers, frm_defers]) (by rw [frm_size, frm_size]) (fun t => frm_slot _ _ _ _ t n (fun j hj _ => ⟨by rw [hl j hj]; simp [hj], fun _ => rfl⟩))
    have hst : stg Cs listed = Cs.length := by
      unfold stg
      refine countP_all Cs (fun x hx => hl x ?_)
      unfold callsOk at hcs
      simp only [Bool.and_eq_true, List.all_eq_true, decide_eq_true_eq] at hcs
      exact hcs.1 x hx
    have hw := hfin w (by rw [← hst]; exact hJ.bw)
    rw [← ef] at hw
    have hlen : (ops.toList.drop n).length = ops.size - n := by simp
    have := wpAny_of_seq (md := .any) (Q' := Q) (ops.toList.drop n) n listed a w (fun j => by simp [List.getElem?_drop]) (by rw [hlen, e]; exact ok.seq) hw
    rw [hlen] at this
    rw [Nat.zero_add]; exact this
  | succ m ih =>
    rintro listed a w hm hJ
    rw [show m + 1 + (ops.size - n) = (m + (ops.size - n)) + 1 by omega]
    refine ⟨fun hnil => ?_, fun i hi => ?_⟩
    · exfalso
      have hex : ∃ k, k < n ∧ listed.getD k false = false ∧ ∀ j, j < k → listed.getD j false = true := by
        have : ∀ N, N ≤ n → (∀ j, j < N → listed.getD j false = true) ∨ ∃ k, k < n ∧ listed.getD k false = false ∧ ∀ j, j < k → listed.getD j false = true := by
          intro N
          induction N with
          | zero => intro _; left; intro j hj; omega
          | succ N ihN =>
            intro hN
            rcases ihN (by omega) with h | h
            · cases hl : listed.getD N false with
              | false => right; exact ⟨N, by omega, hl, h⟩
              | true => left; intro j hj; by_cases e : j = N
                        · subst e; exact hl
                        · exact h j (by omega)
            · exact .inr h
        rcases this n (Nat.le_refl _) with h | h
        · have : left listed n = 0 := List.countP_eq_zero.2 (fun j hj => by have := h j (by simpa using hj); simp at this ⊢; exact this)
          omega
        · exact h
      obtain ⟨k, hk, hkl, hlow⟩ := hex
      have hks : k < ops.size := by have := ok.le; omega
      have : k ∈ Region.ready .any ops listed := mem_ready.2 ⟨getD_in (by rw [hJ.inv.size]; exact hks) hkl, _, some_getD hks, fun e he hb => hlow e.on (ok.edge k hks e he hb).1⟩
      rw [hnil] at this; cases this
    · have hin : i < n := by
        rcases Nat.lt_or_ge i n with h | h
        · exact h
        · exfalso
          obtain ⟨_, o, ho, _⟩ := mem_ready.1 hi
          have his : i < ops.size := (Array.getElem?_eq_some_iff.1 ho).1
          have : left listed n = 0 := List.countP_eq_zero.2 (fun j hj => by
            have hjn : j < n := by simpa using hj
            have := bef_ready ok hJ.inv hi (by omega) (ok.tail i j h his hjn)
            simp at this ⊢; exact this)
          omega
      obtain ⟨hul, o, ho, _⟩ := mem_ready.1 hi
      have his : i < ops.size := (Array.getElem?_eq_some_iff.1 ho).1
      have hls : i < listed.size := by rw [hJ.inv.size]; exact his
      have hc : left (listed.setIfInBounds i true) n = m := by have := left_set (n := n) hin hls (getD_both hul); omega
      exact wpOp_mono (fun a' w' h => ih _ a' w' hc h) (J_step ok hcs tr hJ hin hi)
theorem wp_region_staged {id : Nat} {Q : Exit → Act → World → Prop} {a : Act} {w : World} {l : List Oper} (n : Nat) (Cs : List Nat) (B : Nat → World → Prop)
    (hm : P.follows .mixedOrders = true) (hok : okFree l.toArray n = true) (hcs : callsOk (Region.before l.toArray) Cs n = true) (hB0 : B 0 w.drew)
    (h : chain P l.toArray Cs B (fun a' => ∀ w', B Cs.length w' → wpList P l.toArray Q (l.drop n) a' w') (l.take n) 0 a) :
    (Code.region id l.toArray true).wp P Q a w := by
  have ok := OK.of hok
  have hle : n ≤ l.length := by simpa using ok.le
  have e0 : frm l.toArray a (fun _ => undef) (fun i => decide (i < 0)) n = a := by
    rw [frm_lt _ 0 n (by omega)]; rfl
  obtain ⟨v, tr, hfin⟩ := chain_out (P := P) (ops := l.toArray) (Cs := Cs) (B := B) (a0 := a) ok.le (l.take n) 0 (fun _ => undef) (by simp; omega) (fun j hj => by
      have : j < n := by simp at hj; omega
      simp [this]) (fun j hj => by omega) (by rw [e0]; exact h)
  refine wp_region_any hm ?_
  have inv0 : HeadInv .any l.toArray n (Array.replicate l.toArray.size false) :=
    ⟨by simp, fun j oj _ hl => (by rw [getD_replicate_false] at hl; cases hl), fun t _ ht => getD_in (by simpa using ht) (getD_replicate_false _ _)⟩
  have hleft : left (Array.replicate l.toArray.size false) n = n := by
    unfold left
    have : (List.range n).countP (fun j => !(Array.replicate l.toArray.size false).getD j false) = (List.range n).length := List.countP_eq_length.2 (fun j _ => by rw [getD_replicate_false]; rfl)
    rw [this]; simp
  have J0 : J P l.toArray Cs B a n v (Array.replicate l.toArray.size false) a w.drew := by
    refine ⟨inv0, ?_, ?_⟩
    · have : (fun j => (Array.replicate l.toArray.size false).getD j false) = fun i => decide (i < 0) := by funext j; rw [getD_replicate_false]; simp
      rw [this, frm_lt _ 0 n (by omega)]; rfl
    · have : stg Cs (Array.replicate l.toArray.size false) = 0 := countP_no Cs (fun x _ => getD_replicate_false _ _)
      rw [this]; exact hB0
  have := region_staged (Q := Q) ok hcs tr hfin n _ a w.drew hleft J0
  rw [show n + (l.toArray.size - n) = l.toArray.size by simp; omega] at this
  exact this
variable {fin : Act → Prop} {o : Oper} {rest : List Oper} {k : Nat} {a : Act}
theorem chain_still (hw : Region.wanted o (yielded ops a.tmps) = true) (hf : cl Cs k = none) {v : Value} (h1 : ∀ s w', B s w' → (execOp a.eval o).run P w' = .ok (.value v) w')
    (h2 : chain P ops Cs B fin rest (k + 1) (a.put o.dst v)) : chain P ops Cs B fin (o :: rest) k a := by
  unfold chain
  rw [if_pos hw, hf]
  exact ⟨v, h1, h2⟩
theorem chain_call (hw : Region.wanted o (yielded ops a.tmps) = true) {c : Nat} (hf : cl Cs k = some c) {x : Value} (h1 : ∀ w', B c w' → opRun P o a.eval w' fun u w2 => B (c + 1) w2 ∧ u = x)
    (h2 : chain P ops Cs B fin rest (k + 1) (a.put o.dst x)) : chain P ops Cs B fin (o :: rest) k a := by
  unfold chain
  rw [if_pos hw, hf]
  exact ⟨x, h1, h2⟩
theorem chain_nil (h2 : fin a) : chain P ops Cs B fin [] k a := h2
end
end Go.Fre3

namespace Go.Proofs.YthfjaaigncjhlaaGreatDoor
open Go.RowKit Go.Blk Go.Jn Go.Dk Go.Mp Go.Rf Go.Shelf Go.Apl Go.Opn

/-- What Open leaves. -/
def ROpPost (w : World) (b bs cp n : Nat) (pv : Value) (d : DD) (e : Ending) (w' : World) : Prop :=
  Below w.heap.size w w' ∧ (((openD n d).2 = none ∧ e = .returned (.tuple #[.pointer none, .slice none 0 0, .int .i64 (openD n d).1])) ∨
    ∃ v a r rb rv A c, openD n d = (0, some (v, a, r)) ∧ e = .returned (.tuple #[.pointer (some ⟨rb, 0, none⟩), .slice A r.length c, .int .i64 0]) ∧
      RJAt w' rb b bs cp pv rv n ⟨d, v, a, r, false⟩ ∧ w.heap.size ≤ rb ∧ (∀ k, rv.ownBlock = some k → w.heap.size ≤ k) ∧
      RowT w' w.heap.size (.slice A r.length c) r ∧ (∀ k, (Value.slice A r.length c).ownBlock = some k → ¬ RJFp rb b bs pv rv k))
theorem ropen_nil (w : World) : Calls Tryz.prog 9 #[.pointer none] w fun e w' => e = .returned (.tuple #[.pointer none, .slice none 0 0, .int .i64 1]) ∧ w = w' := by
  go_enter Tryz.func9, Tryz.ntmps9
  go_wp2_with fail
  exact bodyPost_ret (v := .tuple #[.pointer none, .slice none 0 0, .int .i64 1]) (by simp [results, Tryz.results9, go_sem]) rfl ⟨rfl, rfl⟩
theorem rd_code {n : Nat} {d : DD} (hon : d.on = true) (k : Nat) : (DD.read n d (k : Int)).2 = if k < n then 0 else 1 := by
  unfold DD.read DD.hasB
  rw [if_pos hon]
  by_cases h : k < n
  · rw [if_pos h, if_pos (by simp; omega)]
  · rw [if_neg h, if_neg (by simp; omega)]
def ROp (n : Nat) (vi ve : Value) : Prop := ∃ k : Nat, vi = .int .i64 (k : Int) ∧ k ≤ n ∧ ve = .int .i64 (if k < n then 0 else 1)
set_option maxRecDepth 100000 in
set_option maxHeartbeats 4000000 in
theorem ropen_any {w : World} {b bs cp n : Nat} {pv : Value} {d : DD} (hd : RDAt w b bs cp pv d n) : Calls Tryz.prog 9 #[.pointer (some ⟨b, 0, none⟩)] w (ROpPost w b bs cp n pv d) := by
  have hn2 := hd.ok.n2
  have hn1 := hd.ok.n1
  obtain ⟨R, eR⟩ : ∃ R, R = ROpPost w b bs cp n pv d := ⟨_, rfl⟩
  rw [← eR]
  have FB : Hid (∀ c w', openD n d = (c, none) → Below w.heap.size w w' → R (.returned (.tuple #[.pointer none, .slice none 0 0, .int .i64 c])) w') := fun c w' h hb => by
    rw [eR]
    exact ⟨hb, .inl ⟨by rw [h], by rw [h]⟩⟩
  have ER := Lib.hid eR
  clear eR
  cases hon : d.on with
  | false =>
    have RD := rread_any hd 0
    have hrd : DD.read n d 0 = ([], 21) := by simp [DD.read, hon]
    rw [hrd] at RD
    have RDH := Lib.hid RD
    have G := Lib.hid (FB.out 21 w (by unfold openD; rw [if_pos hon]) (Below.refl _ _))
    clear RD hrd hd hon FB
    go_enter Tryz.func9, Tryz.ntmps9
    go_wp2_with fail
    refine RDH.out.mono ?_
    rintro e w' ⟨rfl, rfl⟩
    go_wp2_with fail
    go_loop [5, 7] (fun i e => i = Value.int .i64 0 ∧ e = Value.int .i64 21) (fun _ _ => 0)
    case atStart => exact ⟨rfl, rfl⟩
    case round =>
    obtain ⟨rfl, rfl⟩ := hrel
    go_wp2_with fail
    first
      | exact G.out
      | exact bodyPost_ret (v := .tuple #[.pointer none, .slice none 0 0, .int .i64 21]) (by simp [results, Tryz.results9, go_sem]) rfl G.out
  | true =>
    have RD := Lib.hid (fun (k : Nat) => rread_any hd (k : Int))
    have RCD := Lib.hid (fun (k : Nat) => rd_code (n := n) hon k)
    have HON := Lib.hid hon
    have HD := Lib.hid hd
    have EL := Lib.hid (eff_len hd.ok)
    have R0 : Hid (Calls Tryz.prog 29 #[.pointer (some ⟨b, 0, none⟩), .int .i64 0] w fun e w' => (∃ t : ByteArray, e = .returned (.tuple #[.string t, .int .i64 0])) ∧ w = w') := by
      have := rread_any hd 0
      have h0 := rd_code (n := n) hon 0
      rw [if_pos (by omega)] at h0
      refine this.mono fun e w' h => ⟨⟨_, h.1.trans (congrArg (fun z => Ending.returned (.tuple #[_, .int .i64 z])) h0)⟩, h.2⟩
    have HST : Hid (ROp n (.int .i64 0) (.int .i64 0)) := ⟨0, rfl, Nat.zero_le _, by rw [if_pos (by omega)]⟩
    clear hd hon
    go_enter Tryz.func9, Tryz.ntmps9
    go_wp2_with fail
    refine R0.out.mono ?_
    rintro e w' ⟨⟨t0, rfl⟩, rfl⟩
    clear R0
    go_wp2_with fail
    go_loop [5, 7] (fun i e => ROp n i e) (fun i _ => n - (intOf i).toNat)
    case atStart => exact HST.out
    case round =>
      clear HST
      obtain ⟨k, rfl, hk, rfl⟩ := hrel
      by_cases hlt : k < n
      · rw [if_pos hlt]
        obtain ⟨c1, ec1⟩ : ∃ c1 : Int, c1 = if k + 1 < n then 0 else 1 := ⟨_, rfl⟩
        have RK : Hid (Calls Tryz.prog 29 #[.pointer (some ⟨b, 0, none⟩), .int .i64 ((k : Int) + 1)] w fun e w' => (∃ t : ByteArray, e = .returned (.tuple #[.string t, .int .i64 c1])) ∧ w = w') := by
          have := RD.out (k + 1)
          have hc := RCD.out (k + 1)
          rw [← ec1] at hc
          rw [show ((k + 1 : Nat) : Int) = (k : Int) + 1 by omega] at this hc
          exact this.mono fun e w' h => ⟨⟨_, h.1.trans (congrArg (fun z => Ending.returned (.tuple #[_, .int .i64 z])) hc)⟩, h.2⟩
        have KEY : Hid (ROp n (.int .i64 ((k : Int) + 1)) (.int .i64 c1)) := ⟨k + 1, by go_num, by omega, by rw [ec1]⟩
        clear ec1
        go_wp2_with fail
        refine RK.out.mono ?_
        rintro e w' ⟨⟨t1, rfl⟩, rfl⟩
        clear RK
        go_wp2_with fail
        exact ⟨KEY.out, by simp [intOf]; omega⟩
      · obtain rfl : k = n := by omega
        rw [if_neg hlt]
        by_cases h4' : k < 4
        · have h4i : (k : Int) < 4 := by omega
          have G := Lib.hid (FB.out 1 w (by unfold openD; rw [if_neg (by rw [HON.out]; decide), if_pos h4']) (Below.refl _ _))
          clear FB RD RCD
          go_wp2_with fail
          first
            | exact G.out
            | exact bodyPost_ret (v := .tuple #[.pointer none, .slice none 0 0, .int .i64 1]) (by simp [results, Tryz.results9, go_sem]) rfl G.out
        · have h4 : 4 ≤ k := by omega
          have h4i : ¬ (k : Int) < 4 := by omega
          obtain ⟨q, eq⟩ : ∃ q, q = (k - 2) / 2 := ⟨_, rfl⟩
          have EQ := Lib.hid eq
          have hq4 : q ≤ 2000 := by omega
          have HQ : Hid (2 + 2 * q ≤ k) := by show _ ≤ _; omega
          have S0 := rread_any HD.out 0
          have S1 := rread_any HD.out 1
          have hs0 : DD.read k d 0 = (sec (eff d) 0, 0) := read_eff HD.out.ok HON.out (s := 0) (by omega)
          have hs1 : DD.read k d 1 = (sec (eff d) 1, 0) := read_eff HD.out.ok HON.out (s := 1) (by omega)
          rw [hs0] at S0
          rw [hs1] at S1
          have l0 : (sec (eff d) 0).length = 32 := sec_len (by rw [EL.out]; omega)
          have l1 : (sec (eff d) 1).length = 32 := sec_len (by rw [EL.out]; omega)
          obtain ⟨t0, et0⟩ : ∃ t0 : ByteArray, t0 = ⟨(sec (eff d) 0).toArray⟩ := ⟨_, rfl⟩
          obtain ⟨t1, et1⟩ : ∃ t1 : ByteArray, t1 = ⟨(sec (eff d) 1).toArray⟩ := ⟨_, rfl⟩
          have z0 : t0.size = 32 := by rw [et0]; exact (tx_size _).trans l0
          have z1 : t1.size = 32 := by rw [et1]; exact (tx_size _).trans l1
          have e0 : t0.data.toList = sec (eff d) 0 := by rw [et0]
          have e1 : t1.data.toList = sec (eff d) 1 := by rw [et1]
          rw [← et0] at S0
          rw [← et1] at S1
          have S0H := Lib.hid S0
          have S1H := Lib.hid S1
          have V0 := Lib.hid (rvalue_any t0 k w z0 h4 hn2)
          have V1 := Lib.hid (fun w' => rvalue_any t1 k w' z1 h4 hn2)
          have K0 := Lib.hid (fun w' => rblank_any t0 w' (by omega))
          have K1 := Lib.hid (fun w' => rblank_any t1 w' (by omega))
          rw [e0, ← eq] at V0
          rw [e1, ← eq] at V1
          rw [e0, z0] at K0
          rw [e1, z1] at K1
          clear S0 S1 hs0 hs1 l0 l1 et0 et1 e0 e1 eq RD RCD hlt
          go_wp2_with fail
          refine S0H.out.mono ?_
          rintro e w' ⟨rfl, rfl⟩
          go_wp2_with fail
          refine S1H.out.mono ?_
          rintro e w' ⟨rfl, rfl⟩
          go_wp2_with fail
          refine V0.out.mono ?_
          rintro e w2 ⟨hb2, a0, b0, c0, ok0, rfl, hv0⟩
          go_wp2_with fail
          refine (V1.out w2).mono ?_
          rintro e w3 ⟨hb3, a1, b1, c1, ok1, rfl, hv1⟩
          have HB3 : Hid (Below w.heap.size w w3) := hb2.trans (hb3.mono hb2.size)
          have K0' : Hid (∀ w', Calls Tryz.prog 39 #[.string t0] w' fun e w2 => e = .returned (.bool (decide (sec (eff d) 0 = List.replicate 32 0))) ∧ w' = w2) := K0.out
          obtain ⟨z0b, ez0⟩ : ∃ z, z = decide (sec (eff d) 0 = List.replicate 32 0) := ⟨_, rfl⟩
          obtain ⟨z1b, ez1⟩ : ∃ z, z = decide (sec (eff d) 1 = List.replicate 32 0) := ⟨_, rfl⟩
          rw [← ez0] at K0
          rw [← ez1] at K1
          have EZ0 := Lib.hid ez0
          have EZ1 := Lib.hid ez1
          have HV0 := Lib.hid hv0
          have HV1 := Lib.hid hv1
          have HNW : Hid (Blk (w3.alloc (.cells #[.pointer (some ⟨b, 0, none⟩), .int .i64 (k : Int), .int .i64 0, .int .i64 0, .int .i64 0, .int .i64 0, .slice none 0 0, .bool false] 73)) w3.heap.size [.pointer (some ⟨b, 0, none⟩), .int .i64 (k : Int), .int .i64 0, .int .i64 0, .int .i64 0, .int .i64 0, .slice none 0 0, .bool false] 73) := Blk.new w3 _ _
          clear hb2 hb3 ez0 ez1 hv0 hv1 V0 V1 S0H S1H K0'
          cases ok0 with
          | true =>
            have p0 : parseV (sec (eff d) 0) (32 * q) = some (a0, b0, c0) := HV0.out.elim (fun h => h.2) (fun h => by cases h.1)
            cases ok1 with
            | true =>
              have p1 : parseV (sec (eff d) 1) (32 * q) = some (a1, b1, c1) := HV1.out.elim (fun h => h.2) (fun h => by cases h.1)
              by_cases hle : a1 ≤ a0
              · have hle2 : (a1 : Int) ≤ (a0 : Int) := by omega
                have PVX : Hid (presV (sec (eff d) 0) (sec (eff d) 1) (32 * q) = some ((a0, b0, c0), 0)) := by
                  show _ = _
                  unfold presV
                  rw [p0, p1]
                  simp only
                  rw [if_pos hle]
                clear p0 p1
                go_wp2_with fail
                clear K0 K1
                obtain ⟨N, eN⟩ : ∃ N : Nat, N = a0 := ⟨_, rfl⟩
                obtain ⟨H, eH⟩ : ∃ H : Nat, H = b0 := ⟨_, rfl⟩
                obtain ⟨L, eL⟩ : ∃ L : Nat, L = c0 := ⟨_, rfl⟩
                obtain ⟨AT, eAT⟩ : ∃ AT : Nat, AT = 0 := ⟨_, rfl⟩
                obtain ⟨wj, ewj⟩ : ∃ wj, wj = (w3.alloc (.cells #[.pointer (some ⟨b, 0, none⟩), .int .i64 (k : Int), .int .i64 0, .int .i64 (a0 : Int), .int .i64 (b0 : Int), .int .i64 (c0 : Int), .slice none 0 0, .bool false] 73)) := ⟨_, rfl⟩
                have HBJ : Hid (Blk wj w3.heap.size (cellsK (N, H, L) AT k b (.slice none 0 0) false) 73) := by rw [ewj, eN, eH, eL, eAT]; exact (Blk.new w3 _ _)
                have HBW : Hid (Below w.heap.size w wj) := by rw [ewj]; exact (HB3.out.alloc HB3.out.size _)
                have PV : Hid (presV (sec (eff d) 0) (sec (eff d) 1) (32 * q) = some ((N, H, L), AT)) := by rw [eN, eH, eL, eAT]; exact PVX.out
                rw [← ewj]
                clear eN eH eL eAT ewj
                obtain ⟨hH, hL⟩ := pres_range PV.out
                have hH : H ≤ 1 := hH
                have hL : L ≤ 32 * q := hL
                have hAT : AT ≤ 1 := (pres_at PV.out).elim (fun h => by omega) (fun h => by omega)
                have hN : N ≤ 999999999 := pres_num PV.out
                obtain ⟨M, eM⟩ : ∃ M, M = (L + 31) / 32 := ⟨_, rfl⟩
                have hM : M ≤ q := by omega
                have CO := Lib.hid (fun (w' : World) (hb : Below wj.heap.size wj w') => by
                  have := rcontent_any (HD.out.below (HBW.out.trans (hb.mono HBW.out.size))) HON.out h4 H 0 M hH (by rw [← EQ.out]; omega)
                  rw [← EQ.out, Nat.add_zero, Nat.zero_add] at this
                  exact (this : Calls Tryz.prog 41 #[.pointer (some ⟨b, 0, none⟩), .int .i64 (k : Int), .int .i64 (H : Int), .int .i64 0, .int .i64 (M : Int)] w' _).mono fun e w2 h => (⟨h.1, by rw [← h.2]; exact Below.refl _ _⟩ : e = .returned (.string (tx (((eff d).drop (32 * (2 + H * q))).take (32 * M)))) ∧ Below w'.heap.size w' w2))
                have hHq : H * q ≤ q := by
                  have : H = 0 ∨ H = 1 := by omega
                  rcases this with e | e <;> rw [e] <;> simp
                have hTl : (((eff d).drop (32 * (2 + H * q))).take (32 * M)).length = 32 * M := by rw [List.length_take, List.length_drop, EL.out]; have := HQ.out; omega
                obtain ⟨T, eT⟩ : ∃ T, T = tx (((eff d).drop (32 * (2 + H * q))).take (32 * M)) := ⟨_, rfl⟩
                have hTs : T.size = 32 * M := by rw [eT, tx_size]; exact hTl
                have hcut : (T.extract 0 L).data.toList = half (eff d) q H L := by
                  rw [ext_list, eT]
                  unfold half
                  have : (tx (((eff d).drop (32 * (2 + H * q))).take (32 * M))).data.toList = ((eff d).drop (32 * (2 + H * q))).take (32 * M) := by simp [tx]
                  rw [this, List.drop_zero, Nat.sub_zero, List.take_take, Nat.min_eq_left (by omega)]
                have hUs : (T.extract 0 L).size ≤ 64000 := by rw [ByteArray.size_extract]; omega
                have hLM : (L : Int) ≤ (T.size : Int) := by omega
                have hLM2 : (L : Int) ≤ 32 * (M : Int) := by omega
                have L0 : (0 : Int) ≤ (L : Int) := by omega
                rw [← eT] at CO
                have u1 : IntKind.i64.wrap ((L : Int) + 31) = (L : Int) + 31 := by rw [IntWalk.i64_left, IntWalk.wrap64_in _ ⟨by omega, by omega⟩]
                have u2 : Int.tdiv ((L : Int) + 31) 32 = (M : Int) := by rw [Int.tdiv_eq_ediv_of_nonneg (by omega)]; omega
                have u3 : IntKind.i64.wrap (M : Int) = (M : Int) := by rw [IntWalk.i64_left, IntWalk.wrap64_in _ ⟨by omega, by omega⟩]
                have RC := Lib.hid (fun w' => rrecords_any (T.extract 0 L) w' (by omega))
                rw [hcut] at RC
                have c4 := HBJ.out.cellD 4 _ rfl
                have c5 := HBJ.out.cellD 5 _ rfl
                have HTS := Lib.hid hTs
                clear hTl eT hcut eM
                cases hsp : splitL (half (eff d) q H L) with
                | none =>
                  have OD : Hid (openD k d = (20, none)) := by
                    show _ = _
                    unfold openD
                    rw [if_neg (by rw [HON.out]; decide), if_neg (by omega), ← EQ.out, PV.out]
                    simp only
                    rw [hsp]
                  rw [hsp] at RC
                  have RCN : Hid (∀ w', Calls Tryz.prog 40 #[.string (T.extract 0 L)] w' fun e w2 => e = .returned (.tuple #[.slice none 0 0, .bool false]) ∧ Below w'.heap.size w' w2) := fun w' => (RC.out w').mono fun e w2 h => by
                    obtain ⟨h1, ⟨_, h2⟩ | ⟨p, v, h2, _⟩⟩ := h
                    · exact ⟨h2, h1⟩
                    · cases h2
                  clear hsp RC hTs
                  go_wp2_with fail
                  refine Free.wp_region_free 18 [(8, .det (.string T)), (12, .det (.tuple #[.slice none 0 0, .bool false]))] (fun y => Below wj.heap.size wj y ∧ y.cell? ⟨w3.heap.size, 4, none⟩ = some (.int .i64 (H : Int)) ∧ y.cell? ⟨w3.heap.size, 5, none⟩ = some (.int .i64 (L : Int))) (by kernel_rfl) (by kernel_rfl) (Free.mono_det (fun j mk r hf => by simp only [Free.find] at hf; repeat' (first | cases hf | split at hf))) ⟨(Below.refl _ _).drew, c4, c5⟩ (fun _ _ h g => ⟨h.1.trans (Below.mono g h.1.size), cell_grow' h.2.1 g, cell_grow' h.2.2 g⟩) ?_
                  simp only [List.take_succ_cons, List.take_zero]
                  clear c4 c5
                  iterate 8 (apply Free.chain_still (by first | exact Free.wanted_of rfl rfl rfl | rfl) rfl; (intro w' hB hA; obtain ⟨qB, q4, q5⟩ := hB; clear hA  qB; go_light; go_simp <;> rfl); (try simp only [Act.put, List.setIfInBounds_toArray, List.set_cons_succ, List.set_cons_zero]))
                  apply Free.chain_det (by first | exact Free.wanted_of rfl rfl rfl | rfl) rfl
                  · intro w' hB hA
                    refine Free.opRun_call (f := 41) (args := #[.pointer (some ⟨b, 0, none⟩), .int .i64 (k : Int), .int .i64 (H : Int), .int .i64 0, .int .i64 (M : Int)]) (by clear hB hA; go_simp <;> rfl) ?_
                    refine (CO.out w' hB.1).mono ?_
                    rintro e w3 ⟨rfl, hb3⟩
                    exact ⟨_, rfl, hb3, rfl⟩
                  simp only [Act.put, List.setIfInBounds_toArray, List.set_cons_succ, List.set_cons_zero]
                  iterate 3 (apply Free.chain_still (by first | exact Free.wanted_of rfl rfl rfl | rfl) rfl; (intro w' hB hA; obtain ⟨qB, q4, q5⟩ := hB; clear hA  qB; go_light; go_simp <;> rfl); (try simp only [Act.put, List.setIfInBounds_toArray, List.set_cons_succ, List.set_cons_zero]))
                  apply Free.chain_det (by first | exact Free.wanted_of rfl rfl rfl | rfl) rfl
                  · intro w' hB hA
                    refine Free.opRun_call (f := 40) (args := #[.string (T.extract 0 L)]) (by clear hB hA; go_simp <;> rfl) ?_
                    refine (RCN.out w').mono ?_
                    rintro e w3 ⟨rfl, hb3⟩
                    exact ⟨_, rfl, hb3, rfl⟩
                  simp only [Act.put, List.setIfInBounds_toArray, List.set_cons_succ, List.set_cons_zero]
                  iterate 5 (apply Free.chain_still (by first | exact Free.wanted_of rfl rfl rfl | rfl) rfl; (intro w' hB hA; obtain ⟨qB, q4, q5⟩ := hB; clear hA  qB; go_light; go_simp <;> rfl); (try simp only [Act.put, List.setIfInBounds_toArray, List.set_cons_succ, List.set_cons_zero]))
                  apply Free.chain_nil
                  intro wy hBz _ _
                  simp only [List.drop_succ_cons, List.drop_zero]
                  have G := Lib.hid (FB.out 20 wy OD.out (HBW.out.trans (hBz.1.mono HBW.out.size)))
                  clear hBz
                  go_wp2_with fail
                  first
                    | exact G.out
                    | exact bodyPost_ret (v := .tuple #[.pointer none, .slice none 0 0, .int .i64 20]) (by simp [results, Tryz.results9, go_sem]) rfl G.out
                | some r =>
                  have OD : Hid (openD k d = (0, some ((N, H, L), AT, r))) := by
                    show _ = _
                    unfold openD
                    rw [if_neg (by rw [HON.out]; decide), if_neg (by omega), ← EQ.out, PV.out]
                    simp only
                    rw [hsp]
                  have hfew : r.length ≤ 1000000 := by
                    have hf := (found_open OD.out).2.2.2
                    have h1 := (found_len EL.out hf).1
                    have h3 := roomL_ge r
                    have h1 : L = roomL r := h1
                    omega
                  rw [hsp] at RC
                  have RCS : Hid (∀ w', Calls Tryz.prog 40 #[.string (T.extract 0 L)] w' fun e w2 => ∃ z, e = .returned (.tuple #[mkS r.length z, .bool true]) ∧ RowT w2 w'.heap.size (mkS r.length z) r ∧ Below w'.heap.size w' w2) := fun w' => (RC.out w').mono fun e w2 h => by
                    obtain ⟨h1, ⟨h2, _⟩ | ⟨p, v, h2, h3, h4⟩⟩ := h
                    · cases h2
                    · have h2 : r = bys p := by injection h2
                      have hr : RowT w2 w'.heap.size v r := by
                        unfold RowT
                        have e1 : (bys p).map tx = p := by
                          unfold bys
                          rw [List.map_map]
                          exact (List.map_congr_left (fun x _ => tx_of x)).trans (List.map_id p)
                        have e2 : (bys p).length = p.length := by unfold bys; simp
                        rw [h2, e1, e2]; exact h4
                      obtain ⟨z, hz⟩ := mkS_of hr
                      rw [hz] at hr h3
                      exact ⟨z, h3, hr, h1⟩
                  clear hsp RC hTs
                  go_wp2_with fail
                  refine Free.wp_region_free 18 [(8, .det (.string T)), (12, .ind (fun z => .tuple #[mkS r.length z, .bool true]) (fun z w2 => RowT w2 wj.heap.size (mkS r.length z) r))] (fun y => Below wj.heap.size wj y ∧ y.cell? ⟨w3.heap.size, 4, none⟩ = some (.int .i64 (H : Int)) ∧ y.cell? ⟨w3.heap.size, 5, none⟩ = some (.int .i64 (L : Int))) (by kernel_rfl) (by kernel_rfl) ?_ ⟨(Below.refl _ _).drew, c4, c5⟩ (fun _ _ h g => ⟨h.1.trans (Below.mono g h.1.size), cell_grow' h.2.1 g, cell_grow' h.2.2 g⟩) ?_
                  · intro j mk rr hf y w1 w2 hr gr
                    simp only [Free.find] at hf
                    split at hf
                    · cases hf
                    · split at hf
                      · cases hf; exact rowB hr gr
                      · cases hf
                  simp only [List.take_succ_cons, List.take_zero]
                  clear c4 c5
                  iterate 8 (apply Free.chain_still (by first | exact Free.wanted_of rfl rfl rfl | rfl) rfl; (intro w' hB hA; obtain ⟨qB, q4, q5⟩ := hB; clear hA  qB; go_light; go_simp <;> rfl); (try simp only [Act.put, List.setIfInBounds_toArray, List.set_cons_succ, List.set_cons_zero]))
                  apply Free.chain_det (by first | exact Free.wanted_of rfl rfl rfl | rfl) rfl
                  · intro w' hB hA
                    refine Free.opRun_call (f := 41) (args := #[.pointer (some ⟨b, 0, none⟩), .int .i64 (k : Int), .int .i64 (H : Int), .int .i64 0, .int .i64 (M : Int)]) (by clear hB hA; go_simp <;> rfl) ?_
                    refine (CO.out w' hB.1).mono ?_
                    rintro e w3 ⟨rfl, hb3⟩
                    exact ⟨_, rfl, hb3, rfl⟩
                  simp only [Act.put, List.setIfInBounds_toArray, List.set_cons_succ, List.set_cons_zero]
                  iterate 3 (apply Free.chain_still (by first | exact Free.wanted_of rfl rfl rfl | rfl) rfl; (intro w' hB hA; obtain ⟨qB, q4, q5⟩ := hB; clear hA  qB; go_light; go_simp <;> rfl); (try simp only [Act.put, List.setIfInBounds_toArray, List.set_cons_succ, List.set_cons_zero]))
                  apply Free.chain_ind (by first | exact Free.wanted_of rfl rfl rfl | rfl) rfl
                  · intro w' hB hA
                    refine Free.opRun_call (f := 40) (args := #[.string (T.extract 0 L)]) (by clear hB hA; go_simp <;> rfl) ?_
                    refine (RCS.out w').mono ?_
                    rintro e w3 ⟨z, rfl, hrow, hb3⟩
                    exact ⟨_, rfl, hb3, z, rfl, row_base hrow hB.1.size⟩
                  intro z
                  simp only [Act.put, List.setIfInBounds_toArray, List.set_cons_succ, List.set_cons_zero]
                  iterate 5 (apply Free.chain_still (by first | exact Free.wanted_of rfl rfl rfl | rfl) rfl; (intro w' hB hA; obtain ⟨qB, q4, q5⟩ := hB; clear hA  qB; go_light; go_simp <;> rfl); (try simp only [Act.put, List.setIfInBounds_toArray, List.set_cons_succ, List.set_cons_zero]))
                  apply Free.chain_nil
                  intro wy hBz _ hh
                  have hrow : RowT wy wj.heap.size (mkS r.length z) r := hh _ List.mem_cons_self
                  simp only [List.drop_succ_cons, List.drop_zero]
                  obtain ⟨Ar, mr, cr, er⟩ := row_is hrow
                  rw [er] at hrow ⊢
                  obtain ⟨emr, hslr, _⟩ := row_sl hrow
                  subst emr
                  have hBY := HBJ.out.below hBz.1 HBJ.out.lt
                  have c6 := hBY.cellD 6 _ rfl
                  have f6 := hBY.frozen 6
                  have B6 := hBY.set 6 (.slice Ar r.length cr)
                  have hneJ : (Value.slice Ar r.length cr).ownBlock ≠ some w3.heap.size := fun e => by have h1 := (World.ownsRow.lt hrow _ e).1; have h2 := HBJ.out.lt; omega
                  have hk0 : Keep (fun k => k = w3.heap.size) wy (wy.setCell ⟨w3.heap.size, 6, none⟩ (.slice Ar r.length cr)) := (Keep.refl (fun k => k = w3.heap.size) wy).setCell (p := ⟨w3.heap.size, 6, none⟩) (fun _ => rfl) _
                  obtain ⟨ws, ews⟩ : ∃ ws, ws = wy.setCell ⟨w3.heap.size, 6, none⟩ (.slice Ar r.length cr) := ⟨_, rfl⟩
                  rw [← ews] at B6 hk0
                  have hrowS : RowT ws wj.heap.size (.slice Ar r.length cr) r := hrow.keep fun k e => hk0.block k (World.ownsRow.lt hrow k e).2 (fun e' => hneJ (by rw [← e']; exact e))
                  have hBY2 : Below w.heap.size w wy := HBW.out.trans (hBz.1.mono HBW.out.size)
                  have hBS : Below w.heap.size w ws := hBY2.trans (hk0.below (fun k e => by rw [e]; exact HB3.out.size) hBY2.size)
                  have HJS : Hid (RJAt ws w3.heap.size b bs cp pv (.slice Ar r.length cr) k ⟨d, (N, H, L), AT, r, false⟩) :=
                    ⟨h4, HD.out.below hBS, B6, row_base hrowS (Nat.zero_le _), (fun e => by have h1 := (World.ownsRow.lt hrow _ e).1; have h2 := HD.out.lt (k := bs) (.inr (.inl rfl)); have h3 := HBW.out.size; omega), hN, hH, by rw [← EQ.out]; exact hL, hAT⟩
                  have HBS := Lib.hid hBS
                  have HRS := Lib.hid hrowS
                  obtain ⟨i0, hi, hz0, hz1, hz2⟩ := info_parts infoStr
                  have HM : Hid ((ws.alloc (.cells #[] 9)).ownsRow ws.heap.size 9 1 (.slice (some ⟨ws.heap.size, 0, none⟩) 0 0) 0 []) := World.ownsRow_made ws #[] 0 (Nat.le_refl _) (by decide) rfl
                  have hlm : (r.map tx).length = r.length := by simp
                  obtain ⟨LL, eLL⟩ : ∃ LL, LL = r.map tx := ⟨_, rfl⟩
                  have HSL : Hid (SL (ws.alloc (.cells #[] 9)) 1 encS Ar LL) := by rw [eLL]; exact (row_sl hrowS).2.1.below ((Below.refl _ ws).alloc (Nat.le_refl _) _) (Nat.le_refl _)
                  rw [← eLL] at hlm
                  rw [← hlm]
                  rw [← hlm] at ews
                  have hL6 : LL.length ≤ 1000000 := by omega
                  have HI := Lib.hid hi
                  have HZ0 := Lib.hid hz0
                  have HZ1 := Lib.hid hz1
                  have HZ2 := Lib.hid hz2
                  have ELL := Lib.hid eLL
                  have HLM := Lib.hid hlm
                  have EWS := Lib.hid ews
                  have hwjs : w.heap.size ≤ wj.heap.size := HBW.out.size
                  have HWJ : Hid (wj.heap.size ≤ ws.heap.size) := Nat.le_trans hBz.1.size hk0.size
                  clear hrow hslr hBY B6 hneJ hk0 hrowS hBY2 hBS hi hz0 hz1 hz2 eLL hlm ews hBz hh er
                  go_wp2_with (first | rw [← EWS.out] | (at_builtin; refine wpList_append_list (ec := encS) rfl (.tmp 136) (.tmp 137) 30 rfl ws.heap.size 9 i0 _ 16 Tryz.underlying30 HI.out HZ0.out HZ1.out HZ2.out rfl (by decide) encSlen encSone _ 0 [] rfl HM.out Ar cr LL rfl HSL.out (by have : maxLen = 9223372036854775807 := rfl; omega) (by omega) (by simp) ?_))
                  intro v8 w8 hown8 hgr8 _
                  have hb8 : Below ws.heap.size ws w8 := ((Below.refl _ ws).alloc (Nat.le_refl _) (.cells #[] 9)).grown hgr8 (by simp) (fun j e => (HM.out.lt j e).1)
                  have hr8 : RowT w8 ws.heap.size v8 r := by
                    unfold RowT
                    rw [← ELL.out, ← HLM.out]
                    have e0 : 0 + LL.length = LL.length := Nat.zero_add _
                    first
                      | exact hown8
                      | (rw [e0] at hown8; exact hown8)
                      | simpa using hown8
                  obtain ⟨A8, m8, c8, rfl⟩ := row_is hr8
                  obtain ⟨em8, _, _⟩ := row_sl hr8
                  subst em8
                  have G : Hid (R (.returned (.tuple #[.pointer (some ⟨w3.heap.size, 0, none⟩), .slice A8 r.length c8, .int .i64 0])) w8) := by
                    rw [ER.out]
                    refine ⟨HBS.out.trans (hb8.mono HBS.out.size), .inr ⟨(N, H, L), AT, r, w3.heap.size, .slice Ar r.length cr, A8, c8, OD.out, rfl, HJS.out.below hb8, HB3.out.size, fun k e => ?_, row_base hr8 HBS.out.size, fun k e hf => ?_⟩⟩
                    · have h1 := (World.ownsRow.lt HRS.out k e).1
                      omega
                    · have h1 := (World.ownsRow.lt hr8 k e).1
                      have h2 := HJS.out.lt hf
                      omega
                  clear hown8 hgr8 hb8 hr8
                  go_wp2_with fail
                  first
                    | exact G.out
                    | exact bodyPost_ret (v := .tuple #[.pointer (some ⟨w3.heap.size, 0, none⟩), .slice A8 r.length c8, .int .i64 0]) (by simp [results, Tryz.results9, go_sem]) rfl G.out
              · have hle2 : ¬ (a1 : Int) ≤ (a0 : Int) := by omega
                have PVX : Hid (presV (sec (eff d) 0) (sec (eff d) 1) (32 * q) = some ((a1, b1, c1), 1)) := by
                  show _ = _
                  unfold presV
                  rw [p0, p1]
                  simp only
                  rw [if_neg hle]
                clear p0 p1
                go_wp2_with fail
                clear K0 K1
                obtain ⟨N, eN⟩ : ∃ N : Nat, N = a1 := ⟨_, rfl⟩
                obtain ⟨H, eH⟩ : ∃ H : Nat, H = b1 := ⟨_, rfl⟩
                obtain ⟨L, eL⟩ : ∃ L : Nat, L = c1 := ⟨_, rfl⟩
                obtain ⟨AT, eAT⟩ : ∃ AT : Nat, AT = 1 := ⟨_, rfl⟩
                obtain ⟨wj, ewj⟩ : ∃ wj, wj = (w3.alloc (.cells #[.pointer (some ⟨b, 0, none⟩), .int .i64 (k : Int), .int .i64 1, .int .i64 (a1 : Int), .int .i64 (b1 : Int), .int .i64 (c1 : Int), .slice none 0 0, .bool false] 73)) := ⟨_, rfl⟩
                have HBJ : Hid (Blk wj w3.heap.size (cellsK (N, H, L) AT k b (.slice none 0 0) false) 73) := by rw [ewj, eN, eH, eL, eAT]; exact (Blk.new w3 _ _)
                have HBW : Hid (Below w.heap.size w wj) := by rw [ewj]; exact (HB3.out.alloc HB3.out.size _)
                have PV : Hid (presV (sec (eff d) 0) (sec (eff d) 1) (32 * q) = some ((N, H, L), AT)) := by rw [eN, eH, eL, eAT]; exact PVX.out
                rw [← ewj]
                clear eN eH eL eAT ewj
                obtain ⟨hH, hL⟩ := pres_range PV.out
                have hH : H ≤ 1 := hH
                have hL : L ≤ 32 * q := hL
                have hAT : AT ≤ 1 := (pres_at PV.out).elim (fun h => by omega) (fun h => by omega)
                have hN : N ≤ 999999999 := pres_num PV.out
                obtain ⟨M, eM⟩ : ∃ M, M = (L + 31) / 32 := ⟨_, rfl⟩
                have hM : M ≤ q := by omega
                have CO := Lib.hid (fun (w' : World) (hb : Below wj.heap.size wj w') => by
                  have := rcontent_any (HD.out.below (HBW.out.trans (hb.mono HBW.out.size))) HON.out h4 H 0 M hH (by rw [← EQ.out]; omega)
                  rw [← EQ.out, Nat.add_zero, Nat.zero_add] at this
                  exact (this : Calls Tryz.prog 41 #[.pointer (some ⟨b, 0, none⟩), .int .i64 (k : Int), .int .i64 (H : Int), .int .i64 0, .int .i64 (M : Int)] w' _).mono fun e w2 h => (⟨h.1, by rw [← h.2]; exact Below.refl _ _⟩ : e = .returned (.string (tx (((eff d).drop (32 * (2 + H * q))).take (32 * M)))) ∧ Below w'.heap.size w' w2))
                have hHq : H * q ≤ q := by
                  have : H = 0 ∨ H = 1 := by omega
                  rcases this with e | e <;> rw [e] <;> simp
                have hTl : (((eff d).drop (32 * (2 + H * q))).take (32 * M)).length = 32 * M := by rw [List.length_take, List.length_drop, EL.out]; have := HQ.out; omega
                obtain ⟨T, eT⟩ : ∃ T, T = tx (((eff d).drop (32 * (2 + H * q))).take (32 * M)) := ⟨_, rfl⟩
                have hTs : T.size = 32 * M := by rw [eT, tx_size]; exact hTl
                have hcut : (T.extract 0 L).data.toList = half (eff d) q H L := by
                  rw [ext_list, eT]
                  unfold half
                  have : (tx (((eff d).drop (32 * (2 + H * q))).take (32 * M))).data.toList = ((eff d).drop (32 * (2 + H * q))).take (32 * M) := by simp [tx]
                  rw [this, List.drop_zero, Nat.sub_zero, List.take_take, Nat.min_eq_left (by omega)]
                have hUs : (T.extract 0 L).size ≤ 64000 := by rw [ByteArray.size_extract]; omega
                have hLM : (L : Int) ≤ (T.size : Int) := by omega
                have hLM2 : (L : Int) ≤ 32 * (M : Int) := by omega
                have L0 : (0 : Int) ≤ (L : Int) := by omega
                rw [← eT] at CO
                have u1 : IntKind.i64.wrap ((L : Int) + 31) = (L : Int) + 31 := by rw [IntWalk.i64_left, IntWalk.wrap64_in _ ⟨by omega, by omega⟩]
                have u2 : Int.tdiv ((L : Int) + 31) 32 = (M : Int) := by rw [Int.tdiv_eq_ediv_of_nonneg (by omega)]; omega
                have u3 : IntKind.i64.wrap (M : Int) = (M : Int) := by rw [IntWalk.i64_left, IntWalk.wrap64_in _ ⟨by omega, by omega⟩]
                have RC := Lib.hid (fun w' => rrecords_any (T.extract 0 L) w' (by omega))
                rw [hcut] at RC
                have c4 := HBJ.out.cellD 4 _ rfl
                have c5 := HBJ.out.cellD 5 _ rfl
                have HTS := Lib.hid hTs
                clear hTl eT hcut eM
                cases hsp : splitL (half (eff d) q H L) with
                | none =>
                  have OD : Hid (openD k d = (20, none)) := by
                    show _ = _
                    unfold openD
                    rw [if_neg (by rw [HON.out]; decide), if_neg (by omega), ← EQ.out, PV.out]
                    simp only
                    rw [hsp]
                  rw [hsp] at RC
                  have RCN : Hid (∀ w', Calls Tryz.prog 40 #[.string (T.extract 0 L)] w' fun e w2 => e = .returned (.tuple #[.slice none 0 0, .bool false]) ∧ Below w'.heap.size w' w2) := fun w' => (RC.out w').mono fun e w2 h => by
                    obtain ⟨h1, ⟨_, h2⟩ | ⟨p, v, h2, _⟩⟩ := h
                    · exact ⟨h2, h1⟩
                    · cases h2
                  clear hsp RC hTs
                  go_wp2_with fail
                  refine Free.wp_region_free 18 [(8, .det (.string T)), (12, .det (.tuple #[.slice none 0 0, .bool false]))] (fun y => Below wj.heap.size wj y ∧ y.cell? ⟨w3.heap.size, 4, none⟩ = some (.int .i64 (H : Int)) ∧ y.cell? ⟨w3.heap.size, 5, none⟩ = some (.int .i64 (L : Int))) (by kernel_rfl) (by kernel_rfl) (Free.mono_det (fun j mk r hf => by simp only [Free.find] at hf; repeat' (first | cases hf | split at hf))) ⟨(Below.refl _ _).drew, c4, c5⟩ (fun _ _ h g => ⟨h.1.trans (Below.mono g h.1.size), cell_grow' h.2.1 g, cell_grow' h.2.2 g⟩) ?_
                  simp only [List.take_succ_cons, List.take_zero]
                  clear c4 c5
                  iterate 8 (apply Free.chain_still (by first | exact Free.wanted_of rfl rfl rfl | rfl) rfl; (intro w' hB hA; obtain ⟨qB, q4, q5⟩ := hB; clear hA  qB; go_light; go_simp <;> rfl); (try simp only [Act.put, List.setIfInBounds_toArray, List.set_cons_succ, List.set_cons_zero]))
                  apply Free.chain_det (by first | exact Free.wanted_of rfl rfl rfl | rfl) rfl
                  · intro w' hB hA
                    refine Free.opRun_call (f := 41) (args := #[.pointer (some ⟨b, 0, none⟩), .int .i64 (k : Int), .int .i64 (H : Int), .int .i64 0, .int .i64 (M : Int)]) (by clear hB hA; go_simp <;> rfl) ?_
                    refine (CO.out w' hB.1).mono ?_
                    rintro e w3 ⟨rfl, hb3⟩
                    exact ⟨_, rfl, hb3, rfl⟩
                  simp only [Act.put, List.setIfInBounds_toArray, List.set_cons_succ, List.set_cons_zero]
                  iterate 3 (apply Free.chain_still (by first | exact Free.wanted_of rfl rfl rfl | rfl) rfl; (intro w' hB hA; obtain ⟨qB, q4, q5⟩ := hB; clear hA  qB; go_light; go_simp <;> rfl); (try simp only [Act.put, List.setIfInBounds_toArray, List.set_cons_succ, List.set_cons_zero]))
                  apply Free.chain_det (by first | exact Free.wanted_of rfl rfl rfl | rfl) rfl
                  · intro w' hB hA
                    refine Free.opRun_call (f := 40) (args := #[.string (T.extract 0 L)]) (by clear hB hA; go_simp <;> rfl) ?_
                    refine (RCN.out w').mono ?_
                    rintro e w3 ⟨rfl, hb3⟩
                    exact ⟨_, rfl, hb3, rfl⟩
                  simp only [Act.put, List.setIfInBounds_toArray, List.set_cons_succ, List.set_cons_zero]
                  iterate 5 (apply Free.chain_still (by first | exact Free.wanted_of rfl rfl rfl | rfl) rfl; (intro w' hB hA; obtain ⟨qB, q4, q5⟩ := hB; clear hA  qB; go_light; go_simp <;> rfl); (try simp only [Act.put, List.setIfInBounds_toArray, List.set_cons_succ, List.set_cons_zero]))
                  apply Free.chain_nil
                  intro wy hBz _ _
                  simp only [List.drop_succ_cons, List.drop_zero]
                  have G := Lib.hid (FB.out 20 wy OD.out (HBW.out.trans (hBz.1.mono HBW.out.size)))
                  clear hBz
                  go_wp2_with fail
                  first
                    | exact G.out
                    | exact bodyPost_ret (v := .tuple #[.pointer none, .slice none 0 0, .int .i64 20]) (by simp [results, Tryz.results9, go_sem]) rfl G.out
                | some r =>
                  have OD : Hid (openD k d = (0, some ((N, H, L), AT, r))) := by
                    show _ = _
                    unfold openD
                    rw [if_neg (by rw [HON.out]; decide), if_neg (by omega), ← EQ.out, PV.out]
                    simp only
                    rw [hsp]
                  have hfew : r.length ≤ 1000000 := by
                    have hf := (found_open OD.out).2.2.2
                    have h1 := (found_len EL.out hf).1
                    have h3 := roomL_ge r
                    have h1 : L = roomL r := h1
                    omega
                  rw [hsp] at RC
                  have RCS : Hid (∀ w', Calls Tryz.prog 40 #[.string (T.extract 0 L)] w' fun e w2 => ∃ z, e = .returned (.tuple #[mkS r.length z, .bool true]) ∧ RowT w2 w'.heap.size (mkS r.length z) r ∧ Below w'.heap.size w' w2) := fun w' => (RC.out w').mono fun e w2 h => by
                    obtain ⟨h1, ⟨h2, _⟩ | ⟨p, v, h2, h3, h4⟩⟩ := h
                    · cases h2
                    · have h2 : r = bys p := by injection h2
                      have hr : RowT w2 w'.heap.size v r := by
                        unfold RowT
                        have e1 : (bys p).map tx = p := by
                          unfold bys
                          rw [List.map_map]
                          exact (List.map_congr_left (fun x _ => tx_of x)).trans (List.map_id p)
                        have e2 : (bys p).length = p.length := by unfold bys; simp
                        rw [h2, e1, e2]; exact h4
                      obtain ⟨z, hz⟩ := mkS_of hr
                      rw [hz] at hr h3
                      exact ⟨z, h3, hr, h1⟩
                  clear hsp RC hTs
                  go_wp2_with fail
                  refine Free.wp_region_free 18 [(8, .det (.string T)), (12, .ind (fun z => .tuple #[mkS r.length z, .bool true]) (fun z w2 => RowT w2 wj.heap.size (mkS r.length z) r))] (fun y => Below wj.heap.size wj y ∧ y.cell? ⟨w3.heap.size, 4, none⟩ = some (.int .i64 (H : Int)) ∧ y.cell? ⟨w3.heap.size, 5, none⟩ = some (.int .i64 (L : Int))) (by kernel_rfl) (by kernel_rfl) ?_ ⟨(Below.refl _ _).drew, c4, c5⟩ (fun _ _ h g => ⟨h.1.trans (Below.mono g h.1.size), cell_grow' h.2.1 g, cell_grow' h.2.2 g⟩) ?_
                  · intro j mk rr hf y w1 w2 hr gr
                    simp only [Free.find] at hf
                    split at hf
                    · cases hf
                    · split at hf
                      · cases hf; exact rowB hr gr
                      · cases hf
                  simp only [List.take_succ_cons, List.take_zero]
                  clear c4 c5
                  iterate 8 (apply Free.chain_still (by first | exact Free.wanted_of rfl rfl rfl | rfl) rfl; (intro w' hB hA; obtain ⟨qB, q4, q5⟩ := hB; clear hA  qB; go_light; go_simp <;> rfl); (try simp only [Act.put, List.setIfInBounds_toArray, List.set_cons_succ, List.set_cons_zero]))
                  apply Free.chain_det (by first | exact Free.wanted_of rfl rfl rfl | rfl) rfl
                  · intro w' hB hA
                    refine Free.opRun_call (f := 41) (args := #[.pointer (some ⟨b, 0, none⟩), .int .i64 (k : Int), .int .i64 (H : Int), .int .i64 0, .int .i64 (M : Int)]) (by clear hB hA; go_simp <;> rfl) ?_
                    refine (CO.out w' hB.1).mono ?_
                    rintro e w3 ⟨rfl, hb3⟩
                    exact ⟨_, rfl, hb3, rfl⟩
                  simp only [Act.put, List.setIfInBounds_toArray, List.set_cons_succ, List.set_cons_zero]
                  iterate 3 (apply Free.chain_still (by first | exact Free.wanted_of rfl rfl rfl | rfl) rfl; (intro w' hB hA; obtain ⟨qB, q4, q5⟩ := hB; clear hA  qB; go_light; go_simp <;> rfl); (try simp only [Act.put, List.setIfInBounds_toArray, List.set_cons_succ, List.set_cons_zero]))
                  apply Free.chain_ind (by first | exact Free.wanted_of rfl rfl rfl | rfl) rfl
                  · intro w' hB hA
                    refine Free.opRun_call (f := 40) (args := #[.string (T.extract 0 L)]) (by clear hB hA; go_simp <;> rfl) ?_
                    refine (RCS.out w').mono ?_
                    rintro e w3 ⟨z, rfl, hrow, hb3⟩
                    exact ⟨_, rfl, hb3, z, rfl, row_base hrow hB.1.size⟩
                  intro z
                  simp only [Act.put, List.setIfInBounds_toArray, List.set_cons_succ, List.set_cons_zero]
                  iterate 5 (apply Free.chain_still (by first | exact Free.wanted_of rfl rfl rfl | rfl) rfl; (intro w' hB hA; obtain ⟨qB, q4, q5⟩ := hB; clear hA  qB; go_light; go_simp <;> rfl); (try simp only [Act.put, List.setIfInBounds_toArray, List.set_cons_succ, List.set_cons_zero]))
                  apply Free.chain_nil
                  intro wy hBz _ hh
                  have hrow : RowT wy wj.heap.size (mkS r.length z) r := hh _ List.mem_cons_self
                  simp only [List.drop_succ_cons, List.drop_zero]
                  obtain ⟨Ar, mr, cr, er⟩ := row_is hrow
                  rw [er] at hrow ⊢
                  obtain ⟨emr, hslr, _⟩ := row_sl hrow
                  subst emr
                  have hBY := HBJ.out.below hBz.1 HBJ.out.lt
                  have c6 := hBY.cellD 6 _ rfl
                  have f6 := hBY.frozen 6
                  have B6 := hBY.set 6 (.slice Ar r.length cr)
                  have hneJ : (Value.slice Ar r.length cr).ownBlock ≠ some w3.heap.size := fun e => by have h1 := (World.ownsRow.lt hrow _ e).1; have h2 := HBJ.out.lt; omega
                  have hk0 : Keep (fun k => k = w3.heap.size) wy (wy.setCell ⟨w3.heap.size, 6, none⟩ (.slice Ar r.length cr)) := (Keep.refl (fun k => k = w3.heap.size) wy).setCell (p := ⟨w3.heap.size, 6, none⟩) (fun _ => rfl) _
                  obtain ⟨ws, ews⟩ : ∃ ws, ws = wy.setCell ⟨w3.heap.size, 6, none⟩ (.slice Ar r.length cr) := ⟨_, rfl⟩
                  rw [← ews] at B6 hk0
                  have hrowS : RowT ws wj.heap.size (.slice Ar r.length cr) r := hrow.keep fun k e => hk0.block k (World.ownsRow.lt hrow k e).2 (fun e' => hneJ (by rw [← e']; exact e))
                  have hBY2 : Below w.heap.size w wy := HBW.out.trans (hBz.1.mono HBW.out.size)
                  have hBS : Below w.heap.size w ws := hBY2.trans (hk0.below (fun k e => by rw [e]; exact HB3.out.size) hBY2.size)
                  have HJS : Hid (RJAt ws w3.heap.size b bs cp pv (.slice Ar r.length cr) k ⟨d, (N, H, L), AT, r, false⟩) :=
                    ⟨h4, HD.out.below hBS, B6, row_base hrowS (Nat.zero_le _), (fun e => by have h1 := (World.ownsRow.lt hrow _ e).1; have h2 := HD.out.lt (k := bs) (.inr (.inl rfl)); have h3 := HBW.out.size; omega), hN, hH, by rw [← EQ.out]; exact hL, hAT⟩
                  have HBS := Lib.hid hBS
                  have HRS := Lib.hid hrowS
                  obtain ⟨i0, hi, hz0, hz1, hz2⟩ := info_parts infoStr
                  have HM : Hid ((ws.alloc (.cells #[] 9)).ownsRow ws.heap.size 9 1 (.slice (some ⟨ws.heap.size, 0, none⟩) 0 0) 0 []) := World.ownsRow_made ws #[] 0 (Nat.le_refl _) (by decide) rfl
                  have hlm : (r.map tx).length = r.length := by simp
                  obtain ⟨LL, eLL⟩ : ∃ LL, LL = r.map tx := ⟨_, rfl⟩
                  have HSL : Hid (SL (ws.alloc (.cells #[] 9)) 1 encS Ar LL) := by rw [eLL]; exact (row_sl hrowS).2.1.below ((Below.refl _ ws).alloc (Nat.le_refl _) _) (Nat.le_refl _)
                  rw [← eLL] at hlm
                  rw [← hlm]
                  rw [← hlm] at ews
                  have hL6 : LL.length ≤ 1000000 := by omega
                  have HI := Lib.hid hi
                  have HZ0 := Lib.hid hz0
                  have HZ1 := Lib.hid hz1
                  have HZ2 := Lib.hid hz2
                  have ELL := Lib.hid eLL
                  have HLM := Lib.hid hlm
                  have EWS := Lib.hid ews
                  have hwjs : w.heap.size ≤ wj.heap.size := HBW.out.size
                  have HWJ : Hid (wj.heap.size ≤ ws.heap.size) := Nat.le_trans hBz.1.size hk0.size
                  clear hrow hslr hBY B6 hneJ hk0 hrowS hBY2 hBS hi hz0 hz1 hz2 eLL hlm ews hBz hh er
                  go_wp2_with (first | rw [← EWS.out] | (at_builtin; refine wpList_append_list (ec := encS) rfl (.tmp 136) (.tmp 137) 30 rfl ws.heap.size 9 i0 _ 16 Tryz.underlying30 HI.out HZ0.out HZ1.out HZ2.out rfl (by decide) encSlen encSone _ 0 [] rfl HM.out Ar cr LL rfl HSL.out (by have : maxLen = 9223372036854775807 := rfl; omega) (by omega) (by simp) ?_))
                  intro v8 w8 hown8 hgr8 _
                  have hb8 : Below ws.heap.size ws w8 := ((Below.refl _ ws).alloc (Nat.le_refl _) (.cells #[] 9)).grown hgr8 (by simp) (fun j e => (HM.out.lt j e).1)
                  have hr8 : RowT w8 ws.heap.size v8 r := by
                    unfold RowT
                    rw [← ELL.out, ← HLM.out]
                    have e0 : 0 + LL.length = LL.length := Nat.zero_add _
                    first
                      | exact hown8
                      | (rw [e0] at hown8; exact hown8)
                      | simpa using hown8
                  obtain ⟨A8, m8, c8, rfl⟩ := row_is hr8
                  obtain ⟨em8, _, _⟩ := row_sl hr8
                  subst em8
                  have G : Hid (R (.returned (.tuple #[.pointer (some ⟨w3.heap.size, 0, none⟩), .slice A8 r.length c8, .int .i64 0])) w8) := by
                    rw [ER.out]
                    refine ⟨HBS.out.trans (hb8.mono HBS.out.size), .inr ⟨(N, H, L), AT, r, w3.heap.size, .slice Ar r.length cr, A8, c8, OD.out, rfl, HJS.out.below hb8, HB3.out.size, fun k e => ?_, row_base hr8 HBS.out.size, fun k e hf => ?_⟩⟩
                    · have h1 := (World.ownsRow.lt HRS.out k e).1
                      omega
                    · have h1 := (World.ownsRow.lt hr8 k e).1
                      have h2 := HJS.out.lt hf
                      omega
                  clear hown8 hgr8 hb8 hr8
                  go_wp2_with fail
                  first
                    | exact G.out
                    | exact bodyPost_ret (v := .tuple #[.pointer (some ⟨w3.heap.size, 0, none⟩), .slice A8 r.length c8, .int .i64 0]) (by simp [results, Tryz.results9, go_sem]) rfl G.out
            | false =>
              have p1 : parseV (sec (eff d) 1) (32 * q) = none := HV1.out.elim (fun h => by cases h.1) (fun h => h.2)
              have PVX : Hid (presV (sec (eff d) 0) (sec (eff d) 1) (32 * q) = some ((a0, b0, c0), 0)) := by
                show _ = _
                unfold presV
                rw [p0, p1]
              clear p0 p1
              go_wp2_with fail
              clear K0 K1
              obtain ⟨N, eN⟩ : ∃ N : Nat, N = a0 := ⟨_, rfl⟩
              obtain ⟨H, eH⟩ : ∃ H : Nat, H = b0 := ⟨_, rfl⟩
              obtain ⟨L, eL⟩ : ∃ L : Nat, L = c0 := ⟨_, rfl⟩
              obtain ⟨AT, eAT⟩ : ∃ AT : Nat, AT = 0 := ⟨_, rfl⟩
              obtain ⟨wj, ewj⟩ : ∃ wj, wj = (w3.alloc (.cells #[.pointer (some ⟨b, 0, none⟩), .int .i64 (k : Int), .int .i64 0, .int .i64 (a0 : Int), .int .i64 (b0 : Int), .int .i64 (c0 : Int), .slice none 0 0, .bool false] 73)) := ⟨_, rfl⟩
              have HBJ : Hid (Blk wj w3.heap.size (cellsK (N, H, L) AT k b (.slice none 0 0) false) 73) := by rw [ewj, eN, eH, eL, eAT]; exact (Blk.new w3 _ _)
              have HBW : Hid (Below w.heap.size w wj) := by rw [ewj]; exact (HB3.out.alloc HB3.out.size _)
              have PV : Hid (presV (sec (eff d) 0) (sec (eff d) 1) (32 * q) = some ((N, H, L), AT)) := by rw [eN, eH, eL, eAT]; exact PVX.out
              rw [← ewj]
              clear eN eH eL eAT ewj
              obtain ⟨hH, hL⟩ := pres_range PV.out
              have hH : H ≤ 1 := hH
              have hL : L ≤ 32 * q := hL
              have hAT : AT ≤ 1 := (pres_at PV.out).elim (fun h => by omega) (fun h => by omega)
              have hN : N ≤ 999999999 := pres_num PV.out
              obtain ⟨M, eM⟩ : ∃ M, M = (L + 31) / 32 := ⟨_, rfl⟩
              have hM : M ≤ q := by omega
              have CO := Lib.hid (fun (w' : World) (hb : Below wj.heap.size wj w') => by
                have := rcontent_any (HD.out.below (HBW.out.trans (hb.mono HBW.out.size))) HON.out h4 H 0 M hH (by rw [← EQ.out]; omega)
                rw [← EQ.out, Nat.add_zero, Nat.zero_add] at this
                exact (this : Calls Tryz.prog 41 #[.pointer (some ⟨b, 0, none⟩), .int .i64 (k : Int), .int .i64 (H : Int), .int .i64 0, .int .i64 (M : Int)] w' _).mono fun e w2 h => (⟨h.1, by rw [← h.2]; exact Below.refl _ _⟩ : e = .returned (.string (tx (((eff d).drop (32 * (2 + H * q))).take (32 * M)))) ∧ Below w'.heap.size w' w2))
              have hHq : H * q ≤ q := by
                have : H = 0 ∨ H = 1 := by omega
                rcases this with e | e <;> rw [e] <;> simp
              have hTl : (((eff d).drop (32 * (2 + H * q))).take (32 * M)).length = 32 * M := by rw [List.length_take, List.length_drop, EL.out]; have := HQ.out; omega
              obtain ⟨T, eT⟩ : ∃ T, T = tx (((eff d).drop (32 * (2 + H * q))).take (32 * M)) := ⟨_, rfl⟩
              have hTs : T.size = 32 * M := by rw [eT, tx_size]; exact hTl
              have hcut : (T.extract 0 L).data.toList = half (eff d) q H L := by
                rw [ext_list, eT]
                unfold half
                have : (tx (((eff d).drop (32 * (2 + H * q))).take (32 * M))).data.toList = ((eff d).drop (32 * (2 + H * q))).take (32 * M) := by simp [tx]
                rw [this, List.drop_zero, Nat.sub_zero, List.take_take, Nat.min_eq_left (by omega)]
              have hUs : (T.extract 0 L).size ≤ 64000 := by rw [ByteArray.size_extract]; omega
              have hLM : (L : Int) ≤ (T.size : Int) := by omega
              have hLM2 : (L : Int) ≤ 32 * (M : Int) := by omega
              have L0 : (0 : Int) ≤ (L : Int) := by omega
              rw [← eT] at CO
              have u1 : IntKind.i64.wrap ((L : Int) + 31) = (L : Int) + 31 := by rw [IntWalk.i64_left, IntWalk.wrap64_in _ ⟨by omega, by omega⟩]
              have u2 : Int.tdiv ((L : Int) + 31) 32 = (M : Int) := by rw [Int.tdiv_eq_ediv_of_nonneg (by omega)]; omega
              have u3 : IntKind.i64.wrap (M : Int) = (M : Int) := by rw [IntWalk.i64_left, IntWalk.wrap64_in _ ⟨by omega, by omega⟩]
              have RC := Lib.hid (fun w' => rrecords_any (T.extract 0 L) w' (by omega))
              rw [hcut] at RC
              have c4 := HBJ.out.cellD 4 _ rfl
              have c5 := HBJ.out.cellD 5 _ rfl
              have HTS := Lib.hid hTs
              clear hTl eT hcut eM
              cases hsp : splitL (half (eff d) q H L) with
              | none =>
                have OD : Hid (openD k d = (20, none)) := by
                  show _ = _
                  unfold openD
                  rw [if_neg (by rw [HON.out]; decide), if_neg (by omega), ← EQ.out, PV.out]
                  simp only
                  rw [hsp]
                rw [hsp] at RC
                have RCN : Hid (∀ w', Calls Tryz.prog 40 #[.string (T.extract 0 L)] w' fun e w2 => e = .returned (.tuple #[.slice none 0 0, .bool false]) ∧ Below w'.heap.size w' w2) := fun w' => (RC.out w').mono fun e w2 h => by
                  obtain ⟨h1, ⟨_, h2⟩ | ⟨p, v, h2, _⟩⟩ := h
                  · exact ⟨h2, h1⟩
                  · cases h2
                clear hsp RC hTs
                go_wp2_with fail
                refine Free.wp_region_free 18 [(8, .det (.string T)), (12, .det (.tuple #[.slice none 0 0, .bool false]))] (fun y => Below wj.heap.size wj y ∧ y.cell? ⟨w3.heap.size, 4, none⟩ = some (.int .i64 (H : Int)) ∧ y.cell? ⟨w3.heap.size, 5, none⟩ = some (.int .i64 (L : Int))) (by kernel_rfl) (by kernel_rfl) (Free.mono_det (fun j mk r hf => by simp only [Free.find] at hf; repeat' (first | cases hf | split at hf))) ⟨(Below.refl _ _).drew, c4, c5⟩ (fun _ _ h g => ⟨h.1.trans (Below.mono g h.1.size), cell_grow' h.2.1 g, cell_grow' h.2.2 g⟩) ?_
                simp only [List.take_succ_cons, List.take_zero]
                clear c4 c5
                iterate 8 (apply Free.chain_still (by first | exact Free.wanted_of rfl rfl rfl | rfl) rfl; (intro w' hB hA; obtain ⟨qB, q4, q5⟩ := hB; clear hA  qB; go_light; go_simp <;> rfl); (try simp only [Act.put, List.setIfInBounds_toArray, List.set_cons_succ, List.set_cons_zero]))
                apply Free.chain_det (by first | exact Free.wanted_of rfl rfl rfl | rfl) rfl
                · intro w' hB hA
                  refine Free.opRun_call (f := 41) (args := #[.pointer (some ⟨b, 0, none⟩), .int .i64 (k : Int), .int .i64 (H : Int), .int .i64 0, .int .i64 (M : Int)]) (by clear hB hA; go_simp <;> rfl) ?_
                  refine (CO.out w' hB.1).mono ?_
                  rintro e w3 ⟨rfl, hb3⟩
                  exact ⟨_, rfl, hb3, rfl⟩
                simp only [Act.put, List.setIfInBounds_toArray, List.set_cons_succ, List.set_cons_zero]
                iterate 3 (apply Free.chain_still (by first | exact Free.wanted_of rfl rfl rfl | rfl) rfl; (intro w' hB hA; obtain ⟨qB, q4, q5⟩ := hB; clear hA  qB; go_light; go_simp <;> rfl); (try simp only [Act.put, List.setIfInBounds_toArray, List.set_cons_succ, List.set_cons_zero]))
                apply Free.chain_det (by first | exact Free.wanted_of rfl rfl rfl | rfl) rfl
                · intro w' hB hA
                  refine Free.opRun_call (f := 40) (args := #[.string (T.extract 0 L)]) (by clear hB hA; go_simp <;> rfl) ?_
                  refine (RCN.out w').mono ?_
                  rintro e w3 ⟨rfl, hb3⟩
                  exact ⟨_, rfl, hb3, rfl⟩
                simp only [Act.put, List.setIfInBounds_toArray, List.set_cons_succ, List.set_cons_zero]
                iterate 5 (apply Free.chain_still (by first | exact Free.wanted_of rfl rfl rfl | rfl) rfl; (intro w' hB hA; obtain ⟨qB, q4, q5⟩ := hB; clear hA  qB; go_light; go_simp <;> rfl); (try simp only [Act.put, List.setIfInBounds_toArray, List.set_cons_succ, List.set_cons_zero]))
                apply Free.chain_nil
                intro wy hBz _ _
                simp only [List.drop_succ_cons, List.drop_zero]
                have G := Lib.hid (FB.out 20 wy OD.out (HBW.out.trans (hBz.1.mono HBW.out.size)))
                clear hBz
                go_wp2_with fail
                first
                  | exact G.out
                  | exact bodyPost_ret (v := .tuple #[.pointer none, .slice none 0 0, .int .i64 20]) (by simp [results, Tryz.results9, go_sem]) rfl G.out
              | some r =>
                have OD : Hid (openD k d = (0, some ((N, H, L), AT, r))) := by
                  show _ = _
                  unfold openD
                  rw [if_neg (by rw [HON.out]; decide), if_neg (by omega), ← EQ.out, PV.out]
                  simp only
                  rw [hsp]
                have hfew : r.length ≤ 1000000 := by
                  have hf := (found_open OD.out).2.2.2
                  have h1 := (found_len EL.out hf).1
                  have h3 := roomL_ge r
                  have h1 : L = roomL r := h1
                  omega
                rw [hsp] at RC
                have RCS : Hid (∀ w', Calls Tryz.prog 40 #[.string (T.extract 0 L)] w' fun e w2 => ∃ z, e = .returned (.tuple #[mkS r.length z, .bool true]) ∧ RowT w2 w'.heap.size (mkS r.length z) r ∧ Below w'.heap.size w' w2) := fun w' => (RC.out w').mono fun e w2 h => by
                  obtain ⟨h1, ⟨h2, _⟩ | ⟨p, v, h2, h3, h4⟩⟩ := h
                  · cases h2
                  · have h2 : r = bys p := by injection h2
                    have hr : RowT w2 w'.heap.size v r := by
                      unfold RowT
                      have e1 : (bys p).map tx = p := by
                        unfold bys
                        rw [List.map_map]
                        exact (List.map_congr_left (fun x _ => tx_of x)).trans (List.map_id p)
                      have e2 : (bys p).length = p.length := by unfold bys; simp
                      rw [h2, e1, e2]; exact h4
                    obtain ⟨z, hz⟩ := mkS_of hr
                    rw [hz] at hr h3
                    exact ⟨z, h3, hr, h1⟩
                clear hsp RC hTs
                go_wp2_with fail
                refine Free.wp_region_free 18 [(8, .det (.string T)), (12, .ind (fun z => .tuple #[mkS r.length z, .bool true]) (fun z w2 => RowT w2 wj.heap.size (mkS r.length z) r))] (fun y => Below wj.heap.size wj y ∧ y.cell? ⟨w3.heap.size, 4, none⟩ = some (.int .i64 (H : Int)) ∧ y.cell? ⟨w3.heap.size, 5, none⟩ = some (.int .i64 (L : Int))) (by kernel_rfl) (by kernel_rfl) ?_ ⟨(Below.refl _ _).drew, c4, c5⟩ (fun _ _ h g => ⟨h.1.trans (Below.mono g h.1.size), cell_grow' h.2.1 g, cell_grow' h.2.2 g⟩) ?_
                · intro j mk rr hf y w1 w2 hr gr
                  simp only [Free.find] at hf
                  split at hf
                  · cases hf
                  · split at hf
                    · cases hf; exact rowB hr gr
                    · cases hf
                simp only [List.take_succ_cons, List.take_zero]
                clear c4 c5
                iterate 8 (apply Free.chain_still (by first | exact Free.wanted_of rfl rfl rfl | rfl) rfl; (intro w' hB hA; obtain ⟨qB, q4, q5⟩ := hB; clear hA  qB; go_light; go_simp <;> rfl); (try simp only [Act.put, List.setIfInBounds_toArray, List.set_cons_succ, List.set_cons_zero]))
                apply Free.chain_det (by first | exact Free.wanted_of rfl rfl rfl | rfl) rfl
                · intro w' hB hA
                  refine Free.opRun_call (f := 41) (args := #[.pointer (some ⟨b, 0, none⟩), .int .i64 (k : Int), .int .i64 (H : Int), .int .i64 0, .int .i64 (M : Int)]) (by clear hB hA; go_simp <;> rfl) ?_
                  refine (CO.out w' hB.1).mono ?_
                  rintro e w3 ⟨rfl, hb3⟩
                  exact ⟨_, rfl, hb3, rfl⟩
                simp only [Act.put, List.setIfInBounds_toArray, List.set_cons_succ, List.set_cons_zero]
                iterate 3 (apply Free.chain_still (by first | exact Free.wanted_of rfl rfl rfl | rfl) rfl; (intro w' hB hA; obtain ⟨qB, q4, q5⟩ := hB; clear hA  qB; go_light; go_simp <;> rfl); (try simp only [Act.put, List.setIfInBounds_toArray, List.set_cons_succ, List.set_cons_zero]))
                apply Free.chain_ind (by first | exact Free.wanted_of rfl rfl rfl | rfl) rfl
                · intro w' hB hA
                  refine Free.opRun_call (f := 40) (args := #[.string (T.extract 0 L)]) (by clear hB hA; go_simp <;> rfl) ?_
                  refine (RCS.out w').mono ?_
                  rintro e w3 ⟨z, rfl, hrow, hb3⟩
                  exact ⟨_, rfl, hb3, z, rfl, row_base hrow hB.1.size⟩
                intro z
                simp only [Act.put, List.setIfInBounds_toArray, List.set_cons_succ, List.set_cons_zero]
                iterate 5 (apply Free.chain_still (by first | exact Free.wanted_of rfl rfl rfl | rfl) rfl; (intro w' hB hA; obtain ⟨qB, q4, q5⟩ := hB; clear hA  qB; go_light; go_simp <;> rfl); (try simp only [Act.put, List.setIfInBounds_toArray, List.set_cons_succ, List.set_cons_zero]))
                apply Free.chain_nil
                intro wy hBz _ hh
                have hrow : RowT wy wj.heap.size (mkS r.length z) r := hh _ List.mem_cons_self
                simp only [List.drop_succ_cons, List.drop_zero]
                obtain ⟨Ar, mr, cr, er⟩ := row_is hrow
                rw [er] at hrow ⊢
                obtain ⟨emr, hslr, _⟩ := row_sl hrow
                subst emr
                have hBY := HBJ.out.below hBz.1 HBJ.out.lt
                have c6 := hBY.cellD 6 _ rfl
                have f6 := hBY.frozen 6
                have B6 := hBY.set 6 (.slice Ar r.length cr)
                have hneJ : (Value.slice Ar r.length cr).ownBlock ≠ some w3.heap.size := fun e => by have h1 := (World.ownsRow.lt hrow _ e).1; have h2 := HBJ.out.lt; omega
                have hk0 : Keep (fun k => k = w3.heap.size) wy (wy.setCell ⟨w3.heap.size, 6, none⟩ (.slice Ar r.length cr)) := (Keep.refl (fun k => k = w3.heap.size) wy).setCell (p := ⟨w3.heap.size, 6, none⟩) (fun _ => rfl) _
                obtain ⟨ws, ews⟩ : ∃ ws, ws = wy.setCell ⟨w3.heap.size, 6, none⟩ (.slice Ar r.length cr) := ⟨_, rfl⟩
                rw [← ews] at B6 hk0
                have hrowS : RowT ws wj.heap.size (.slice Ar r.length cr) r := hrow.keep fun k e => hk0.block k (World.ownsRow.lt hrow k e).2 (fun e' => hneJ (by rw [← e']; exact e))
                have hBY2 : Below w.heap.size w wy := HBW.out.trans (hBz.1.mono HBW.out.size)
                have hBS : Below w.heap.size w ws := hBY2.trans (hk0.below (fun k e => by rw [e]; exact HB3.out.size) hBY2.size)
                have HJS : Hid (RJAt ws w3.heap.size b bs cp pv (.slice Ar r.length cr) k ⟨d, (N, H, L), AT, r, false⟩) :=
                  ⟨h4, HD.out.below hBS, B6, row_base hrowS (Nat.zero_le _), (fun e => by have h1 := (World.ownsRow.lt hrow _ e).1; have h2 := HD.out.lt (k := bs) (.inr (.inl rfl)); have h3 := HBW.out.size; omega), hN, hH, by rw [← EQ.out]; exact hL, hAT⟩
                have HBS := Lib.hid hBS
                have HRS := Lib.hid hrowS
                obtain ⟨i0, hi, hz0, hz1, hz2⟩ := info_parts infoStr
                have HM : Hid ((ws.alloc (.cells #[] 9)).ownsRow ws.heap.size 9 1 (.slice (some ⟨ws.heap.size, 0, none⟩) 0 0) 0 []) := World.ownsRow_made ws #[] 0 (Nat.le_refl _) (by decide) rfl
                have hlm : (r.map tx).length = r.length := by simp
                obtain ⟨LL, eLL⟩ : ∃ LL, LL = r.map tx := ⟨_, rfl⟩
                have HSL : Hid (SL (ws.alloc (.cells #[] 9)) 1 encS Ar LL) := by rw [eLL]; exact (row_sl hrowS).2.1.below ((Below.refl _ ws).alloc (Nat.le_refl _) _) (Nat.le_refl _)
                rw [← eLL] at hlm
                rw [← hlm]
                rw [← hlm] at ews
                have hL6 : LL.length ≤ 1000000 := by omega
                have HI := Lib.hid hi
                have HZ0 := Lib.hid hz0
                have HZ1 := Lib.hid hz1
                have HZ2 := Lib.hid hz2
                have ELL := Lib.hid eLL
                have HLM := Lib.hid hlm
                have EWS := Lib.hid ews
                have hwjs : w.heap.size ≤ wj.heap.size := HBW.out.size
                have HWJ : Hid (wj.heap.size ≤ ws.heap.size) := Nat.le_trans hBz.1.size hk0.size
                clear hrow hslr hBY B6 hneJ hk0 hrowS hBY2 hBS hi hz0 hz1 hz2 eLL hlm ews hBz hh er
                go_wp2_with (first | rw [← EWS.out] | (at_builtin; refine wpList_append_list (ec := encS) rfl (.tmp 136) (.tmp 137) 30 rfl ws.heap.size 9 i0 _ 16 Tryz.underlying30 HI.out HZ0.out HZ1.out HZ2.out rfl (by decide) encSlen encSone _ 0 [] rfl HM.out Ar cr LL rfl HSL.out (by have : maxLen = 9223372036854775807 := rfl; omega) (by omega) (by simp) ?_))
                intro v8 w8 hown8 hgr8 _
                have hb8 : Below ws.heap.size ws w8 := ((Below.refl _ ws).alloc (Nat.le_refl _) (.cells #[] 9)).grown hgr8 (by simp) (fun j e => (HM.out.lt j e).1)
                have hr8 : RowT w8 ws.heap.size v8 r := by
                  unfold RowT
                  rw [← ELL.out, ← HLM.out]
                  have e0 : 0 + LL.length = LL.length := Nat.zero_add _
                  first
                    | exact hown8
                    | (rw [e0] at hown8; exact hown8)
                    | simpa using hown8
                obtain ⟨A8, m8, c8, rfl⟩ := row_is hr8
                obtain ⟨em8, _, _⟩ := row_sl hr8
                subst em8
                have G : Hid (R (.returned (.tuple #[.pointer (some ⟨w3.heap.size, 0, none⟩), .slice A8 r.length c8, .int .i64 0])) w8) := by
                  rw [ER.out]
                  refine ⟨HBS.out.trans (hb8.mono HBS.out.size), .inr ⟨(N, H, L), AT, r, w3.heap.size, .slice Ar r.length cr, A8, c8, OD.out, rfl, HJS.out.below hb8, HB3.out.size, fun k e => ?_, row_base hr8 HBS.out.size, fun k e hf => ?_⟩⟩
                  · have h1 := (World.ownsRow.lt HRS.out k e).1
                    omega
                  · have h1 := (World.ownsRow.lt hr8 k e).1
                    have h2 := HJS.out.lt hf
                    omega
                clear hown8 hgr8 hb8 hr8
                go_wp2_with fail
                first
                  | exact G.out
                  | exact bodyPost_ret (v := .tuple #[.pointer (some ⟨w3.heap.size, 0, none⟩), .slice A8 r.length c8, .int .i64 0]) (by simp [results, Tryz.results9, go_sem]) rfl G.out
          | false =>
            have p0 : parseV (sec (eff d) 0) (32 * q) = none := HV0.out.elim (fun h => by cases h.1) (fun h => h.2)
            cases ok1 with
            | true =>
              have p1 : parseV (sec (eff d) 1) (32 * q) = some (a1, b1, c1) := HV1.out.elim (fun h => h.2) (fun h => by cases h.1)
              have PVX : Hid (presV (sec (eff d) 0) (sec (eff d) 1) (32 * q) = some ((a1, b1, c1), 1)) := by
                show _ = _
                unfold presV
                rw [p0, p1]
              clear p0 p1
              go_wp2_with fail
              clear K0 K1
              obtain ⟨N, eN⟩ : ∃ N : Nat, N = a1 := ⟨_, rfl⟩
              obtain ⟨H, eH⟩ : ∃ H : Nat, H = b1 := ⟨_, rfl⟩
              obtain ⟨L, eL⟩ : ∃ L : Nat, L = c1 := ⟨_, rfl⟩
              obtain ⟨AT, eAT⟩ : ∃ AT : Nat, AT = 1 := ⟨_, rfl⟩
              obtain ⟨wj, ewj⟩ : ∃ wj, wj = (w3.alloc (.cells #[.pointer (some ⟨b, 0, none⟩), .int .i64 (k : Int), .int .i64 1, .int .i64 (a1 : Int), .int .i64 (b1 : Int), .int .i64 (c1 : Int), .slice none 0 0, .bool false] 73)) := ⟨_, rfl⟩
              have HBJ : Hid (Blk wj w3.heap.size (cellsK (N, H, L) AT k b (.slice none 0 0) false) 73) := by rw [ewj, eN, eH, eL, eAT]; exact (Blk.new w3 _ _)
              have HBW : Hid (Below w.heap.size w wj) := by rw [ewj]; exact (HB3.out.alloc HB3.out.size _)
              have PV : Hid (presV (sec (eff d) 0) (sec (eff d) 1) (32 * q) = some ((N, H, L), AT)) := by rw [eN, eH, eL, eAT]; exact PVX.out
              rw [← ewj]
              clear eN eH eL eAT ewj
              obtain ⟨hH, hL⟩ := pres_range PV.out
              have hH : H ≤ 1 := hH
              have hL : L ≤ 32 * q := hL
              have hAT : AT ≤ 1 := (pres_at PV.out).elim (fun h => by omega) (fun h => by omega)
              have hN : N ≤ 999999999 := pres_num PV.out
              obtain ⟨M, eM⟩ : ∃ M, M = (L + 31) / 32 := ⟨_, rfl⟩
              have hM : M ≤ q := by omega
              have CO := Lib.hid (fun (w' : World) (hb : Below wj.heap.size wj w') => by
                have := rcontent_any (HD.out.below (HBW.out.trans (hb.mono HBW.out.size))) HON.out h4 H 0 M hH (by rw [← EQ.out]; omega)
                rw [← EQ.out, Nat.add_zero, Nat.zero_add] at this
                exact (this : Calls Tryz.prog 41 #[.pointer (some ⟨b, 0, none⟩), .int .i64 (k : Int), .int .i64 (H : Int), .int .i64 0, .int .i64 (M : Int)] w' _).mono fun e w2 h => (⟨h.1, by rw [← h.2]; exact Below.refl _ _⟩ : e = .returned (.string (tx (((eff d).drop (32 * (2 + H * q))).take (32 * M)))) ∧ Below w'.heap.size w' w2))
              have hHq : H * q ≤ q := by
                have : H = 0 ∨ H = 1 := by omega
                rcases this with e | e <;> rw [e] <;> simp
              have hTl : (((eff d).drop (32 * (2 + H * q))).take (32 * M)).length = 32 * M := by rw [List.length_take, List.length_drop, EL.out]; have := HQ.out; omega
              obtain ⟨T, eT⟩ : ∃ T, T = tx (((eff d).drop (32 * (2 + H * q))).take (32 * M)) := ⟨_, rfl⟩
              have hTs : T.size = 32 * M := by rw [eT, tx_size]; exact hTl
              have hcut : (T.extract 0 L).data.toList = half (eff d) q H L := by
                rw [ext_list, eT]
                unfold half
                have : (tx (((eff d).drop (32 * (2 + H * q))).take (32 * M))).data.toList = ((eff d).drop (32 * (2 + H * q))).take (32 * M) := by simp [tx]
                rw [this, List.drop_zero, Nat.sub_zero, List.take_take, Nat.min_eq_left (by omega)]
              have hUs : (T.extract 0 L).size ≤ 64000 := by rw [ByteArray.size_extract]; omega
              have hLM : (L : Int) ≤ (T.size : Int) := by omega
              have hLM2 : (L : Int) ≤ 32 * (M : Int) := by omega
              have L0 : (0 : Int) ≤ (L : Int) := by omega
              rw [← eT] at CO
              have u1 : IntKind.i64.wrap ((L : Int) + 31) = (L : Int) + 31 := by rw [IntWalk.i64_left, IntWalk.wrap64_in _ ⟨by omega, by omega⟩]
              have u2 : Int.tdiv ((L : Int) + 31) 32 = (M : Int) := by rw [Int.tdiv_eq_ediv_of_nonneg (by omega)]; omega
              have u3 : IntKind.i64.wrap (M : Int) = (M : Int) := by rw [IntWalk.i64_left, IntWalk.wrap64_in _ ⟨by omega, by omega⟩]
              have RC := Lib.hid (fun w' => rrecords_any (T.extract 0 L) w' (by omega))
              rw [hcut] at RC
              have c4 := HBJ.out.cellD 4 _ rfl
              have c5 := HBJ.out.cellD 5 _ rfl
              have HTS := Lib.hid hTs
              clear hTl eT hcut eM
              cases hsp : splitL (half (eff d) q H L) with
              | none =>
                have OD : Hid (openD k d = (20, none)) := by
                  show _ = _
                  unfold openD
                  rw [if_neg (by rw [HON.out]; decide), if_neg (by omega), ← EQ.out, PV.out]
                  simp only
                  rw [hsp]
                rw [hsp] at RC
                have RCN : Hid (∀ w', Calls Tryz.prog 40 #[.string (T.extract 0 L)] w' fun e w2 => e = .returned (.tuple #[.slice none 0 0, .bool false]) ∧ Below w'.heap.size w' w2) := fun w' => (RC.out w').mono fun e w2 h => by
                  obtain ⟨h1, ⟨_, h2⟩ | ⟨p, v, h2, _⟩⟩ := h
                  · exact ⟨h2, h1⟩
                  · cases h2
                clear hsp RC hTs
                go_wp2_with fail
                refine Free.wp_region_free 18 [(8, .det (.string T)), (12, .det (.tuple #[.slice none 0 0, .bool false]))] (fun y => Below wj.heap.size wj y ∧ y.cell? ⟨w3.heap.size, 4, none⟩ = some (.int .i64 (H : Int)) ∧ y.cell? ⟨w3.heap.size, 5, none⟩ = some (.int .i64 (L : Int))) (by kernel_rfl) (by kernel_rfl) (Free.mono_det (fun j mk r hf => by simp only [Free.find] at hf; repeat' (first | cases hf | split at hf))) ⟨(Below.refl _ _).drew, c4, c5⟩ (fun _ _ h g => ⟨h.1.trans (Below.mono g h.1.size), cell_grow' h.2.1 g, cell_grow' h.2.2 g⟩) ?_
                simp only [List.take_succ_cons, List.take_zero]
                clear c4 c5
                iterate 8 (apply Free.chain_still (by first | exact Free.wanted_of rfl rfl rfl | rfl) rfl; (intro w' hB hA; obtain ⟨qB, q4, q5⟩ := hB; clear hA  qB; go_light; go_simp <;> rfl); (try simp only [Act.put, List.setIfInBounds_toArray, List.set_cons_succ, List.set_cons_zero]))
                apply Free.chain_det (by first | exact Free.wanted_of rfl rfl rfl | rfl) rfl
                · intro w' hB hA
                  refine Free.opRun_call (f := 41) (args := #[.pointer (some ⟨b, 0, none⟩), .int .i64 (k : Int), .int .i64 (H : Int), .int .i64 0, .int .i64 (M : Int)]) (by clear hB hA; go_simp <;> rfl) ?_
                  refine (CO.out w' hB.1).mono ?_
                  rintro e w3 ⟨rfl, hb3⟩
                  exact ⟨_, rfl, hb3, rfl⟩
                simp only [Act.put, List.setIfInBounds_toArray, List.set_cons_succ, List.set_cons_zero]
                iterate 3 (apply Free.chain_still (by first | exact Free.wanted_of rfl rfl rfl | rfl) rfl; (intro w' hB hA; obtain ⟨qB, q4, q5⟩ := hB; clear hA  qB; go_light; go_simp <;> rfl); (try simp only [Act.put, List.setIfInBounds_toArray, List.set_cons_succ, List.set_cons_zero]))
                apply Free.chain_det (by first | exact Free.wanted_of rfl rfl rfl | rfl) rfl
                · intro w' hB hA
                  refine Free.opRun_call (f := 40) (args := #[.string (T.extract 0 L)]) (by clear hB hA; go_simp <;> rfl) ?_
                  refine (RCN.out w').mono ?_
                  rintro e w3 ⟨rfl, hb3⟩
                  exact ⟨_, rfl, hb3, rfl⟩
                simp only [Act.put, List.setIfInBounds_toArray, List.set_cons_succ, List.set_cons_zero]
                iterate 5 (apply Free.chain_still (by first | exact Free.wanted_of rfl rfl rfl | rfl) rfl; (intro w' hB hA; obtain ⟨qB, q4, q5⟩ := hB; clear hA  qB; go_light; go_simp <;> rfl); (try simp only [Act.put, List.setIfInBounds_toArray, List.set_cons_succ, List.set_cons_zero]))
                apply Free.chain_nil
                intro wy hBz _ _
                simp only [List.drop_succ_cons, List.drop_zero]
                have G := Lib.hid (FB.out 20 wy OD.out (HBW.out.trans (hBz.1.mono HBW.out.size)))
                clear hBz
                go_wp2_with fail
                first
                  | exact G.out
                  | exact bodyPost_ret (v := .tuple #[.pointer none, .slice none 0 0, .int .i64 20]) (by simp [results, Tryz.results9, go_sem]) rfl G.out
              | some r =>
                have OD : Hid (openD k d = (0, some ((N, H, L), AT, r))) := by
                  show _ = _
                  unfold openD
                  rw [if_neg (by rw [HON.out]; decide), if_neg (by omega), ← EQ.out, PV.out]
                  simp only
                  rw [hsp]
                have hfew : r.length ≤ 1000000 := by
                  have hf := (found_open OD.out).2.2.2
                  have h1 := (found_len EL.out hf).1
                  have h3 := roomL_ge r
                  have h1 : L = roomL r := h1
                  omega
                rw [hsp] at RC
                have RCS : Hid (∀ w', Calls Tryz.prog 40 #[.string (T.extract 0 L)] w' fun e w2 => ∃ z, e = .returned (.tuple #[mkS r.length z, .bool true]) ∧ RowT w2 w'.heap.size (mkS r.length z) r ∧ Below w'.heap.size w' w2) := fun w' => (RC.out w').mono fun e w2 h => by
                  obtain ⟨h1, ⟨h2, _⟩ | ⟨p, v, h2, h3, h4⟩⟩ := h
                  · cases h2
                  · have h2 : r = bys p := by injection h2
                    have hr : RowT w2 w'.heap.size v r := by
                      unfold RowT
                      have e1 : (bys p).map tx = p := by
                        unfold bys
                        rw [List.map_map]
                        exact (List.map_congr_left (fun x _ => tx_of x)).trans (List.map_id p)
                      have e2 : (bys p).length = p.length := by unfold bys; simp
                      rw [h2, e1, e2]; exact h4
                    obtain ⟨z, hz⟩ := mkS_of hr
                    rw [hz] at hr h3
                    exact ⟨z, h3, hr, h1⟩
                clear hsp RC hTs
                go_wp2_with fail
                refine Free.wp_region_free 18 [(8, .det (.string T)), (12, .ind (fun z => .tuple #[mkS r.length z, .bool true]) (fun z w2 => RowT w2 wj.heap.size (mkS r.length z) r))] (fun y => Below wj.heap.size wj y ∧ y.cell? ⟨w3.heap.size, 4, none⟩ = some (.int .i64 (H : Int)) ∧ y.cell? ⟨w3.heap.size, 5, none⟩ = some (.int .i64 (L : Int))) (by kernel_rfl) (by kernel_rfl) ?_ ⟨(Below.refl _ _).drew, c4, c5⟩ (fun _ _ h g => ⟨h.1.trans (Below.mono g h.1.size), cell_grow' h.2.1 g, cell_grow' h.2.2 g⟩) ?_
                · intro j mk rr hf y w1 w2 hr gr
                  simp only [Free.find] at hf
                  split at hf
                  · cases hf
                  · split at hf
                    · cases hf; exact rowB hr gr
                    · cases hf
                simp only [List.take_succ_cons, List.take_zero]
                clear c4 c5
                iterate 8 (apply Free.chain_still (by first | exact Free.wanted_of rfl rfl rfl | rfl) rfl; (intro w' hB hA; obtain ⟨qB, q4, q5⟩ := hB; clear hA  qB; go_light; go_simp <;> rfl); (try simp only [Act.put, List.setIfInBounds_toArray, List.set_cons_succ, List.set_cons_zero]))
                apply Free.chain_det (by first | exact Free.wanted_of rfl rfl rfl | rfl) rfl
                · intro w' hB hA
                  refine Free.opRun_call (f := 41) (args := #[.pointer (some ⟨b, 0, none⟩), .int .i64 (k : Int), .int .i64 (H : Int), .int .i64 0, .int .i64 (M : Int)]) (by clear hB hA; go_simp <;> rfl) ?_
                  refine (CO.out w' hB.1).mono ?_
                  rintro e w3 ⟨rfl, hb3⟩
                  exact ⟨_, rfl, hb3, rfl⟩
                simp only [Act.put, List.setIfInBounds_toArray, List.set_cons_succ, List.set_cons_zero]
                iterate 3 (apply Free.chain_still (by first | exact Free.wanted_of rfl rfl rfl | rfl) rfl; (intro w' hB hA; obtain ⟨qB, q4, q5⟩ := hB; clear hA  qB; go_light; go_simp <;> rfl); (try simp only [Act.put, List.setIfInBounds_toArray, List.set_cons_succ, List.set_cons_zero]))
                apply Free.chain_ind (by first | exact Free.wanted_of rfl rfl rfl | rfl) rfl
                · intro w' hB hA
                  refine Free.opRun_call (f := 40) (args := #[.string (T.extract 0 L)]) (by clear hB hA; go_simp <;> rfl) ?_
                  refine (RCS.out w').mono ?_
                  rintro e w3 ⟨z, rfl, hrow, hb3⟩
                  exact ⟨_, rfl, hb3, z, rfl, row_base hrow hB.1.size⟩
                intro z
                simp only [Act.put, List.setIfInBounds_toArray, List.set_cons_succ, List.set_cons_zero]
                iterate 5 (apply Free.chain_still (by first | exact Free.wanted_of rfl rfl rfl | rfl) rfl; (intro w' hB hA; obtain ⟨qB, q4, q5⟩ := hB; clear hA  qB; go_light; go_simp <;> rfl); (try simp only [Act.put, List.setIfInBounds_toArray, List.set_cons_succ, List.set_cons_zero]))
                apply Free.chain_nil
                intro wy hBz _ hh
                have hrow : RowT wy wj.heap.size (mkS r.length z) r := hh _ List.mem_cons_self
                simp only [List.drop_succ_cons, List.drop_zero]
                obtain ⟨Ar, mr, cr, er⟩ := row_is hrow
                rw [er] at hrow ⊢
                obtain ⟨emr, hslr, _⟩ := row_sl hrow
                subst emr
                have hBY := HBJ.out.below hBz.1 HBJ.out.lt
                have c6 := hBY.cellD 6 _ rfl
                have f6 := hBY.frozen 6
                have B6 := hBY.set 6 (.slice Ar r.length cr)
                have hneJ : (Value.slice Ar r.length cr).ownBlock ≠ some w3.heap.size := fun e => by have h1 := (World.ownsRow.lt hrow _ e).1; have h2 := HBJ.out.lt; omega
                have hk0 : Keep (fun k => k = w3.heap.size) wy (wy.setCell ⟨w3.heap.size, 6, none⟩ (.slice Ar r.length cr)) := (Keep.refl (fun k => k = w3.heap.size) wy).setCell (p := ⟨w3.heap.size, 6, none⟩) (fun _ => rfl) _
                obtain ⟨ws, ews⟩ : ∃ ws, ws = wy.setCell ⟨w3.heap.size, 6, none⟩ (.slice Ar r.length cr) := ⟨_, rfl⟩
                rw [← ews] at B6 hk0
                have hrowS : RowT ws wj.heap.size (.slice Ar r.length cr) r := hrow.keep fun k e => hk0.block k (World.ownsRow.lt hrow k e).2 (fun e' => hneJ (by rw [← e']; exact e))
                have hBY2 : Below w.heap.size w wy := HBW.out.trans (hBz.1.mono HBW.out.size)
                have hBS : Below w.heap.size w ws := hBY2.trans (hk0.below (fun k e => by rw [e]; exact HB3.out.size) hBY2.size)
                have HJS : Hid (RJAt ws w3.heap.size b bs cp pv (.slice Ar r.length cr) k ⟨d, (N, H, L), AT, r, false⟩) :=
                  ⟨h4, HD.out.below hBS, B6, row_base hrowS (Nat.zero_le _), (fun e => by have h1 := (World.ownsRow.lt hrow _ e).1; have h2 := HD.out.lt (k := bs) (.inr (.inl rfl)); have h3 := HBW.out.size; omega), hN, hH, by rw [← EQ.out]; exact hL, hAT⟩
                have HBS := Lib.hid hBS
                have HRS := Lib.hid hrowS
                obtain ⟨i0, hi, hz0, hz1, hz2⟩ := info_parts infoStr
                have HM : Hid ((ws.alloc (.cells #[] 9)).ownsRow ws.heap.size 9 1 (.slice (some ⟨ws.heap.size, 0, none⟩) 0 0) 0 []) := World.ownsRow_made ws #[] 0 (Nat.le_refl _) (by decide) rfl
                have hlm : (r.map tx).length = r.length := by simp
                obtain ⟨LL, eLL⟩ : ∃ LL, LL = r.map tx := ⟨_, rfl⟩
                have HSL : Hid (SL (ws.alloc (.cells #[] 9)) 1 encS Ar LL) := by rw [eLL]; exact (row_sl hrowS).2.1.below ((Below.refl _ ws).alloc (Nat.le_refl _) _) (Nat.le_refl _)
                rw [← eLL] at hlm
                rw [← hlm]
                rw [← hlm] at ews
                have hL6 : LL.length ≤ 1000000 := by omega
                have HI := Lib.hid hi
                have HZ0 := Lib.hid hz0
                have HZ1 := Lib.hid hz1
                have HZ2 := Lib.hid hz2
                have ELL := Lib.hid eLL
                have HLM := Lib.hid hlm
                have EWS := Lib.hid ews
                have hwjs : w.heap.size ≤ wj.heap.size := HBW.out.size
                have HWJ : Hid (wj.heap.size ≤ ws.heap.size) := Nat.le_trans hBz.1.size hk0.size
                clear hrow hslr hBY B6 hneJ hk0 hrowS hBY2 hBS hi hz0 hz1 hz2 eLL hlm ews hBz hh er
                go_wp2_with (first | rw [← EWS.out] | (at_builtin; refine wpList_append_list (ec := encS) rfl (.tmp 136) (.tmp 137) 30 rfl ws.heap.size 9 i0 _ 16 Tryz.underlying30 HI.out HZ0.out HZ1.out HZ2.out rfl (by decide) encSlen encSone _ 0 [] rfl HM.out Ar cr LL rfl HSL.out (by have : maxLen = 9223372036854775807 := rfl; omega) (by omega) (by simp) ?_))
                intro v8 w8 hown8 hgr8 _
                have hb8 : Below ws.heap.size ws w8 := ((Below.refl _ ws).alloc (Nat.le_refl _) (.cells #[] 9)).grown hgr8 (by simp) (fun j e => (HM.out.lt j e).1)
                have hr8 : RowT w8 ws.heap.size v8 r := by
                  unfold RowT
                  rw [← ELL.out, ← HLM.out]
                  have e0 : 0 + LL.length = LL.length := Nat.zero_add _
                  first
                    | exact hown8
                    | (rw [e0] at hown8; exact hown8)
                    | simpa using hown8
                obtain ⟨A8, m8, c8, rfl⟩ := row_is hr8
                obtain ⟨em8, _, _⟩ := row_sl hr8
                subst em8
                have G : Hid (R (.returned (.tuple #[.pointer (some ⟨w3.heap.size, 0, none⟩), .slice A8 r.length c8, .int .i64 0])) w8) := by
                  rw [ER.out]
                  refine ⟨HBS.out.trans (hb8.mono HBS.out.size), .inr ⟨(N, H, L), AT, r, w3.heap.size, .slice Ar r.length cr, A8, c8, OD.out, rfl, HJS.out.below hb8, HB3.out.size, fun k e => ?_, row_base hr8 HBS.out.size, fun k e hf => ?_⟩⟩
                  · have h1 := (World.ownsRow.lt HRS.out k e).1
                    omega
                  · have h1 := (World.ownsRow.lt hr8 k e).1
                    have h2 := HJS.out.lt hf
                    omega
                clear hown8 hgr8 hb8 hr8
                go_wp2_with fail
                first
                  | exact G.out
                  | exact bodyPost_ret (v := .tuple #[.pointer (some ⟨w3.heap.size, 0, none⟩), .slice A8 r.length c8, .int .i64 0]) (by simp [results, Tryz.results9, go_sem]) rfl G.out
            | false =>
              clear p0
              have PV0 : Hid (z0b = true ∨ z1b = true → presV (sec (eff d) 0) (sec (eff d) 1) (32 * q) = some ((0, 0, 0), 0)) := fun hz => by
                have p0 : parseV (sec (eff d) 0) (32 * q) = none := HV0.out.elim (fun h => by cases h.1) (fun h => h.2)
                have p1 : parseV (sec (eff d) 1) (32 * q) = none := HV1.out.elim (fun h => by cases h.1) (fun h => h.2)
                unfold presV
                rw [p0, p1]
                simp only
                rw [if_pos (hz.imp (fun h => of_decide_eq_true (by rw [← EZ0.out]; exact h)) (fun h => of_decide_eq_true (by rw [← EZ1.out]; exact h)))]
              cases z0b with
              | false =>
                cases z1b with
                | false =>
                  go_wp2_with fail
                  refine (K0.out _).mono ?_
                  rintro e w' ⟨rfl, rfl⟩
                  go_wp2_with fail
                  refine (K1.out _).mono ?_
                  rintro e w' ⟨rfl, rfl⟩
                  have G := Lib.hid (FB.out 20 w3 (by
                    unfold openD
                    rw [if_neg (by rw [HON.out]; decide), if_neg (by omega), ← EQ.out]
                    have p0 : parseV (sec (eff d) 0) (32 * q) = none := HV0.out.elim (fun h => by cases h.1) (fun h => h.2)
                    have p1 : parseV (sec (eff d) 1) (32 * q) = none := HV1.out.elim (fun h => by cases h.1) (fun h => h.2)
                    unfold presV
                    rw [p0, p1]
                    simp only
                    rw [if_neg (fun h => h.elim (fun h => by have := EZ0.out; rw [h] at this; simp at this) (fun h => by have := EZ1.out; rw [h] at this; simp at this))]) HB3.out)
                  clear K0 K1
                  go_wp2_with fail
                  first
                    | exact G.out
                    | exact bodyPost_ret (v := .tuple #[.pointer none, .slice none 0 0, .int .i64 20]) (by simp [results, Tryz.results9, go_sem]) rfl G.out
                | true =>
                  go_wp2_with fail
                  refine (K0.out _).mono ?_
                  rintro e w' ⟨rfl, rfl⟩
                  go_wp2_with fail
                  refine (K1.out _).mono ?_
                  rintro e w' ⟨rfl, rfl⟩
                  go_wp2_with fail
                  clear K0 K1
                  obtain ⟨N, eN⟩ : ∃ N : Nat, N = 0 := ⟨_, rfl⟩
                  obtain ⟨H, eH⟩ : ∃ H : Nat, H = 0 := ⟨_, rfl⟩
                  obtain ⟨L, eL⟩ : ∃ L : Nat, L = 0 := ⟨_, rfl⟩
                  obtain ⟨AT, eAT⟩ : ∃ AT : Nat, AT = 0 := ⟨_, rfl⟩
                  obtain ⟨wj, ewj⟩ : ∃ wj, wj = (w3.alloc (.cells #[.pointer (some ⟨b, 0, none⟩), .int .i64 (k : Int), .int .i64 0, .int .i64 0, .int .i64 0, .int .i64 0, .slice none 0 0, .bool false] 73)) := ⟨_, rfl⟩
                  have HBJ : Hid (Blk wj w3.heap.size (cellsK (N, H, L) AT k b (.slice none 0 0) false) 73) := by rw [ewj, eN, eH, eL, eAT]; exact (Blk.new w3 _ _)
                  have HBW : Hid (Below w.heap.size w wj) := by rw [ewj]; exact (HB3.out.alloc HB3.out.size _)
                  have PV : Hid (presV (sec (eff d) 0) (sec (eff d) 1) (32 * q) = some ((N, H, L), AT)) := by rw [eN, eH, eL, eAT]; exact (PV0.out (by simp))
                  rw [← ewj]
                  clear eN eH eL eAT ewj
                  obtain ⟨hH, hL⟩ := pres_range PV.out
                  have hH : H ≤ 1 := hH
                  have hL : L ≤ 32 * q := hL
                  have hAT : AT ≤ 1 := (pres_at PV.out).elim (fun h => by omega) (fun h => by omega)
                  have hN : N ≤ 999999999 := pres_num PV.out
                  obtain ⟨M, eM⟩ : ∃ M, M = (L + 31) / 32 := ⟨_, rfl⟩
                  have hM : M ≤ q := by omega
                  have CO := Lib.hid (fun (w' : World) (hb : Below wj.heap.size wj w') => by
                    have := rcontent_any (HD.out.below (HBW.out.trans (hb.mono HBW.out.size))) HON.out h4 H 0 M hH (by rw [← EQ.out]; omega)
                    rw [← EQ.out, Nat.add_zero, Nat.zero_add] at this
                    exact (this : Calls Tryz.prog 41 #[.pointer (some ⟨b, 0, none⟩), .int .i64 (k : Int), .int .i64 (H : Int), .int .i64 0, .int .i64 (M : Int)] w' _).mono fun e w2 h => (⟨h.1, by rw [← h.2]; exact Below.refl _ _⟩ : e = .returned (.string (tx (((eff d).drop (32 * (2 + H * q))).take (32 * M)))) ∧ Below w'.heap.size w' w2))
                  have hHq : H * q ≤ q := by
                    have : H = 0 ∨ H = 1 := by omega
                    rcases this with e | e <;> rw [e] <;> simp
                  have hTl : (((eff d).drop (32 * (2 + H * q))).take (32 * M)).length = 32 * M := by rw [List.length_take, List.length_drop, EL.out]; have := HQ.out; omega
                  obtain ⟨T, eT⟩ : ∃ T, T = tx (((eff d).drop (32 * (2 + H * q))).take (32 * M)) := ⟨_, rfl⟩
                  have hTs : T.size = 32 * M := by rw [eT, tx_size]; exact hTl
                  have hcut : (T.extract 0 L).data.toList = half (eff d) q H L := by
                    rw [ext_list, eT]
                    unfold half
                    have : (tx (((eff d).drop (32 * (2 + H * q))).take (32 * M))).data.toList = ((eff d).drop (32 * (2 + H * q))).take (32 * M) := by simp [tx]
                    rw [this, List.drop_zero, Nat.sub_zero, List.take_take, Nat.min_eq_left (by omega)]
                  have hUs : (T.extract 0 L).size ≤ 64000 := by rw [ByteArray.size_extract]; omega
                  have hLM : (L : Int) ≤ (T.size : Int) := by omega
                  have hLM2 : (L : Int) ≤ 32 * (M : Int) := by omega
                  have L0 : (0 : Int) ≤ (L : Int) := by omega
                  rw [← eT] at CO
                  have u1 : IntKind.i64.wrap ((L : Int) + 31) = (L : Int) + 31 := by rw [IntWalk.i64_left, IntWalk.wrap64_in _ ⟨by omega, by omega⟩]
                  have u2 : Int.tdiv ((L : Int) + 31) 32 = (M : Int) := by rw [Int.tdiv_eq_ediv_of_nonneg (by omega)]; omega
                  have u3 : IntKind.i64.wrap (M : Int) = (M : Int) := by rw [IntWalk.i64_left, IntWalk.wrap64_in _ ⟨by omega, by omega⟩]
                  have RC := Lib.hid (fun w' => rrecords_any (T.extract 0 L) w' (by omega))
                  rw [hcut] at RC
                  have c4 := HBJ.out.cellD 4 _ rfl
                  have c5 := HBJ.out.cellD 5 _ rfl
                  have HTS := Lib.hid hTs
                  clear hTl eT hcut eM
                  cases hsp : splitL (half (eff d) q H L) with
                  | none =>
                    have OD : Hid (openD k d = (20, none)) := by
                      show _ = _
                      unfold openD
                      rw [if_neg (by rw [HON.out]; decide), if_neg (by omega), ← EQ.out, PV.out]
                      simp only
                      rw [hsp]
                    rw [hsp] at RC
                    have RCN : Hid (∀ w', Calls Tryz.prog 40 #[.string (T.extract 0 L)] w' fun e w2 => e = .returned (.tuple #[.slice none 0 0, .bool false]) ∧ Below w'.heap.size w' w2) := fun w' => (RC.out w').mono fun e w2 h => by
                      obtain ⟨h1, ⟨_, h2⟩ | ⟨p, v, h2, _⟩⟩ := h
                      · exact ⟨h2, h1⟩
                      · cases h2
                    clear hsp RC hTs
                    go_wp2_with fail
                    refine Free.wp_region_free 18 [(8, .det (.string T)), (12, .det (.tuple #[.slice none 0 0, .bool false]))] (fun y => Below wj.heap.size wj y ∧ y.cell? ⟨w3.heap.size, 4, none⟩ = some (.int .i64 (H : Int)) ∧ y.cell? ⟨w3.heap.size, 5, none⟩ = some (.int .i64 (L : Int))) (by kernel_rfl) (by kernel_rfl) (Free.mono_det (fun j mk r hf => by simp only [Free.find] at hf; repeat' (first | cases hf | split at hf))) ⟨(Below.refl _ _).drew, c4, c5⟩ (fun _ _ h g => ⟨h.1.trans (Below.mono g h.1.size), cell_grow' h.2.1 g, cell_grow' h.2.2 g⟩) ?_
                    simp only [List.take_succ_cons, List.take_zero]
                    clear c4 c5
                    iterate 8 (apply Free.chain_still (by first | exact Free.wanted_of rfl rfl rfl | rfl) rfl; (intro w' hB hA; obtain ⟨qB, q4, q5⟩ := hB; clear hA  qB; go_light; go_simp <;> rfl); (try simp only [Act.put, List.setIfInBounds_toArray, List.set_cons_succ, List.set_cons_zero]))
                    apply Free.chain_det (by first | exact Free.wanted_of rfl rfl rfl | rfl) rfl
                    · intro w' hB hA
                      refine Free.opRun_call (f := 41) (args := #[.pointer (some ⟨b, 0, none⟩), .int .i64 (k : Int), .int .i64 (H : Int), .int .i64 0, .int .i64 (M : Int)]) (by clear hB hA; go_simp <;> rfl) ?_
                      refine (CO.out w' hB.1).mono ?_
                      rintro e w3 ⟨rfl, hb3⟩
                      exact ⟨_, rfl, hb3, rfl⟩
                    simp only [Act.put, List.setIfInBounds_toArray, List.set_cons_succ, List.set_cons_zero]
                    iterate 3 (apply Free.chain_still (by first | exact Free.wanted_of rfl rfl rfl | rfl) rfl; (intro w' hB hA; obtain ⟨qB, q4, q5⟩ := hB; clear hA  qB; go_light; go_simp <;> rfl); (try simp only [Act.put, List.setIfInBounds_toArray, List.set_cons_succ, List.set_cons_zero]))
                    apply Free.chain_det (by first | exact Free.wanted_of rfl rfl rfl | rfl) rfl
                    · intro w' hB hA
                      refine Free.opRun_call (f := 40) (args := #[.string (T.extract 0 L)]) (by clear hB hA; go_simp <;> rfl) ?_
                      refine (RCN.out w').mono ?_
                      rintro e w3 ⟨rfl, hb3⟩
                      exact ⟨_, rfl, hb3, rfl⟩
                    simp only [Act.put, List.setIfInBounds_toArray, List.set_cons_succ, List.set_cons_zero]
                    iterate 5 (apply Free.chain_still (by first | exact Free.wanted_of rfl rfl rfl | rfl) rfl; (intro w' hB hA; obtain ⟨qB, q4, q5⟩ := hB; clear hA  qB; go_light; go_simp <;> rfl); (try simp only [Act.put, List.setIfInBounds_toArray, List.set_cons_succ, List.set_cons_zero]))
                    apply Free.chain_nil
                    intro wy hBz _ _
                    simp only [List.drop_succ_cons, List.drop_zero]
                    have G := Lib.hid (FB.out 20 wy OD.out (HBW.out.trans (hBz.1.mono HBW.out.size)))
                    clear hBz
                    go_wp2_with fail
                    first
                      | exact G.out
                      | exact bodyPost_ret (v := .tuple #[.pointer none, .slice none 0 0, .int .i64 20]) (by simp [results, Tryz.results9, go_sem]) rfl G.out
                  | some r =>
                    have OD : Hid (openD k d = (0, some ((N, H, L), AT, r))) := by
                      show _ = _
                      unfold openD
                      rw [if_neg (by rw [HON.out]; decide), if_neg (by omega), ← EQ.out, PV.out]
                      simp only
                      rw [hsp]
                    have hfew : r.length ≤ 1000000 := by
                      have hf := (found_open OD.out).2.2.2
                      have h1 := (found_len EL.out hf).1
                      have h3 := roomL_ge r
                      have h1 : L = roomL r := h1
                      omega
                    rw [hsp] at RC
                    have RCS : Hid (∀ w', Calls Tryz.prog 40 #[.string (T.extract 0 L)] w' fun e w2 => ∃ z, e = .returned (.tuple #[mkS r.length z, .bool true]) ∧ RowT w2 w'.heap.size (mkS r.length z) r ∧ Below w'.heap.size w' w2) := fun w' => (RC.out w').mono fun e w2 h => by
                      obtain ⟨h1, ⟨h2, _⟩ | ⟨p, v, h2, h3, h4⟩⟩ := h
                      · cases h2
                      · have h2 : r = bys p := by injection h2
                        have hr : RowT w2 w'.heap.size v r := by
                          unfold RowT
                          have e1 : (bys p).map tx = p := by
                            unfold bys
                            rw [List.map_map]
                            exact (List.map_congr_left (fun x _ => tx_of x)).trans (List.map_id p)
                          have e2 : (bys p).length = p.length := by unfold bys; simp
                          rw [h2, e1, e2]; exact h4
                        obtain ⟨z, hz⟩ := mkS_of hr
                        rw [hz] at hr h3
                        exact ⟨z, h3, hr, h1⟩
                    clear hsp RC hTs
                    go_wp2_with fail
                    refine Free.wp_region_free 18 [(8, .det (.string T)), (12, .ind (fun z => .tuple #[mkS r.length z, .bool true]) (fun z w2 => RowT w2 wj.heap.size (mkS r.length z) r))] (fun y => Below wj.heap.size wj y ∧ y.cell? ⟨w3.heap.size, 4, none⟩ = some (.int .i64 (H : Int)) ∧ y.cell? ⟨w3.heap.size, 5, none⟩ = some (.int .i64 (L : Int))) (by kernel_rfl) (by kernel_rfl) ?_ ⟨(Below.refl _ _).drew, c4, c5⟩ (fun _ _ h g => ⟨h.1.trans (Below.mono g h.1.size), cell_grow' h.2.1 g, cell_grow' h.2.2 g⟩) ?_
                    · intro j mk rr hf y w1 w2 hr gr
                      simp only [Free.find] at hf
                      split at hf
                      · cases hf
                      · split at hf
                        · cases hf; exact rowB hr gr
                        · cases hf
                    simp only [List.take_succ_cons, List.take_zero]
                    clear c4 c5
                    iterate 8 (apply Free.chain_still (by first | exact Free.wanted_of rfl rfl rfl | rfl) rfl; (intro w' hB hA; obtain ⟨qB, q4, q5⟩ := hB; clear hA  qB; go_light; go_simp <;> rfl); (try simp only [Act.put, List.setIfInBounds_toArray, List.set_cons_succ, List.set_cons_zero]))
                    apply Free.chain_det (by first | exact Free.wanted_of rfl rfl rfl | rfl) rfl
                    · intro w' hB hA
                      refine Free.opRun_call (f := 41) (args := #[.pointer (some ⟨b, 0, none⟩), .int .i64 (k : Int), .int .i64 (H : Int), .int .i64 0, .int .i64 (M : Int)]) (by clear hB hA; go_simp <;> rfl) ?_
                      refine (CO.out w' hB.1).mono ?_
                      rintro e w3 ⟨rfl, hb3⟩
                      exact ⟨_, rfl, hb3, rfl⟩
                    simp only [Act.put, List.setIfInBounds_toArray, List.set_cons_succ, List.set_cons_zero]
                    iterate 3 (apply Free.chain_still (by first | exact Free.wanted_of rfl rfl rfl | rfl) rfl; (intro w' hB hA; obtain ⟨qB, q4, q5⟩ := hB; clear hA  qB; go_light; go_simp <;> rfl); (try simp only [Act.put, List.setIfInBounds_toArray, List.set_cons_succ, List.set_cons_zero]))
                    apply Free.chain_ind (by first | exact Free.wanted_of rfl rfl rfl | rfl) rfl
                    · intro w' hB hA
                      refine Free.opRun_call (f := 40) (args := #[.string (T.extract 0 L)]) (by clear hB hA; go_simp <;> rfl) ?_
                      refine (RCS.out w').mono ?_
                      rintro e w3 ⟨z, rfl, hrow, hb3⟩
                      exact ⟨_, rfl, hb3, z, rfl, row_base hrow hB.1.size⟩
                    intro z
                    simp only [Act.put, List.setIfInBounds_toArray, List.set_cons_succ, List.set_cons_zero]
                    iterate 5 (apply Free.chain_still (by first | exact Free.wanted_of rfl rfl rfl | rfl) rfl; (intro w' hB hA; obtain ⟨qB, q4, q5⟩ := hB; clear hA  qB; go_light; go_simp <;> rfl); (try simp only [Act.put, List.setIfInBounds_toArray, List.set_cons_succ, List.set_cons_zero]))
                    apply Free.chain_nil
                    intro wy hBz _ hh
                    have hrow : RowT wy wj.heap.size (mkS r.length z) r := hh _ List.mem_cons_self
                    simp only [List.drop_succ_cons, List.drop_zero]
                    obtain ⟨Ar, mr, cr, er⟩ := row_is hrow
                    rw [er] at hrow ⊢
                    obtain ⟨emr, hslr, _⟩ := row_sl hrow
                    subst emr
                    have hBY := HBJ.out.below hBz.1 HBJ.out.lt
                    have c6 := hBY.cellD 6 _ rfl
                    have f6 := hBY.frozen 6
                    have B6 := hBY.set 6 (.slice Ar r.length cr)
                    have hneJ : (Value.slice Ar r.length cr).ownBlock ≠ some w3.heap.size := fun e => by have h1 := (World.ownsRow.lt hrow _ e).1; have h2 := HBJ.out.lt; omega
                    have hk0 : Keep (fun k => k = w3.heap.size) wy (wy.setCell ⟨w3.heap.size, 6, none⟩ (.slice Ar r.length cr)) := (Keep.refl (fun k => k = w3.heap.size) wy).setCell (p := ⟨w3.heap.size, 6, none⟩) (fun _ => rfl) _
                    obtain ⟨ws, ews⟩ : ∃ ws, ws = wy.setCell ⟨w3.heap.size, 6, none⟩ (.slice Ar r.length cr) := ⟨_, rfl⟩
                    rw [← ews] at B6 hk0
                    have hrowS : RowT ws wj.heap.size (.slice Ar r.length cr) r := hrow.keep fun k e => hk0.block k (World.ownsRow.lt hrow k e).2 (fun e' => hneJ (by rw [← e']; exact e))
                    have hBY2 : Below w.heap.size w wy := HBW.out.trans (hBz.1.mono HBW.out.size)
                    have hBS : Below w.heap.size w ws := hBY2.trans (hk0.below (fun k e => by rw [e]; exact HB3.out.size) hBY2.size)
                    have HJS : Hid (RJAt ws w3.heap.size b bs cp pv (.slice Ar r.length cr) k ⟨d, (N, H, L), AT, r, false⟩) :=
                      ⟨h4, HD.out.below hBS, B6, row_base hrowS (Nat.zero_le _), (fun e => by have h1 := (World.ownsRow.lt hrow _ e).1; have h2 := HD.out.lt (k := bs) (.inr (.inl rfl)); have h3 := HBW.out.size; omega), hN, hH, by rw [← EQ.out]; exact hL, hAT⟩
                    have HBS := Lib.hid hBS
                    have HRS := Lib.hid hrowS
                    obtain ⟨i0, hi, hz0, hz1, hz2⟩ := info_parts infoStr
                    have HM : Hid ((ws.alloc (.cells #[] 9)).ownsRow ws.heap.size 9 1 (.slice (some ⟨ws.heap.size, 0, none⟩) 0 0) 0 []) := World.ownsRow_made ws #[] 0 (Nat.le_refl _) (by decide) rfl
                    have hlm : (r.map tx).length = r.length := by simp
                    obtain ⟨LL, eLL⟩ : ∃ LL, LL = r.map tx := ⟨_, rfl⟩
                    have HSL : Hid (SL (ws.alloc (.cells #[] 9)) 1 encS Ar LL) := by rw [eLL]; exact (row_sl hrowS).2.1.below ((Below.refl _ ws).alloc (Nat.le_refl _) _) (Nat.le_refl _)
                    rw [← eLL] at hlm
                    rw [← hlm]
                    rw [← hlm] at ews
                    have hL6 : LL.length ≤ 1000000 := by omega
                    have HI := Lib.hid hi
                    have HZ0 := Lib.hid hz0
                    have HZ1 := Lib.hid hz1
                    have HZ2 := Lib.hid hz2
                    have ELL := Lib.hid eLL
                    have HLM := Lib.hid hlm
                    have EWS := Lib.hid ews
                    have hwjs : w.heap.size ≤ wj.heap.size := HBW.out.size
                    have HWJ : Hid (wj.heap.size ≤ ws.heap.size) := Nat.le_trans hBz.1.size hk0.size
                    clear hrow hslr hBY B6 hneJ hk0 hrowS hBY2 hBS hi hz0 hz1 hz2 eLL hlm ews hBz hh er
                    go_wp2_with (first | rw [← EWS.out] | (at_builtin; refine wpList_append_list (ec := encS) rfl (.tmp 136) (.tmp 137) 30 rfl ws.heap.size 9 i0 _ 16 Tryz.underlying30 HI.out HZ0.out HZ1.out HZ2.out rfl (by decide) encSlen encSone _ 0 [] rfl HM.out Ar cr LL rfl HSL.out (by have : maxLen = 9223372036854775807 := rfl; omega) (by omega) (by simp) ?_))
                    intro v8 w8 hown8 hgr8 _
                    have hb8 : Below ws.heap.size ws w8 := ((Below.refl _ ws).alloc (Nat.le_refl _) (.cells #[] 9)).grown hgr8 (by simp) (fun j e => (HM.out.lt j e).1)
                    have hr8 : RowT w8 ws.heap.size v8 r := by
                      unfold RowT
                      rw [← ELL.out, ← HLM.out]
                      have e0 : 0 + LL.length = LL.length := Nat.zero_add _
                      first
                        | exact hown8
                        | (rw [e0] at hown8; exact hown8)
                        | simpa using hown8
                    obtain ⟨A8, m8, c8, rfl⟩ := row_is hr8
                    obtain ⟨em8, _, _⟩ := row_sl hr8
                    subst em8
                    have G : Hid (R (.returned (.tuple #[.pointer (some ⟨w3.heap.size, 0, none⟩), .slice A8 r.length c8, .int .i64 0])) w8) := by
                      rw [ER.out]
                      refine ⟨HBS.out.trans (hb8.mono HBS.out.size), .inr ⟨(N, H, L), AT, r, w3.heap.size, .slice Ar r.length cr, A8, c8, OD.out, rfl, HJS.out.below hb8, HB3.out.size, fun k e => ?_, row_base hr8 HBS.out.size, fun k e hf => ?_⟩⟩
                      · have h1 := (World.ownsRow.lt HRS.out k e).1
                        omega
                      · have h1 := (World.ownsRow.lt hr8 k e).1
                        have h2 := HJS.out.lt hf
                        omega
                    clear hown8 hgr8 hb8 hr8
                    go_wp2_with fail
                    first
                      | exact G.out
                      | exact bodyPost_ret (v := .tuple #[.pointer (some ⟨w3.heap.size, 0, none⟩), .slice A8 r.length c8, .int .i64 0]) (by simp [results, Tryz.results9, go_sem]) rfl G.out
              | true =>
                go_wp2_with fail
                refine (K0.out _).mono ?_
                rintro e w' ⟨rfl, rfl⟩
                go_wp2_with fail
                clear K0 K1
                obtain ⟨N, eN⟩ : ∃ N : Nat, N = 0 := ⟨_, rfl⟩
                obtain ⟨H, eH⟩ : ∃ H : Nat, H = 0 := ⟨_, rfl⟩
                obtain ⟨L, eL⟩ : ∃ L : Nat, L = 0 := ⟨_, rfl⟩
                obtain ⟨AT, eAT⟩ : ∃ AT : Nat, AT = 0 := ⟨_, rfl⟩
                obtain ⟨wj, ewj⟩ : ∃ wj, wj = (w3.alloc (.cells #[.pointer (some ⟨b, 0, none⟩), .int .i64 (k : Int), .int .i64 0, .int .i64 0, .int .i64 0, .int .i64 0, .slice none 0 0, .bool false] 73)) := ⟨_, rfl⟩
                have HBJ : Hid (Blk wj w3.heap.size (cellsK (N, H, L) AT k b (.slice none 0 0) false) 73) := by rw [ewj, eN, eH, eL, eAT]; exact HNW.out
                have HBW : Hid (Below w.heap.size w wj) := by rw [ewj]; exact (HB3.out.alloc HB3.out.size _)
                have PV : Hid (presV (sec (eff d) 0) (sec (eff d) 1) (32 * q) = some ((N, H, L), AT)) := by rw [eN, eH, eL, eAT]; exact (PV0.out (by simp))
                rw [← ewj]
                clear eN eH eL eAT ewj
                obtain ⟨hH, hL⟩ := pres_range PV.out
                have hH : H ≤ 1 := hH
                have hL : L ≤ 32 * q := hL
                have hAT : AT ≤ 1 := (pres_at PV.out).elim (fun h => by omega) (fun h => by omega)
                have hN : N ≤ 999999999 := pres_num PV.out
                obtain ⟨M, eM⟩ : ∃ M, M = (L + 31) / 32 := ⟨_, rfl⟩
                have hM : M ≤ q := by omega
                have CO := Lib.hid (fun (w' : World) (hb : Below wj.heap.size wj w') => by
                  have := rcontent_any (HD.out.below (HBW.out.trans (hb.mono HBW.out.size))) HON.out h4 H 0 M hH (by rw [← EQ.out]; omega)
                  rw [← EQ.out, Nat.add_zero, Nat.zero_add] at this
                  exact (this : Calls Tryz.prog 41 #[.pointer (some ⟨b, 0, none⟩), .int .i64 (k : Int), .int .i64 (H : Int), .int .i64 0, .int .i64 (M : Int)] w' _).mono fun e w2 h => (⟨h.1, by rw [← h.2]; exact Below.refl _ _⟩ : e = .returned (.string (tx (((eff d).drop (32 * (2 + H * q))).take (32 * M)))) ∧ Below w'.heap.size w' w2))
                have hHq : H * q ≤ q := by
                  have : H = 0 ∨ H = 1 := by omega
                  rcases this with e | e <;> rw [e] <;> simp
                have hTl : (((eff d).drop (32 * (2 + H * q))).take (32 * M)).length = 32 * M := by rw [List.length_take, List.length_drop, EL.out]; have := HQ.out; omega
                obtain ⟨T, eT⟩ : ∃ T, T = tx (((eff d).drop (32 * (2 + H * q))).take (32 * M)) := ⟨_, rfl⟩
                have hTs : T.size = 32 * M := by rw [eT, tx_size]; exact hTl
                have hcut : (T.extract 0 L).data.toList = half (eff d) q H L := by
                  rw [ext_list, eT]
                  unfold half
                  have : (tx (((eff d).drop (32 * (2 + H * q))).take (32 * M))).data.toList = ((eff d).drop (32 * (2 + H * q))).take (32 * M) := by simp [tx]
                  rw [this, List.drop_zero, Nat.sub_zero, List.take_take, Nat.min_eq_left (by omega)]
                have hUs : (T.extract 0 L).size ≤ 64000 := by rw [ByteArray.size_extract]; omega
                have hLM : (L : Int) ≤ (T.size : Int) := by omega
                have hLM2 : (L : Int) ≤ 32 * (M : Int) := by omega
                have L0 : (0 : Int) ≤ (L : Int) := by omega
                rw [← eT] at CO
                have u1 : IntKind.i64.wrap ((L : Int) + 31) = (L : Int) + 31 := by rw [IntWalk.i64_left, IntWalk.wrap64_in _ ⟨by omega, by omega⟩]
                have u2 : Int.tdiv ((L : Int) + 31) 32 = (M : Int) := by rw [Int.tdiv_eq_ediv_of_nonneg (by omega)]; omega
                have u3 : IntKind.i64.wrap (M : Int) = (M : Int) := by rw [IntWalk.i64_left, IntWalk.wrap64_in _ ⟨by omega, by omega⟩]
                have RC := Lib.hid (fun w' => rrecords_any (T.extract 0 L) w' (by omega))
                rw [hcut] at RC
                have c4 := HBJ.out.cellD 4 _ rfl
                have c5 := HBJ.out.cellD 5 _ rfl
                have HTS := Lib.hid hTs
                clear hTl eT hcut eM
                cases hsp : splitL (half (eff d) q H L) with
                | none =>
                  have OD : Hid (openD k d = (20, none)) := by
                    show _ = _
                    unfold openD
                    rw [if_neg (by rw [HON.out]; decide), if_neg (by omega), ← EQ.out, PV.out]
                    simp only
                    rw [hsp]
                  rw [hsp] at RC
                  have RCN : Hid (∀ w', Calls Tryz.prog 40 #[.string (T.extract 0 L)] w' fun e w2 => e = .returned (.tuple #[.slice none 0 0, .bool false]) ∧ Below w'.heap.size w' w2) := fun w' => (RC.out w').mono fun e w2 h => by
                    obtain ⟨h1, ⟨_, h2⟩ | ⟨p, v, h2, _⟩⟩ := h
                    · exact ⟨h2, h1⟩
                    · cases h2
                  clear hsp RC hTs
                  go_wp2_with fail
                  refine Free.wp_region_free 18 [(8, .det (.string T)), (12, .det (.tuple #[.slice none 0 0, .bool false]))] (fun y => Below wj.heap.size wj y ∧ y.cell? ⟨w3.heap.size, 4, none⟩ = some (.int .i64 (H : Int)) ∧ y.cell? ⟨w3.heap.size, 5, none⟩ = some (.int .i64 (L : Int))) (by kernel_rfl) (by kernel_rfl) (Free.mono_det (fun j mk r hf => by simp only [Free.find] at hf; repeat' (first | cases hf | split at hf))) ⟨(Below.refl _ _).drew, c4, c5⟩ (fun _ _ h g => ⟨h.1.trans (Below.mono g h.1.size), cell_grow' h.2.1 g, cell_grow' h.2.2 g⟩) ?_
                  simp only [List.take_succ_cons, List.take_zero]
                  clear c4 c5
                  iterate 8 (apply Free.chain_still (by first | exact Free.wanted_of rfl rfl rfl | rfl) rfl; (intro w' hB hA; obtain ⟨qB, q4, q5⟩ := hB; clear hA  qB; go_light; go_simp <;> rfl); (try simp only [Act.put, List.setIfInBounds_toArray, List.set_cons_succ, List.set_cons_zero]))
                  apply Free.chain_det (by first | exact Free.wanted_of rfl rfl rfl | rfl) rfl
                  · intro w' hB hA
                    refine Free.opRun_call (f := 41) (args := #[.pointer (some ⟨b, 0, none⟩), .int .i64 (k : Int), .int .i64 (H : Int), .int .i64 0, .int .i64 (M : Int)]) (by clear hB hA; go_simp <;> rfl) ?_
                    refine (CO.out w' hB.1).mono ?_
                    rintro e w3 ⟨rfl, hb3⟩
                    exact ⟨_, rfl, hb3, rfl⟩
                  simp only [Act.put, List.setIfInBounds_toArray, List.set_cons_succ, List.set_cons_zero]
                  iterate 3 (apply Free.chain_still (by first | exact Free.wanted_of rfl rfl rfl | rfl) rfl; (intro w' hB hA; obtain ⟨qB, q4, q5⟩ := hB; clear hA  qB; go_light; go_simp <;> rfl); (try simp only [Act.put, List.setIfInBounds_toArray, List.set_cons_succ, List.set_cons_zero]))
                  apply Free.chain_det (by first | exact Free.wanted_of rfl rfl rfl | rfl) rfl
                  · intro w' hB hA
                    refine Free.opRun_call (f := 40) (args := #[.string (T.extract 0 L)]) (by clear hB hA; go_simp <;> rfl) ?_
                    refine (RCN.out w').mono ?_
                    rintro e w3 ⟨rfl, hb3⟩
                    exact ⟨_, rfl, hb3, rfl⟩
                  simp only [Act.put, List.setIfInBounds_toArray, List.set_cons_succ, List.set_cons_zero]
                  iterate 5 (apply Free.chain_still (by first | exact Free.wanted_of rfl rfl rfl | rfl) rfl; (intro w' hB hA; obtain ⟨qB, q4, q5⟩ := hB; clear hA  qB; go_light; go_simp <;> rfl); (try simp only [Act.put, List.setIfInBounds_toArray, List.set_cons_succ, List.set_cons_zero]))
                  apply Free.chain_nil
                  intro wy hBz _ _
                  simp only [List.drop_succ_cons, List.drop_zero]
                  have G := Lib.hid (FB.out 20 wy OD.out (HBW.out.trans (hBz.1.mono HBW.out.size)))
                  clear hBz
                  go_wp2_with fail
                  first
                    | exact G.out
                    | exact bodyPost_ret (v := .tuple #[.pointer none, .slice none 0 0, .int .i64 20]) (by simp [results, Tryz.results9, go_sem]) rfl G.out
                | some r =>
                  have OD : Hid (openD k d = (0, some ((N, H, L), AT, r))) := by
                    show _ = _
                    unfold openD
                    rw [if_neg (by rw [HON.out]; decide), if_neg (by omega), ← EQ.out, PV.out]
                    simp only
                    rw [hsp]
                  have hfew : r.length ≤ 1000000 := by
                    have hf := (found_open OD.out).2.2.2
                    have h1 := (found_len EL.out hf).1
                    have h3 := roomL_ge r
                    have h1 : L = roomL r := h1
                    omega
                  rw [hsp] at RC
                  have RCS : Hid (∀ w', Calls Tryz.prog 40 #[.string (T.extract 0 L)] w' fun e w2 => ∃ z, e = .returned (.tuple #[mkS r.length z, .bool true]) ∧ RowT w2 w'.heap.size (mkS r.length z) r ∧ Below w'.heap.size w' w2) := fun w' => (RC.out w').mono fun e w2 h => by
                    obtain ⟨h1, ⟨h2, _⟩ | ⟨p, v, h2, h3, h4⟩⟩ := h
                    · cases h2
                    · have h2 : r = bys p := by injection h2
                      have hr : RowT w2 w'.heap.size v r := by
                        unfold RowT
                        have e1 : (bys p).map tx = p := by
                          unfold bys
                          rw [List.map_map]
                          exact (List.map_congr_left (fun x _ => tx_of x)).trans (List.map_id p)
                        have e2 : (bys p).length = p.length := by unfold bys; simp
                        rw [h2, e1, e2]; exact h4
                      obtain ⟨z, hz⟩ := mkS_of hr
                      rw [hz] at hr h3
                      exact ⟨z, h3, hr, h1⟩
                  clear hsp RC hTs
                  go_wp2_with fail
                  refine Free.wp_region_free 18 [(8, .det (.string T)), (12, .ind (fun z => .tuple #[mkS r.length z, .bool true]) (fun z w2 => RowT w2 wj.heap.size (mkS r.length z) r))] (fun y => Below wj.heap.size wj y ∧ y.cell? ⟨w3.heap.size, 4, none⟩ = some (.int .i64 (H : Int)) ∧ y.cell? ⟨w3.heap.size, 5, none⟩ = some (.int .i64 (L : Int))) (by kernel_rfl) (by kernel_rfl) ?_ ⟨(Below.refl _ _).drew, c4, c5⟩ (fun _ _ h g => ⟨h.1.trans (Below.mono g h.1.size), cell_grow' h.2.1 g, cell_grow' h.2.2 g⟩) ?_
                  · intro j mk rr hf y w1 w2 hr gr
                    simp only [Free.find] at hf
                    split at hf
                    · cases hf
                    · split at hf
                      · cases hf; exact rowB hr gr
                      · cases hf
                  simp only [List.take_succ_cons, List.take_zero]
                  clear c4 c5
                  iterate 8 (apply Free.chain_still (by first | exact Free.wanted_of rfl rfl rfl | rfl) rfl; (intro w' hB hA; obtain ⟨qB, q4, q5⟩ := hB; clear hA  qB; go_light; go_simp <;> rfl); (try simp only [Act.put, List.setIfInBounds_toArray, List.set_cons_succ, List.set_cons_zero]))
                  apply Free.chain_det (by first | exact Free.wanted_of rfl rfl rfl | rfl) rfl
                  · intro w' hB hA
                    refine Free.opRun_call (f := 41) (args := #[.pointer (some ⟨b, 0, none⟩), .int .i64 (k : Int), .int .i64 (H : Int), .int .i64 0, .int .i64 (M : Int)]) (by clear hB hA; go_simp <;> rfl) ?_
                    refine (CO.out w' hB.1).mono ?_
                    rintro e w3 ⟨rfl, hb3⟩
                    exact ⟨_, rfl, hb3, rfl⟩
                  simp only [Act.put, List.setIfInBounds_toArray, List.set_cons_succ, List.set_cons_zero]
                  iterate 3 (apply Free.chain_still (by first | exact Free.wanted_of rfl rfl rfl | rfl) rfl; (intro w' hB hA; obtain ⟨qB, q4, q5⟩ := hB; clear hA  qB; go_light; go_simp <;> rfl); (try simp only [Act.put, List.setIfInBounds_toArray, List.set_cons_succ, List.set_cons_zero]))
                  apply Free.chain_ind (by first | exact Free.wanted_of rfl rfl rfl | rfl) rfl
                  · intro w' hB hA
                    refine Free.opRun_call (f := 40) (args := #[.string (T.extract 0 L)]) (by clear hB hA; go_simp <;> rfl) ?_
                    refine (RCS.out w').mono ?_
                    rintro e w3 ⟨z, rfl, hrow, hb3⟩
                    exact ⟨_, rfl, hb3, z, rfl, row_base hrow hB.1.size⟩
                  intro z
                  simp only [Act.put, List.setIfInBounds_toArray, List.set_cons_succ, List.set_cons_zero]
                  iterate 5 (apply Free.chain_still (by first | exact Free.wanted_of rfl rfl rfl | rfl) rfl; (intro w' hB hA; obtain ⟨qB, q4, q5⟩ := hB; clear hA  qB; go_light; go_simp <;> rfl); (try simp only [Act.put, List.setIfInBounds_toArray, List.set_cons_succ, List.set_cons_zero]))
                  apply Free.chain_nil
                  intro wy hBz _ hh
                  have hrow : RowT wy wj.heap.size (mkS r.length z) r := hh _ List.mem_cons_self
                  simp only [List.drop_succ_cons, List.drop_zero]
                  obtain ⟨Ar, mr, cr, er⟩ := row_is hrow
                  rw [er] at hrow ⊢
                  obtain ⟨emr, hslr, _⟩ := row_sl hrow
                  subst emr
                  have hBY := HBJ.out.below hBz.1 HBJ.out.lt
                  have c6 := hBY.cellD 6 _ rfl
                  have f6 := hBY.frozen 6
                  have B6 := hBY.set 6 (.slice Ar r.length cr)
                  have hneJ : (Value.slice Ar r.length cr).ownBlock ≠ some w3.heap.size := fun e => by have h1 := (World.ownsRow.lt hrow _ e).1; have h2 := HBJ.out.lt; omega
                  have hk0 : Keep (fun k => k = w3.heap.size) wy (wy.setCell ⟨w3.heap.size, 6, none⟩ (.slice Ar r.length cr)) := (Keep.refl (fun k => k = w3.heap.size) wy).setCell (p := ⟨w3.heap.size, 6, none⟩) (fun _ => rfl) _
                  obtain ⟨ws, ews⟩ : ∃ ws, ws = wy.setCell ⟨w3.heap.size, 6, none⟩ (.slice Ar r.length cr) := ⟨_, rfl⟩
                  rw [← ews] at B6 hk0
                  have hrowS : RowT ws wj.heap.size (.slice Ar r.length cr) r := hrow.keep fun k e => hk0.block k (World.ownsRow.lt hrow k e).2 (fun e' => hneJ (by rw [← e']; exact e))
                  have hBY2 : Below w.heap.size w wy := HBW.out.trans (hBz.1.mono HBW.out.size)
                  have hBS : Below w.heap.size w ws := hBY2.trans (hk0.below (fun k e => by rw [e]; exact HB3.out.size) hBY2.size)
                  have HJS : Hid (RJAt ws w3.heap.size b bs cp pv (.slice Ar r.length cr) k ⟨d, (N, H, L), AT, r, false⟩) :=
                    ⟨h4, HD.out.below hBS, B6, row_base hrowS (Nat.zero_le _), (fun e => by have h1 := (World.ownsRow.lt hrow _ e).1; have h2 := HD.out.lt (k := bs) (.inr (.inl rfl)); have h3 := HBW.out.size; omega), hN, hH, by rw [← EQ.out]; exact hL, hAT⟩
                  have HBS := Lib.hid hBS
                  have HRS := Lib.hid hrowS
                  obtain ⟨i0, hi, hz0, hz1, hz2⟩ := info_parts infoStr
                  have HM : Hid ((ws.alloc (.cells #[] 9)).ownsRow ws.heap.size 9 1 (.slice (some ⟨ws.heap.size, 0, none⟩) 0 0) 0 []) := World.ownsRow_made ws #[] 0 (Nat.le_refl _) (by decide) rfl
                  have hlm : (r.map tx).length = r.length := by simp
                  obtain ⟨LL, eLL⟩ : ∃ LL, LL = r.map tx := ⟨_, rfl⟩
                  have HSL : Hid (SL (ws.alloc (.cells #[] 9)) 1 encS Ar LL) := by rw [eLL]; exact (row_sl hrowS).2.1.below ((Below.refl _ ws).alloc (Nat.le_refl _) _) (Nat.le_refl _)
                  rw [← eLL] at hlm
                  rw [← hlm]
                  rw [← hlm] at ews
                  have hL6 : LL.length ≤ 1000000 := by omega
                  have HI := Lib.hid hi
                  have HZ0 := Lib.hid hz0
                  have HZ1 := Lib.hid hz1
                  have HZ2 := Lib.hid hz2
                  have ELL := Lib.hid eLL
                  have HLM := Lib.hid hlm
                  have EWS := Lib.hid ews
                  have hwjs : w.heap.size ≤ wj.heap.size := HBW.out.size
                  have HWJ : Hid (wj.heap.size ≤ ws.heap.size) := Nat.le_trans hBz.1.size hk0.size
                  clear hrow hslr hBY B6 hneJ hk0 hrowS hBY2 hBS hi hz0 hz1 hz2 eLL hlm ews hBz hh er
                  go_wp2_with (first | rw [← EWS.out] | (at_builtin; refine wpList_append_list (ec := encS) rfl (.tmp 136) (.tmp 137) 30 rfl ws.heap.size 9 i0 _ 16 Tryz.underlying30 HI.out HZ0.out HZ1.out HZ2.out rfl (by decide) encSlen encSone _ 0 [] rfl HM.out Ar cr LL rfl HSL.out (by have : maxLen = 9223372036854775807 := rfl; omega) (by omega) (by simp) ?_))
                  intro v8 w8 hown8 hgr8 _
                  have hb8 : Below ws.heap.size ws w8 := ((Below.refl _ ws).alloc (Nat.le_refl _) (.cells #[] 9)).grown hgr8 (by simp) (fun j e => (HM.out.lt j e).1)
                  have hr8 : RowT w8 ws.heap.size v8 r := by
                    unfold RowT
                    rw [← ELL.out, ← HLM.out]
                    have e0 : 0 + LL.length = LL.length := Nat.zero_add _
                    first
                      | exact hown8
                      | (rw [e0] at hown8; exact hown8)
                      | simpa using hown8
                  obtain ⟨A8, m8, c8, rfl⟩ := row_is hr8
                  obtain ⟨em8, _, _⟩ := row_sl hr8
                  subst em8
                  have G : Hid (R (.returned (.tuple #[.pointer (some ⟨w3.heap.size, 0, none⟩), .slice A8 r.length c8, .int .i64 0])) w8) := by
                    rw [ER.out]
                    refine ⟨HBS.out.trans (hb8.mono HBS.out.size), .inr ⟨(N, H, L), AT, r, w3.heap.size, .slice Ar r.length cr, A8, c8, OD.out, rfl, HJS.out.below hb8, HB3.out.size, fun k e => ?_, row_base hr8 HBS.out.size, fun k e hf => ?_⟩⟩
                    · have h1 := (World.ownsRow.lt HRS.out k e).1
                      omega
                    · have h1 := (World.ownsRow.lt hr8 k e).1
                      have h2 := HJS.out.lt hf
                      omega
                  clear hown8 hgr8 hb8 hr8
                  go_wp2_with fail
                  first
                    | exact G.out
                    | exact bodyPost_ret (v := .tuple #[.pointer (some ⟨w3.heap.size, 0, none⟩), .slice A8 r.length c8, .int .i64 0]) (by simp [results, Tryz.results9, go_sem]) rfl G.out
end Go.Proofs.YthfjaaigncjhlaaGreatDoor

namespace Go.Proofs.YthfjaaigncjhlaaGreatDoor
open Go.RowKit Go.Blk Go.Jn Go.Dk Go.Mp Go.Rf Go.Shelf Go.Apl Go.Opn

structure RM (we w : World) (b n : Nat) (d : DD) (o : Option JS) (p : Option Addr) (F : Nat → Prop) : Prop where
  f : ∀ k, F k → we.heap.size ≤ k ∧ k < w.heap.size
  body : (o = none ∧ p = none ∧ ∃ bs cp pv, RDAt w b bs cp pv d n ∧ ∀ k, RFp b bs pv k → F k) ∨
    ∃ s rb bs cp pv rv, o = some s ∧ s.d = d ∧ p = some ⟨rb, 0, none⟩ ∧ RJAt w rb b bs cp pv rv n s ∧ ∀ k, RJFp rb b bs pv rv k → F k
def RMPost (we w : World) (b n : Nat) (F : Nat → Prop) (v : Value) (d : DD) (o : Option JS) (p : Option Addr) (e : Ending) (w' : World) : Prop :=
  e = .returned v ∧ ∃ F' : Nat → Prop, RM we w' b n d o p F' ∧ Keep F w w' ∧ (∀ k, F' k → F k ∨ w.heap.size ≤ k)
section
variable {we w w' : World} {b n : Nat} {d : DD} {o : Option JS} {p : Option Addr} {F : Nat → Prop}
theorem RM.keep {G : Nat → Prop} (h : RM we w b n d o p F) (hk : Keep G w w') (hG : ∀ k, F k → ¬ G k) : RM we w' b n d o p F := by
  refine ⟨fun k hf => ⟨(h.f k hf).1, Nat.lt_of_lt_of_le (h.f k hf).2 hk.size⟩, ?_⟩
  rcases h.body with ⟨h1, h2, bs, cp, pv, h3, h4⟩ | ⟨s, rb, bs, cp, pv, rv, h1, h2, h3, h4, h5⟩
  · exact .inl ⟨h1, h2, bs, cp, pv, h3.keep hk (fun k hf => hG k (h4 k hf)), h4⟩
  · exact .inr ⟨s, rb, bs, cp, pv, rv, h1, h2, h3, h4.keep hk (fun k hf => hG k (h5 k hf)), h5⟩
theorem RM.below (h : RM we w b n d o p F) (hb : Below w.heap.size w w') : RM we w' b n d o p F := h.keep (G := fun _ => False) (Keep.of_below hb) (fun _ _ f => f)
theorem RM.isnil (h : RM we w b n d o p F) : (p == none) = o.isNone ∧ (o = none ↔ p = none) := by
  rcases h.body with ⟨rfl, rfl, _⟩ | ⟨s, rb, bs, cp, pv, rv, rfl, _, rfl, _⟩
  · exact ⟨rfl, by simp⟩
  · exact ⟨rfl, by simp⟩
theorem RM.disk (h : RM we w b n d o p F) (hs : we.heap.size ≤ w.heap.size) {fn : Nat} {args : Array Value} {v : Value} {d' : DD} (hc : ∀ bs cp pv, RDAt w b bs cp pv d n → Calls Tryz.prog fn args w (RkPost w b bs cp n pv d' v)) :
    Calls Tryz.prog fn args w (RMPost we w b n F v d' (toO o d') p) := by
  rcases h.body with ⟨rfl, rfl, bs, cp, pv, h3, h4⟩ | ⟨s, rb, bs, cp, pv, rv, rfl, h2, rfl, h4, h5⟩
  · refine (hc bs cp pv h3).mono ?_
    rintro e w' ⟨he, pv', k1, k2, k4⟩
    refine ⟨he, Fx F w w', ⟨Fx.f h.f hs k2.size, .inl ⟨rfl, rfl, bs, cp, pv', k1, ?_⟩⟩, k2.mono (fun k _ f => h4 k f), Fx.or⟩
    rintro k (rfl | rfl | e)
    · exact .inl (h4 _ (.inl rfl))
    · exact .inl (h4 _ (.inr (.inl rfl)))
    · rcases k4 k e with h | h
      · exact .inl (h4 k (.inr (.inr h)))
      · exact .inr ⟨h, k1.lt (.inr (.inr e))⟩
  · have hd := h4.disk
    rw [h2] at hd
    refine (hc bs cp pv hd).mono ?_
    rintro e w' ⟨he, pv', k1, k2, k4⟩
    have hj : RJAt w' rb b bs cp pv' rv n { s with d := d' } := ⟨h4.n4, k1, h4.blk.keepB (k2.block rb h4.blk.lt (rnotFp h4.disk h4.blk (by decide) (by decide) (by decide))),
      h4.row.keep (fun k e => k2.block k (World.ownsRow.lt h4.row k e).2 (h4.rowne.2 k e)), h4.ne, h4.num, h4.hf, h4.len, h4.at_⟩
    refine ⟨he, Fx F w w', ⟨Fx.f h.f hs k2.size, .inr ⟨{ s with d := d' }, rb, bs, cp, pv', rv, rfl, rfl, rfl, hj, ?_⟩⟩, k2.mono (fun k _ f => h5 k (.inr (.inr f))), Fx.or⟩
    rintro k (rfl | e | rfl | rfl | e)
    · exact .inl (h5 _ (.inl rfl))
    · exact .inl (h5 _ (.inr (.inl e)))
    · exact .inl (h5 _ (.inr (.inr (.inl rfl))))
    · exact .inl (h5 _ (.inr (.inr (.inr (.inl rfl)))))
    · rcases k4 k e with h | h
      · exact .inl (h5 k (.inr (.inr (.inr (.inr h)))))
      · exact .inr ⟨h, k1.lt (.inr (.inr e))⟩
theorem RM.post (h : RM we w b n d o p F) (hs : we.heap.size ≤ w.heap.size) {rb bs cp : Nat} {pv rv : Value} {r : JS × Int} {e : Ending} (hf : ∀ k, RJFp rb b bs pv rv k → F k)
    (q : RJPost w rb b bs cp n pv rv r e w') : RMPost we w b n F (.int .i64 r.2) r.1.d (some r.1) (some ⟨rb, 0, none⟩) e w' := by
  obtain ⟨h1, pv', rv', h2, h3, h5, h6⟩ := q
  refine ⟨h1, Fx F w w', ⟨Fx.f h.f hs h3.size, .inr ⟨r.1, rb, bs, cp, pv', rv', rfl, rfl, rfl, h2, ?_⟩⟩, h3.mono (fun k _ f => f.elim (fun e => hf k (.inl e)) (fun f => hf k (.inr (.inr f)))), Fx.or⟩
  rintro k (rfl | e | rfl | rfl | e)
  · exact .inl (hf _ (.inl rfl))
  · rcases h6 k e with h | h
    · exact .inl (hf k (.inr (.inl h)))
    · exact .inr ⟨h, h2.lt (.inr (.inl e))⟩
  · exact .inl (hf _ (.inr (.inr (.inl rfl))))
  · exact .inl (hf _ (.inr (.inr (.inr (.inl rfl)))))
  · rcases h5 k e with h | h
    · exact .inl (hf k (.inr (.inr (.inr (.inr h)))))
    · exact .inr ⟨h, h2.lt (.inr (.inr (.inr (.inr e))))⟩
theorem RM.app (h : RM we w b n d o p F) (hi : Inv n d o) (hb : Below we.heap.size we w) (t : ByteArray) (ht : t.size ≤ 9223372036854775807) :
    Calls Tryz.prog 14 #[.pointer p, .string t] w (RMPost we w b n F (.int .i64 (apO n d o t.data.toList).2.2) (apO n d o t.data.toList).1 (apO n d o t.data.toList).2.1 p) := by
  have hs := hb.size
  rcases h.body with ⟨rfl, rfl, bs, cp, pv, h3, h4⟩ | ⟨s, rb, bs, cp, pv, rv, rfl, h2, rfl, h4, h5⟩
  · refine (rapp_nil t w).mono ?_
    rintro e w' ⟨rfl, rfl⟩
    exact ⟨rfl, F, h, Keep.refl _ _, fun k hk => .inl hk⟩
  · obtain ⟨hd, _, hf, hr⟩ := hi.js s rfl
    have hfew := hi.few
    refine (rapp_any t h4 (fun hbr => by rw [hd]; exact (hf hbr).1) (by rw [hd, hi.pend]; decide) (by have : s.recs.length ≤ 16000 := hfew; omega) ht).mono ?_
    intro e w' q
    exact h.post hs h5 q
theorem RM.cmp (h : RM we w b n d o p F) (hi : Inv n d o) (hb : Below we.heap.size we w) {A : Option Addr} {c : Nat} (l : List ByteArray) (hS : SL we 1 encS A l) (hl : l.length ≤ 100000) :
    Calls Tryz.prog 16 #[.pointer p, .slice A l.length c] w (RMPost we w b n F (.int .i64 (cmO n d o (recsOf l)).2.2) (cmO n d o (recsOf l)).1 (cmO n d o (recsOf l)).2.1 p) := by
  have hs := hb.size
  rcases h.body with ⟨rfl, rfl, bs, cp, pv, h3, h4⟩ | ⟨s, rb, bs, cp, pv, rv, rfl, h2, rfl, h4, h5⟩
  · refine (rcmp_nil _ w).mono ?_
    rintro e w' ⟨rfl, rfl⟩
    exact ⟨rfl, F, h, Keep.refl _ _, fun k hk => .inl hk⟩
  · obtain ⟨hd, _, hf, hr⟩ := hi.js s rfl
    refine (rcmp_any (c := c) l h4 (fun hbr => by rw [hd]; exact (hf hbr).1) (by rw [hd, hi.pend]; decide) (hS.below hb (Nat.le_refl _)) (fun w' hk => hS.below (hb.trans (hk.below (fun k hk => hk.elim (fun e => (h.f k (h5 k (.inl e))).1) (fun f => (h.f k (h5 k (.inr (.inr f)))).1)) hs)) (Nat.le_refl _)) hl).mono ?_
    intro e w' q
    exact h.post hs h5 q
theorem RM.recs (h : RM we w b n d o p F) (hi : Inv n d o) : Calls Tryz.prog 12 #[.pointer p] w fun e w' => ∃ A c, e = .returned (.slice A (recO o).length c) ∧ RowT w' w.heap.size (.slice A (recO o).length c) (recO o) ∧ Below w.heap.size w w' := by
  have hfew := hi.few
  rcases h.body with ⟨rfl, rfl, bs, cp, pv, h3, h4⟩ | ⟨s, rb, bs, cp, pv, rv, rfl, h2, rfl, h4, h5⟩
  · refine (rrecs_nil w).mono ?_
    rintro e w' ⟨rfl, rfl⟩
    exact ⟨none, 0, rfl, World.ownsRow_nil _ _ _ _, Below.refl _ _⟩
  · exact rrecs_any h4 (by have : s.recs.length ≤ 16000 := hfew; omega)
theorem RM.opn (h : RM we w b n d o p F) (hb : Below we.heap.size we w) : Calls Tryz.prog 9 #[.pointer (some ⟨b, 0, none⟩)] w fun e w' => ∃ (p' : Option Addr) (A : Option Addr) (c : Nat) (F' : Nat → Prop), e = .returned (.tuple #[.pointer p', .slice A (opO n d).2.2.length c, .int .i64 (opO n d).2.1]) ∧
    RM we w' b n d (opO n d).1 p' F' ∧ RowT w' w.heap.size (.slice A (opO n d).2.2.length c) (opO n d).2.2 ∧ Below w.heap.size w w' ∧ (∀ k, F' k → F k ∨ w.heap.size ≤ k) ∧ (∀ k, (Value.slice A (opO n d).2.2.length c).ownBlock = some k → ¬ F' k) := by
  have hs := hb.size
  have key : ∀ bs cp pv, RDAt w b bs cp pv d n → (∀ k, RFp b bs pv k → F k) → Calls Tryz.prog 9 #[.pointer (some ⟨b, 0, none⟩)] w fun e w' => ∃ (p' : Option Addr) (A : Option Addr) (c : Nat) (F' : Nat → Prop), e = .returned (.tuple #[.pointer p', .slice A (opO n d).2.2.length c, .int .i64 (opO n d).2.1]) ∧
      RM we w' b n d (opO n d).1 p' F' ∧ RowT w' w.heap.size (.slice A (opO n d).2.2.length c) (opO n d).2.2 ∧ Below w.heap.size w w' ∧ (∀ k, F' k → F k ∨ w.heap.size ≤ k) ∧ (∀ k, (Value.slice A (opO n d).2.2.length c).ownBlock = some k → ¬ F' k) := fun bs cp pv hd hf => by
    refine (ropen_any hd).mono ?_
    rintro e w' ⟨h1, ⟨h2, rfl⟩ | ⟨v, a, r, jb, rv, A, c, h2, rfl, h3, h4, h5, h6, h7⟩⟩
    · have e1 : opO n d = (none, (openD n d).1, []) := by
        unfold opO
        split
        · rename_i c ho; rw [ho]
        · rename_i ho; rw [ho] at h2; cases h2
      rw [e1]
      exact ⟨none, none, 0, F, rfl, ⟨fun k hk => ⟨(h.f k hk).1, Nat.lt_of_lt_of_le (h.f k hk).2 h1.size⟩, .inl ⟨rfl, rfl, bs, cp, pv, hd.below h1, hf⟩⟩, World.ownsRow_nil _ _ _ _, h1, fun k hk => .inl hk, fun k hk => by cases hk⟩
    · have e1 : opO n d = (some ⟨d, v, a, r, false⟩, 0, r) := by unfold opO; rw [h2]
      rw [e1]
      refine ⟨some ⟨jb, 0, none⟩, A, c, fun k => F k ∨ (RJFp jb b bs pv rv k ∧ w.heap.size ≤ k), rfl, ⟨?_, .inr ⟨_, jb, bs, cp, pv, rv, rfl, rfl, rfl, h3, ?_⟩⟩, h6, h1, ?_, ?_⟩
      · rintro k (hk | ⟨hk, hk2⟩)
        · exact ⟨(h.f k hk).1, Nat.lt_of_lt_of_le (h.f k hk).2 h1.size⟩
        · exact ⟨by omega, h3.lt hk⟩
      · intro k hk
        rcases hk with e | e | e
        · exact .inr ⟨.inl e, by omega⟩
        · exact .inr ⟨.inr (.inl e), h5 k e⟩
        · exact .inl (hf k e)
      · rintro k (hk | ⟨_, hk⟩)
        · exact .inl hk
        · exact .inr hk
      · rintro k hk (hf' | ⟨hf', _⟩)
        · have := (World.ownsRow.lt h6 k hk).1
          have := (h.f k hf').2
          omega
        · exact h7 k hk hf'
  rcases h.body with ⟨rfl, rfl, bs, cp, pv, h3, h4⟩ | ⟨s, rb, bs, cp, pv, rv, rfl, h2, rfl, h4, h5⟩
  · exact key bs cp pv h3 h4
  · have hd := h4.disk
    rw [h2] at hd
    exact key bs cp pv hd (fun k hk => h5 k (.inr (.inr hk)))
end
end Go.Proofs.YthfjaaigncjhlaaGreatDoor

namespace Go.Proofs.YthfjaaigncjhlaaGreatDoor
open Go.RowKit Go.Blk Go.Jn Go.Dk Go.Mp Go.Rf Go.Shelf Go.Apl Go.Opn

structure Tri (we w : World) (b bs rb n : Nat) (d1 d2 : DD) (o1 o2 : Option JS) (p q : Option Addr) (F G : Nat → Prop) (B : List (Nat × List Value)) : Prop where
  below : Below we.heap.size we w
  i : IM we w b bs n d1 o1 p F
  r : RM we w rb n d2 o2 q G
  dj : ∀ k, F k → ¬ G k
  ob : ∀ x ∈ B, Blk w x.1 x.2 40 ∧ ¬ F x.1 ∧ ¬ G x.1
section
variable {we w w' : World} {b bs rb n : Nat} {d1 d2 d' : DD} {o1 o2 o' : Option JS} {p q p' : Option Addr} {F G : Nat → Prop} {B : List (Nat × List Value)} {v : Value} {e : Ending}
theorem Tri.grow (h : Tri we w b bs rb n d1 d2 o1 o2 p q F G B) (hb : Below w.heap.size w w') : Tri we w' b bs rb n d1 d2 o1 o2 p q F G B :=
  ⟨h.below.trans (hb.mono h.below.size), h.i.below hb, h.r.below hb, h.dj, fun x hx => ⟨(h.ob x hx).1.below hb (h.ob x hx).1.lt, (h.ob x hx).2⟩⟩
theorem Tri.stepI (h : Tri we w b bs rb n d1 d2 o1 o2 p q F G B) (P : IMPost we w b bs n F v d' o' p' e w') : e = .returned v ∧ ∃ F', Tri we w' b bs rb n d' d2 o' o2 p' q F' G B := by
  obtain ⟨he, F', hi, hk, hf⟩ := P
  refine ⟨he, F', h.below.trans (hk.below (fun k hf => (h.i.f k hf).1) h.below.size), hi, h.r.keep hk (fun k hg hf => h.dj k hf hg), fun k hk' hg => ?_, fun x hx => ?_⟩
  · rcases hf k hk' with h1 | h1
    · exact h.dj k h1 hg
    · have := (h.r.f k hg).2; omega
  · obtain ⟨a1, a2, a3⟩ := h.ob x hx
    refine ⟨a1.keepB (hk.block _ a1.lt a2), fun hfx => ?_, a3⟩
    rcases hf _ hfx with h1 | h1
    · exact a2 h1
    · have := a1.lt; omega
theorem Tri.stepR (h : Tri we w b bs rb n d1 d2 o1 o2 p q F G B) (P : RMPost we w rb n G v d' o' p' e w') : e = .returned v ∧ ∃ G', Tri we w' b bs rb n d1 d' o1 o' p p' F G' B := by
  obtain ⟨he, G', hi, hk, hf⟩ := P
  refine ⟨he, G', h.below.trans (hk.below (fun k hf => (h.r.f k hf).1) h.below.size), h.i.keep hk (fun k hf hg => h.dj k hf hg), hi, fun k hfk hg' => ?_, fun x hx => ?_⟩
  · rcases hf k hg' with h1 | h1
    · exact h.dj k hfk h1
    · have := (h.i.f k hfk).2; omega
  · obtain ⟨a1, a2, a3⟩ := h.ob x hx
    refine ⟨a1.keepB (hk.block _ a1.lt a3), a2, fun hgx => ?_⟩
    rcases hf _ hgx with h1 | h1
    · exact a3 h1
    · have := a1.lt; omega
theorem Tri.opnI (h : Tri we w b bs rb n d1 d2 o1 o2 p q F G B) : Calls Tryz.prog 8 #[.pointer (some ⟨b, 0, none⟩)] w fun e w' => ∃ (p' : Option Addr) (A : Option Addr) (c : Nat) (F' : Nat → Prop), e = .returned (.tuple #[.pointer p', .slice A (opO n d1).2.2.length c, .int .i64 (opO n d1).2.1]) ∧
    Tri we w' b bs rb n d1 d2 (opO n d1).1 o2 p' q F' G B ∧ RowT w' w.heap.size (.slice A (opO n d1).2.2.length c) (opO n d1).2.2 ∧ (∀ k, (Value.slice A (opO n d1).2.2.length c).ownBlock = some k → ¬ F' k ∧ ¬ G k) ∧ Below w.heap.size w w' := by
  refine (h.i.opn h.below).mono ?_
  rintro e w' ⟨p', A, c, F', rfl, h1, h2, h3, h4, h5⟩
  refine ⟨p', A, c, F', rfl, ⟨h.below.trans (h3.mono h.below.size), h1, h.r.below h3, fun k hk hg => ?_, fun x hx => ?_⟩, h2, fun k hk => ⟨h5 k hk, fun hg => ?_⟩, h3⟩
  · rcases h4 k hk with h6 | h6
    · exact h.dj k h6 hg
    · have := (h.r.f k hg).2; omega
  · obtain ⟨a1, a2, a3⟩ := h.ob x hx
    refine ⟨a1.below h3 a1.lt, fun hfx => ?_, a3⟩
    rcases h4 _ hfx with h6 | h6
    · exact a2 h6
    · have := a1.lt; omega
  · have := (World.ownsRow.lt h2 k hk).1
    have := (h.r.f k hg).2
    omega
theorem Tri.opnR (h : Tri we w b bs rb n d1 d2 o1 o2 p q F G B) : Calls Tryz.prog 9 #[.pointer (some ⟨rb, 0, none⟩)] w fun e w' => ∃ (p' : Option Addr) (A : Option Addr) (c : Nat) (G' : Nat → Prop), e = .returned (.tuple #[.pointer p', .slice A (opO n d2).2.2.length c, .int .i64 (opO n d2).2.1]) ∧
    Tri we w' b bs rb n d1 d2 o1 (opO n d2).1 p p' F G' B ∧ RowT w' w.heap.size (.slice A (opO n d2).2.2.length c) (opO n d2).2.2 ∧ Below w.heap.size w w' := by
  refine (h.r.opn h.below).mono ?_
  rintro e w' ⟨p', A, c, G', rfl, h1, h2, h3, h4, h5⟩
  refine ⟨p', A, c, G', rfl, ⟨h.below.trans (h3.mono h.below.size), h.i.below h3, h1, fun k hf hk => ?_, fun x hx => ?_⟩, h2, h3⟩
  · rcases h4 k hk with h6 | h6
    · exact h.dj k hf h6
    · have := (h.i.f k hf).2; omega
  · obtain ⟨a1, a2, a3⟩ := h.ob x hx
    refine ⟨a1.below h3 a1.lt, a2, fun hgx => ?_⟩
    rcases h4 _ hgx with h6 | h6
    · exact a3 h6
    · have := a1.lt; omega
theorem IM.read (h : IM we w b bs n d1 o1 p F) (s : Int) : Calls Tryz.prog 28 #[.pointer (some ⟨b, 0, none⟩), .int .i64 s] w fun e w' => e = .returned (.tuple #[.string ⟨(DD.read n d1 s).1.toArray⟩, .int .i64 (DD.read n d1 s).2]) ∧ w = w' := by
  rcases h.body with ⟨rfl, rfl, bm, pv, h3, h4⟩ | ⟨s0, jb, bm, pv, rv, rfl, h2, rfl, h4, h5⟩
  · exact read_any h3 s
  · have hd := h4.disk
    rw [h2] at hd
    exact read_any hd s
theorem RM.read (h : RM we w rb n d1 o1 p F) (s : Int) : Calls Tryz.prog 29 #[.pointer (some ⟨rb, 0, none⟩), .int .i64 s] w fun e w' => e = .returned (.tuple #[.string ⟨(DD.read n d1 s).1.toArray⟩, .int .i64 (DD.read n d1 s).2]) ∧ w = w' := by
  rcases h.body with ⟨rfl, rfl, bs, cp, pv, h3, h4⟩ | ⟨s0, jb, bs, cp, pv, rv, rfl, h2, rfl, h4, h5⟩
  · exact rread_any h3 s
  · have hd := h4.disk
    rw [h2] at hd
    exact rread_any hd s
/-- The stages of two calls, the first on the one side, the second on the other. -/
def Stg (we : World) (b bs rb n : Nat) (d d' : DD) (o o' : Option JS) (p q : Option Addr) (OB : Nat) (cs : List Value) (s : Nat) (w : World) : Prop :=
  ∃ F G, Tri we w b bs rb n (if s = 0 then d else d') (if s ≤ 1 then d else d') (if s = 0 then o else o') (if s ≤ 1 then o else o') p q F G [(OB, cs)]
theorem Stg.ob {d d' : DD} {o o' : Option JS} {OB : Nat} {cs : List Value} {s : Nat} (h : Stg we b bs rb n d d' o o' p q OB cs s w) : Blk w OB cs 40 := by
  obtain ⟨F, G, h⟩ := h
  exact (h.ob (OB, cs) (by simp)).1
end
end Go.Proofs.YthfjaaigncjhlaaGreatDoor
