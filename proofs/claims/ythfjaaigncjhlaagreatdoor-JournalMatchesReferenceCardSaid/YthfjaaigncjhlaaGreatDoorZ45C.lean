/- A journal behind a base world, with a row of the caller beside it. No condition. Law 45's play. Condition: every state met can be walked. The fixed examples of law 45's head, plain. No condition. Law 45's head: a new disk opened; the fixed examples. Condition: the variable of strconv holds its numbers. A journal on an unarmed disk, plain: what each operation leaves. No condition. Play on an unarmed journal, plain; New of a size that does not fit. No condition. Law 45: JournalDurable. Condition: the arguments are readable; the variable of strconv holds its numbers. -/
import Derived.Test.YthfjaaigncjhlaaGreatDoorZ45B
import Derived.Test.YthfjaaigncjhlaaGreatDoorJnV
import Derived.Test.YthfjaaigncjhlaaGreatDoorJnU
namespace Go.Proofs.YthfjaaigncjhlaaGreatDoor
open Go.RowKit Go.Blk Go.Jn Go.Dk Go.Mp Go.Rf Go.Shelf Go.Apl Go.Opn

/-- A journal whose blocks are all younger than a base world, which stands. -/
structure PI (we w : World) (jb b bs bm n : Nat) (pv rv : Value) (s : JS) : Prop where
  j : JAt w jb b bs bm pv rv n s
  e : En we w b bs bm pv
  jb : we.heap.size ≤ jb
  rv : ∀ k, rv.ownBlock = some k → we.heap.size ≤ k
section
variable {we w w' : World} {jb b bs bm n : Nat} {pv rv vo vo' : Value} {s s' : JS} {c : Int} {e : Ending} {o o' : List (List UInt8)}
theorem PI.fp (h : PI we w jb b bs bm n pv rv s) {k : Nat} (hk : JFp jb b bs bm pv rv k) : we.heap.size ≤ k := by
  rcases hk with rfl | hk | hk
  · exact h.jb
  · exact h.rv k hk
  · exact h.e.f k hk
theorem PI.keep {F : Nat → Prop} (h : PI we w jb b bs bm n pv rv s) (hk : Keep F w w') (hF : ∀ k, JFp jb b bs bm pv rv k → ¬ F k) (hB : ∀ k, F k → we.heap.size ≤ k) : PI we w' jb b bs bm n pv rv s :=
  ⟨h.j.keep hk hF, ⟨h.e.t, h.e.bl.trans (hk.below hB h.e.bl.size), h.e.f⟩, h.jb, h.rv⟩
theorem PI.grow (h : PI we w jb b bs bm n pv rv s) (hb : Below w.heap.size w w') : PI we w' jb b bs bm n pv rv s := h.keep (F := fun _ => False) (Keep.of_below hb) (fun _ _ f => f) (fun _ f => f.elim)
/-- What an operation leaves. -/
theorem PI.next (h : PI we w jb b bs bm n pv rv s) (p : JPost w jb b bs bm n pv rv (s', c) e w') :
    e = .returned (.int .i64 c) ∧ ∃ bm' pv' rv', PI we w' jb b bs bm' n pv' rv' s' ∧ Keep (JFp jb b bs bm pv rv) w w' ∧ (∀ k, JFp jb b bs bm' pv' rv' k → JFp jb b bs bm pv rv k ∨ w.heap.size ≤ k) := by
  obtain ⟨h1, bm', pv', rv', h2, h3, h4, h5, h6⟩ := p
  have hs := h.e.bl.size
  have hf : ∀ k, JFp jb b bs bm' pv' rv' k → JFp jb b bs bm pv rv k ∨ w.heap.size ≤ k := by
    rintro k (rfl | hk | rfl | rfl | rfl | hk)
    · exact .inl (.inl rfl)
    · exact (h6 k hk).imp (fun h => .inr (.inl h)) id
    · exact .inl (.inr (.inr (.inl rfl)))
    · exact .inl (.inr (.inr (.inr (.inl rfl))))
    · rcases h4 with rfl | h4
      · exact .inl (.inr (.inr (.inr (.inr (.inl rfl)))))
      · exact .inr h4
    · exact (h5 k hk).imp (fun h => .inr (.inr (.inr (.inr (.inr h))))) id
  have hf2 : ∀ k, JFp jb b bs bm' pv' rv' k → we.heap.size ≤ k := fun k hk => (hf k hk).elim (fun h' => h.fp h') (fun h' => by omega)
  exact ⟨h1, bm', pv', rv', ⟨h2, ⟨h.e.t, h.e.bl.trans (h3.below (fun k hk => h.fp hk) hs), fun k hk => hf2 k (.inr (.inr hk))⟩, h.jb, fun k hk => hf2 k (.inr (.inl hk))⟩, h3, hf⟩
/-- A row of the caller's, beside the journal. -/
structure OutAt (we w : World) (jb b bs bm : Nat) (pv rv vo : Value) (o : List (List UInt8)) : Prop where
  row : RowT w we.heap.size vo o
  ne : ∀ k, vo.ownBlock = some k → ¬ JFp jb b bs bm pv rv k
theorem OutAt.lt (h : OutAt we w jb b bs bm pv rv vo o) {k : Nat} (hk : vo.ownBlock = some k) : we.heap.size ≤ k ∧ k < w.heap.size := World.ownsRow.lt h.row k hk
theorem OutAt.grow (h : OutAt we w jb b bs bm pv rv vo o) (hb : Below w.heap.size w w') : OutAt we w' jb b bs bm pv rv vo o :=
  ⟨h.row.keep fun k hk => hb.block k (h.lt hk).2, h.ne⟩
theorem OutAt.next {bm' : Nat} {pv' rv' : Value} (h : OutAt we w jb b bs bm pv rv vo o) (hk : Keep (JFp jb b bs bm pv rv) w w') (hf : ∀ k, JFp jb b bs bm' pv' rv' k → JFp jb b bs bm pv rv k ∨ w.heap.size ≤ k) : OutAt we w' jb b bs bm' pv' rv' vo o :=
  ⟨h.row.keep fun k hk' => hk.block k (h.lt hk').2 (h.ne k hk'), fun k hk' hf' => (hf k hf').elim (h.ne k hk') (fun hz => by have := (h.lt hk').2; omega)⟩
/-- The row is added to, or made anew. -/
theorem OutAt.own (h : PI we w jb b bs bm n pv rv s) (ho : OutAt we w jb b bs bm pv rv vo o) (hr : RowT w' we.heap.size vo' o') (hg : w.grownBy w' vo.ownBlock) (hb : ∀ k, vo'.ownBlock = some k → vo.ownBlock = some k ∨ w.heap.size ≤ k) :
    PI we w' jb b bs bm n pv rv s ∧ OutAt we w' jb b bs bm pv rv vo' o' := by
  have hk : Keep (fun k => vo.ownBlock = some k) w w' := ⟨hg.os, hg.tape, hg.output, hg.size, fun k hk hn => hg.block k hk (fun e => hn e.symm)⟩
  refine ⟨h.keep hk (fun k hf e => ho.ne k e hf) (fun k e => (ho.lt e).1), hr, fun k e hf => (hb k e).elim (fun e' => ho.ne k e' hf) (fun hz => by have := h.j.lt hf; omega)⟩
end
/-- An operation of play, plain. -/
def stepJ (n : Nat) (s : JS) (x : Op45) : JS × Int := if x.kind % 2 = 0 then s.append n x.body.data.toList else s.compact n (recsOf x.list)
def stepO (n : Nat) (s : JS) (o : List (List UInt8)) (x : Op45) : List (List UInt8) :=
  if (stepJ n s x).2 = 0 then (if x.kind % 2 = 0 then o ++ [x.body.data.toList] else recsOf x.list) else o
def playJ (n : Nat) (s : JS) (l : List Op45) : JS := l.foldl (fun s x => (stepJ n s x).1) s
def playP (n : Nat) (p : JS × List (List UInt8)) (l : List Op45) : JS × List (List UInt8) := l.foldl (fun p x => ((stepJ n p.1 x).1, stepO n p.1 p.2 x)) p
theorem playP_take {n : Nat} {p : JS × List (List UInt8)} {l : List Op45} {k : Nat} {x : Op45} (h : l[k]? = some x) : playP n p (l.take (k + 1)) = ((stepJ n (playP n p (l.take k)).1 x).1, stepO n (playP n p (l.take k)).1 (playP n p (l.take k)).2 x) := by
  unfold playP
  rw [List.take_add_one, h, List.foldl_append]; rfl
/-- What a state must be for an operation to be walked. -/
structure Walks (s : JS) : Prop where
  on : s.broken = false → s.d.on = true
  pend : s.d.pend.length ≤ 900000
  recs : s.recs.length ≤ 1000000
end Go.Proofs.YthfjaaigncjhlaaGreatDoor

namespace Go.Proofs.YthfjaaigncjhlaaGreatDoor
open Go.RowKit Go.Blk Go.Jn Go.Dk Go.Mp Go.Rf Go.Shelf Go.Apl Go.Opn

theorem encSlen (b : ByteArray) : (encS b).length = 1 := rfl
theorem encSone (b : ByteArray) : ∀ u ∈ encS b, u.oneCell' = true := by
  intro u hu
  have h : u = .string b := by simpa [encS] using hu
  rw [h]; rfl
end Go.Proofs.YthfjaaigncjhlaaGreatDoor

namespace Go.Jn
open Go Go.Dk
def h0 : JS := ⟨DD.new 10, (0, 0, 0), 0, [], false⟩
def h1 : JS × Int := h0.append 10 [97]
def h2 : JS × Int := h1.1.append 10 [98, 99]
def h3 : JS × Int := h2.1.compact 10 [[120]]
def hlong : List UInt8 := [48, 49, 50, 51, 52, 53, 54, 55, 56, 57, 48, 49, 50, 51, 52, 53, 54, 55, 56, 57, 48, 49, 50, 51, 52, 53, 54, 55, 56, 57, 48, 49, 50, 51, 52, 53, 54, 55, 56, 57]
def k1 : JS × Int := h0.append 10 (hlong ++ hlong ++ hlong)
def k2 : JS × Int := k1.1.append 10 [120, 121]
set_option maxRecDepth 100000
theorem h1_c : h1.2 = 0 := by kernel_rfl
theorem h2_c : h2.2 = 0 := by kernel_rfl
theorem h2_0 : (DD.read 10 h2.1.d 0).1 = [48, 48, 48, 48, 48, 48, 48, 48, 50, 48, 48, 48, 48, 48, 49, 49, 48, 48, 48, 48, 48, 48, 48, 48, 50, 48, 48, 48, 48, 48, 49, 49] := by kernel_rfl
theorem h2_1 : (DD.read 10 h2.1.d 1).1 = [48, 48, 48, 48, 48, 48, 48, 48, 49, 48, 48, 48, 48, 48, 48, 53, 48, 48, 48, 48, 48, 48, 48, 48, 49, 48, 48, 48, 48, 48, 48, 53] := by kernel_rfl
theorem h3_c : h3.2 = 0 := by kernel_rfl
theorem h3_1 : (DD.read 10 h3.1.d 1).1 = [48, 48, 48, 48, 48, 48, 48, 48, 51, 49, 48, 48, 48, 48, 48, 53, 48, 48, 48, 48, 48, 48, 48, 48, 51, 49, 48, 48, 48, 48, 48, 53] := by kernel_rfl
theorem k1_c : k1.2 = 0 := by kernel_rfl
theorem k2_c : k2.2 = 19 := by kernel_rfl
theorem h2_r : h2.1.recs = [[97], [98, 99]] := by kernel_rfl
theorem h3_r : h3.1.recs = [[120]] := by kernel_rfl
theorem h1_on : h1.1.d.on = true := by kernel_rfl
theorem h1_p : h1.1.d.pend.length = 0 := by kernel_rfl
theorem h1_r : h1.1.recs.length = 1 := by kernel_rfl
theorem h2_on : h2.1.d.on = true := by kernel_rfl
theorem h2_p : h2.1.d.pend.length = 0 := by kernel_rfl
theorem k1_on : k1.1.d.on = true := by kernel_rfl
theorem k1_p : k1.1.d.pend.length = 0 := by kernel_rfl
theorem k1_r : k1.1.recs.length = 1 := by kernel_rfl
theorem o3_n : openD 3 (DD.new 3) = (1, none) := by kernel_rfl
end Go.Jn

namespace Go.Proofs.YthfjaaigncjhlaaGreatDoor
open Go.RowKit Go.Blk Go.Jn Go.Dk Go.Mp Go.Rf Go.Shelf Go.Apl Go.Opn

/-- Open, where a journal is found. -/
theorem open_pi {we w : World} {b bs bm n : Nat} {pv : Value} {d : DD} {v : Nat × Nat × Nat} {a : Nat} {r : List (List UInt8)} (hT : HasT we) (hb : Below we.heap.size we w) (hd : DiskAt w b bs bm pv d n) (hf : ∀ k, Fp b bs bm pv k → we.heap.size ≤ k) (ho : openD n d = (0, some (v, a, r))) :
    Calls Tryz.prog 8 #[.pointer (some ⟨b, 0, none⟩)] w fun e w' => ∃ jb rv A c, e = .returned (.tuple #[.pointer (some ⟨jb, 0, none⟩), .slice A r.length c, .int .i64 0]) ∧
      PI we w' jb b bs bm n pv rv ⟨d, v, a, r, false⟩ ∧ OutAt we w' jb b bs bm pv rv (.slice A r.length c) r ∧ Below w.heap.size w w' := by
  refine (open_any hd).mono ?_
  rintro e w' ⟨h1, ⟨h2, _⟩ | ⟨v', a', r', jb, rv, A, c, h2, rfl, h3, h4, h5, h6, h7⟩⟩
  · rw [ho] at h2; cases h2
  · rw [ho] at h2
    cases h2
    have hs := hb.size
    have hbb : Below we.heap.size we w' := hb.trans (h1.mono hs)
    exact ⟨jb, rv, A, c, rfl, ⟨h3, ⟨hT, hbb, hf⟩, by omega, fun k hk => by have := h5 k hk; omega⟩, ⟨row_base h6 hs, h7⟩, h1⟩
/-- New and Open: a new journal. -/
theorem found_new {n : Nat} (hn : 4 ≤ n) : openD n (DD.new n) = (0, some ((0, 0, 0), 0, [])) := open_found rfl hn (new_found hn).1
/-- New on a size that fits. -/
theorem new_fp {we w w' : World} {n : Nat} {e : Ending} (hb : Below we.heap.size we w) (h : NewPost w n e w') : ∃ b bs bm, e = .returned (.pointer (some ⟨b, 0, none⟩)) ∧ DiskAt w' b bs bm (.slice none 0 0) (DD.new n) n ∧ Below we.heap.size we w' ∧ (∀ k, Fp b bs bm (.slice none 0 0) k → we.heap.size ≤ k) ∧ Below w.heap.size w w' := by
  obtain ⟨b, bs, bm, h1, h2, h3, h4, h5, h6⟩ := h
  have hs := hb.size
  refine ⟨b, bs, bm, h1, h2, hb.trans (h3.mono hs), ?_, h3⟩
  rintro k (rfl | rfl | rfl | e)
  · omega
  · omega
  · omega
  · cases e
/-- Records of a journal against a list of constants. -/
theorem same_row {w wx : World} {B g c : Nat} {A : Option Addr} {r : List (List UInt8)} (h : RowT w B (.slice A r.length c) r) (hx : Below w.heap.size w wx) (h2 : wx.heap[g]? = some (.cells (r.map (fun x => Value.string (tx x))).toArray 9 (0, 0))) (hl : r.length ≤ 1000000) :
    Calls Tryz.prog 10 #[.slice A r.length c, .slice (some ⟨g, 0, none⟩) r.length r.length] wx fun e w' => e = .returned (.bool true) ∧ Below wx.heap.size wx w' := by
  obtain ⟨_, hs, _⟩ := row_sl h
  have hlen : (r.map tx).length = r.length := by simp
  have hs2 : SL wx 1 encS (some ⟨g, 0, none⟩) (r.map tx) := sl_of_cells encSlen h2 (fun j u hu => by
    rw [flat_str, List.map_map] at hu
    simpa using hu)
  have := same45_any A (some ⟨g, 0, none⟩) c r.length (r.map tx) (r.map tx) wx (hs.below hx (Nat.le_refl _)) hs2 (by omega) (by omega)
  rw [hlen] at this
  refine this.mono ?_
  rintro e w' ⟨rfl, h⟩
  exact ⟨by simp, h⟩
set_option maxRecDepth 100000 in
set_option maxHeartbeats 400000 in
theorem head45_any (w : World) (hT : HasT w) : Calls Tryz.prog 4 #[] w fun e w' => e = .returned (.bool true) ∧ Below w.heap.size w w' := by
  obtain ⟨R, eR⟩ : ∃ R : Ending → World → Prop, R = fun e w' => e = .returned (.bool true) ∧ Below w.heap.size w w' := ⟨_, rfl⟩
  rw [← eR]
  have ER := Lib.hid eR
  have HT := Lib.hid hT
  have N10 := Lib.hid (fun w => new_any 10 w (by decide) (by decide))
  clear eR hT
  go_enter Tryz.func4, Tryz.ntmps4
  go_wp2_with fail
  refine (N10.out _).mono ?_
  intro e w1 h1
  obtain ⟨b, bs, bm, rfl, hd, hb, hf, _⟩ := new_fp (Below.refl _ w) h1
  have OP := Lib.hid (open_pi HT.out hb hd hf (found_new (by decide)))
  clear h1 hd hb hf
  go_wp2_with fail
  refine OP.out.mono ?_
  rintro e w2 ⟨jb, rv, A, c, rfl, hp, hoa, hb⟩
  have HP := Lib.hid hp
  clear OP hp hoa hb
  have AP : Hid (Calls Tryz.prog 13 #[.pointer (some ⟨jb, 0, none⟩), .string ⟨#[97]⟩] w2 (JPost w2 jb b bs bm 10 (.slice none 0 0) rv h1)) := append_any ⟨#[97]⟩ HP.out.j (fun _ => rfl) (by decide) (by decide) (by decide) HP.out.e
  go_wp2_with fail
  refine AP.out.mono ?_
  intro e w3 hj
  obtain ⟨he, bm3, pv3, rv3, hp3, _, _⟩ := HP.out.next (s' := h1.1) (c := h1.2) hj
  rw [h1_c] at he
  subst he
  have HP3 := Lib.hid hp3
  clear AP HP hj hp3
  have AP : Hid (Calls Tryz.prog 13 #[.pointer (some ⟨jb, 0, none⟩), .string ⟨#[98, 99]⟩] w3 (JPost w3 jb b bs bm3 10 pv3 rv3 h2)) := append_any ⟨#[98, 99]⟩ HP3.out.j (fun _ => h1_on) (by rw [h1_p]; decide) (by rw [h1_r]; decide) (by decide) HP3.out.e
  go_wp2_with fail
  refine AP.out.mono ?_
  intro e w4 hj
  obtain ⟨he, bm4, pv4, rv4, hp4, _, _⟩ := HP3.out.next (s' := h2.1) (c := h2.2) hj
  rw [h2_c] at he
  subst he
  have HP4 := Lib.hid hp4
  clear AP HP3 hj hp4
  have RD := Lib.hid (fun (i : Int) => read_any HP4.out.j.disk i)
  obtain ⟨z0, ez0⟩ : ∃ z0, z0 = (DD.read 10 h2.1.d 0).2 := ⟨_, rfl⟩
  obtain ⟨z1, ez1⟩ : ∃ z1, z1 = (DD.read 10 h2.1.d 1).2 := ⟨_, rfl⟩
  have R0 := Lib.hid (RD.out 0)
  have R1 := Lib.hid (RD.out 1)
  rw [h2_0, ← ez0] at R0
  rw [h2_1, ← ez1] at R1
  clear ez0 ez1 RD
  have RR := Lib.hid (records_any HP4.out.j (by rw [h2_r]; decide))
  rw [h2_r] at RR
  go_wp2_with fail
  refine R0.out.mono ?_
  rintro e w' ⟨rfl, rfl⟩
  go_wp2_with fail
  refine R1.out.mono ?_
  rintro e w' ⟨rfl, rfl⟩
  go_wp2_with fail
  refine RR.out.mono ?_
  rintro e w5 ⟨A5, c5, rfl, hr5, hb5⟩
  have HP5 := Lib.hid (HP4.out.grow hb5)
  have HR5 := Lib.hid hr5
  clear R0 R1 RR hb5 hr5 HP4
  go_wp2_with fail
  have SM : Hid (Calls Tryz.prog 10 #[.slice A5 2 c5, .slice (some ⟨w5.heap.size, 0, none⟩) 2 2] (w5.alloc (.cells #[.string ⟨#[97]⟩, .string ⟨#[98, 99]⟩] 9)) fun e w' => e = .returned (.bool true) ∧ Below (w5.alloc (.cells #[.string ⟨#[97]⟩, .string ⟨#[98, 99]⟩] 9)).heap.size (w5.alloc (.cells #[.string ⟨#[97]⟩, .string ⟨#[98, 99]⟩] 9)) w') :=
    same_row (r := [[97], [98, 99]]) HR5.out ((Below.refl _ w5).alloc (Nat.le_refl _) _) (heap_alloc_last w5 _) (by decide)
  refine SM.out.mono ?_
  rintro e w6 ⟨rfl, hb6⟩
  have HP6 := Lib.hid ((HP5.out.grow ((Below.refl _ w5).alloc (Nat.le_refl _) (.cells #[.string ⟨#[97]⟩, .string ⟨#[98, 99]⟩] 9))).grow hb6)
  clear SM hb6 HP5 HR5
  have hpa := HP6.out.grow ((Below.refl _ w6).alloc (Nat.le_refl _) (.cells #[.string ⟨#[120]⟩] 9))
  have hsl : SL (w6.alloc (.cells #[.string ⟨#[120]⟩] 9)) 1 encS (some ⟨w6.heap.size, 0, none⟩) [⟨#[120]⟩] := sl_of_cells encSlen (heap_alloc_last w6 _) (fun j u hu => by simpa [encS] using hu)
  have CMP : Hid (Calls Tryz.prog 15 #[.pointer (some ⟨jb, 0, none⟩), .slice (some ⟨w6.heap.size, 0, none⟩) 1 1] (w6.alloc (.cells #[.string ⟨#[120]⟩] 9)) (JPost (w6.alloc (.cells #[.string ⟨#[120]⟩] 9)) jb b bs bm4 10 pv4 rv4 h3)) :=
    compact_any (c := 1) [⟨#[120]⟩] hpa.j (fun _ _ => h2_on) (by rw [h2_p]; decide) hsl (fun w' hk => sl_of_cells encSlen ((hk.block w6.heap.size (by simp) (fun hf => by have := HP6.out.j.lt hf; omega)).trans (heap_alloc_last w6 _)) (fun j u hu => by simpa [encS] using hu)) (by decide) hpa.e
  have HPA := Lib.hid hpa
  clear hpa hsl
  go_wp2_with fail
  refine CMP.out.mono ?_
  intro e w7 hj
  obtain ⟨he, bm7, pv7, rv7, hp7, _, _⟩ := HPA.out.next (s' := h3.1) (c := h3.2) hj
  rw [h3_c] at he
  subst he
  have HP7 := Lib.hid hp7
  clear CMP HPA hj hp7
  have R1 := Lib.hid (read_any HP7.out.j.disk 1)
  obtain ⟨z2, ez2⟩ : ∃ z2, z2 = (DD.read 10 h3.1.d 1).2 := ⟨_, rfl⟩
  rw [h3_1, ← ez2] at R1
  clear ez2
  go_wp2_with fail
  refine R1.out.mono ?_
  rintro e w' ⟨rfl, rfl⟩
  clear R1
  go_wp2_with fail
  refine (N10.out _).mono ?_
  intro e w8 g1
  obtain ⟨b8, bs8, bm8, rfl, hd, hb, hf, hbw⟩ := new_fp (Below.refl _ w7) g1
  have HP8 := Lib.hid (HP7.out.grow hbw)
  have L7 : Hid (∀ k, JFp jb b bs bm7 pv7 rv7 k → k < w7.heap.size) := fun k hk => HP7.out.j.lt hk
  have B7 := Lib.hid HP7.out.e.bl.size
  have OP := Lib.hid (open_pi HP7.out.e.h hb hd hf (found_new (by decide)))
  clear g1 hd hb hf hbw HP7
  go_wp2_with fail
  refine OP.out.mono ?_
  rintro e w9 ⟨jb9, rv9, A9, c9, rfl, hq, _, hb⟩
  have HP9 := Lib.hid (HP8.out.grow hb)
  have HQ9 := Lib.hid hq
  clear OP hq hb HP8
  have AP : Hid (Calls Tryz.prog 13 #[.pointer (some ⟨jb9, 0, none⟩), .string ((⟨hlong.toArray⟩ : ByteArray) ++ ⟨hlong.toArray⟩ ++ ⟨hlong.toArray⟩)] w9 (JPost w9 jb9 b8 bs8 bm8 10 (.slice none 0 0) rv9 k1)) := by
    have h := append_any ((⟨hlong.toArray⟩ : ByteArray) ++ ⟨hlong.toArray⟩ ++ ⟨hlong.toArray⟩) HQ9.out.j (fun _ => rfl) (by decide) (by decide) (by simp [ByteArray.size_append]; decide) HQ9.out.e
    have e1 : ((⟨hlong.toArray⟩ : ByteArray) ++ ⟨hlong.toArray⟩ ++ ⟨hlong.toArray⟩).data.toList = hlong ++ hlong ++ hlong := by simp [ByteArray.data_append]
    rw [e1] at h
    exact h
  unfold hlong at AP
  go_wp2_with fail
  refine AP.out.mono ?_
  intro e w10 hj
  obtain ⟨he, bm10, pv10, rv10, hq10, kk, _⟩ := HQ9.out.next (s' := k1.1) (c := k1.2) hj
  rw [k1_c] at he
  subst he
  have HP10 := Lib.hid (HP9.out.keep kk (fun k hk hf => by have h1 := L7.out k hk; have h2 := HQ9.out.fp hf; omega) (fun k hf => by have h1 := B7.out; have h2 := HQ9.out.fp hf; omega))
  have HQ10 := Lib.hid hq10
  clear AP HQ9 HP9 hj hq10 kk
  have AP : Hid (Calls Tryz.prog 13 #[.pointer (some ⟨jb9, 0, none⟩), .string ⟨#[120, 121]⟩] w10 (JPost w10 jb9 b8 bs8 bm10 10 pv10 rv10 k2)) := append_any ⟨#[120, 121]⟩ HQ10.out.j (fun _ => k1_on) (by rw [k1_p]; decide) (by rw [k1_r]; decide) (by decide) HQ10.out.e
  go_wp2_with fail
  refine AP.out.mono ?_
  intro e w11 hj
  obtain ⟨he, bm11, pv11, rv11, hq11, kk, _⟩ := HQ10.out.next (s' := k2.1) (c := k2.2) hj
  rw [k2_c] at he
  subst he
  have HP11 := Lib.hid (HP10.out.keep kk (fun k hk hf => by have h1 := L7.out k hk; have h2 := HQ10.out.fp hf; omega) (fun k hf => by have h1 := B7.out; have h2 := HQ10.out.fp hf; omega))
  clear AP HQ10 HP10 hj hq11 kk
  have N3 := Lib.hid (fun w => new_any 3 w (by decide) (by decide))
  go_wp2_with fail
  refine (N3.out _).mono ?_
  intro e w12 g1
  obtain ⟨b12, bs12, bm12, rfl, hd, _, _, hbw⟩ := new_fp (Below.refl _ w11) g1
  have HP12 := Lib.hid (HP11.out.grow hbw)
  have OP : Hid (Calls Tryz.prog 8 #[.pointer (some ⟨b12, 0, none⟩)] w12 fun e w' => Below w12.heap.size w12 w' ∧ e = .returned (.tuple #[.pointer none, .slice none 0 0, .int .i64 1])) := (open_any hd).mono fun e w' h => by
    obtain ⟨h1, ⟨_, h2⟩ | ⟨v, a, r, jb, rv, A, c, h2, _⟩⟩ := h
    · exact ⟨h1, by rw [h2, o3_n]⟩
    · rw [o3_n] at h2; cases h2
  clear g1 hd hbw HP11
  go_wp2_with fail
  refine OP.out.mono ?_
  rintro e w13 ⟨hb, rfl⟩
  have HP13 := Lib.hid (HP12.out.grow hb)
  clear OP hb HP12
  have RR := Lib.hid (records_any HP13.out.j (by rw [h3_r]; decide))
  rw [h3_r] at RR
  go_wp2_with fail
  refine RR.out.mono ?_
  rintro e w14 ⟨A14, c14, rfl, hr14, hb14⟩
  have HP14 := Lib.hid (HP13.out.grow hb14)
  have HR14 := Lib.hid hr14
  clear RR hb14 hr14 HP13
  go_wp2_with fail
  have SM : Hid (Calls Tryz.prog 10 #[.slice A14 1 c14, .slice (some ⟨w14.heap.size, 0, none⟩) 1 1] (w14.alloc (.cells #[.string ⟨#[120]⟩] 9)) fun e w' => e = .returned (.bool true) ∧ Below (w14.alloc (.cells #[.string ⟨#[120]⟩] 9)).heap.size (w14.alloc (.cells #[.string ⟨#[120]⟩] 9)) w') :=
    same_row (r := [[120]]) HR14.out ((Below.refl _ w14).alloc (Nat.le_refl _) _) (heap_alloc_last w14 _) (by decide)
  refine SM.out.mono ?_
  rintro e w15 ⟨rfl, hb15⟩
  have HP15 := Lib.hid ((HP14.out.grow ((Below.refl _ w14).alloc (Nat.le_refl _) (.cells #[.string ⟨#[120]⟩] 9))).grow hb15)
  have G : Hid (R (.returned (.bool true)) w15) := by rw [ER.out]; exact ⟨rfl, HP15.out.e.bl⟩
  clear SM hb15 HP14 HR14
  go_wp2_with fail
  first
    | exact G.out
    | (go_ret; exact G.out)
end Go.Proofs.YthfjaaigncjhlaaGreatDoor

namespace Go.Jn
open Go Go.Dk
/-- A sound journal on a disk that is on and not armed, m operations old. -/
structure JGood (n : Nat) (s : JS) (m : Nat) : Prop where
  ok : s.d.Ok n
  on : s.d.on = true
  pend : s.d.pend = []
  arm : s.d.armed = false
  brk : s.broken = false
  found : Found n s.d.st s.v s.a s.recs
  num : s.v.1 ≤ m
theorem JGood.more {n : Nat} {s : JS} {m m' : Nat} (h : JGood n s m) (hm : m ≤ m') : JGood n s m' := ⟨h.ok, h.on, h.pend, h.arm, h.brk, h.found, Nat.le_trans h.num hm⟩
theorem JGood.new {n : Nat} (hn : 4 ≤ n) (h2 : n ≤ 4000) : JGood n ⟨DD.new n, (0, 0, 0), 0, [], false⟩ 0 := ⟨DD.Ok.new (by omega) h2, rfl, rfl, rfl, rfl, (new_found hn).1, Nat.le_refl _⟩
theorem JGood.len {n : Nat} {s : JS} {m : Nat} (h : JGood n s m) : s.v.2.2 = roomL s.recs ∧ ∀ b ∈ s.recs, b.length ≤ 2000 := found_len h.ok.len h.found
/-- Append: done, too long, or no room. -/
theorem JGood.append {n : Nat} {s : JS} {m : Nat} (hn : 4 ≤ n) (h : JGood n s m) (hm : m < 999999999) (b : List UInt8) :
    (2000 < b.length ∧ s.append n b = (s, 3)) ∨ (b.length ≤ 2000 ∧ 32 * ((n - 2) / 2) < roomL (s.recs ++ [b]) ∧ s.append n b = (s, 19)) ∨
      (b.length ≤ 2000 ∧ roomL (s.recs ++ [b]) ≤ 32 * ((n - 2) / 2) ∧ (s.append n b).2 = 0 ∧ JGood n (s.append n b).1 (m + 1) ∧ (s.append n b).1.recs = s.recs ++ [b]) := by
  have hbr := h.brk
  have hl := h.len.1
  have hnum := h.num
  have hro : roomL (s.recs ++ [b]) = s.v.2.2 + (4 + b.length) := by rw [roomL_append, hl]; show _ + (4 + b.length + 0) = _; omega
  by_cases hb : 2000 < b.length
  · exact .inl ⟨hb, by unfold JS.append; rw [if_neg (by rw [hbr]; decide), if_pos hb]⟩
  · by_cases hr : 32 * ((n - 2) / 2) < s.v.2.2 + (4 + b.length)
    · exact .inr (.inl ⟨by omega, by rw [hro]; exact hr, by unfold JS.append; rw [if_neg (by rw [hbr]; decide), if_neg hb, if_pos (.inl hr)]⟩)
    · have sp := append_spec (b := b) h.ok h.on h.pend hn h.found (by omega) (by omega) (by omega)
      have e : s.append n b = if (changeD n s.a s.v.1 s.v.2.1 s.v.2.2 (frameL b) s.d).2 = 0 then
          ({ d := (changeD n s.a s.v.1 s.v.2.1 s.v.2.2 (frameL b) s.d).1, v := (s.v.1 + 1, s.v.2.1, s.v.2.2 + (frameL b).length), a := 1 - s.a, recs := s.recs ++ [b], broken := false }, 0)
          else ({ s with d := (changeD n s.a s.v.1 s.v.2.1 s.v.2.2 (frameL b) s.d).1, broken := true }, (changeD n s.a s.v.1 s.v.2.1 s.v.2.2 (frameL b) s.d).2) := by
        unfold JS.append
        rw [if_neg (by rw [hbr]; decide), if_neg hb, if_neg (by omega)]
      refine .inr (.inr ⟨by omega, by rw [hro]; omega, ?_⟩)
      obtain ⟨r1, ⟨r2, r3, r4, r5, r6, r7⟩ | ⟨_, r3, _⟩⟩ := sp
      · rw [if_pos r2] at e
        rw [e]
        exact ⟨rfl, ⟨r1, r3, r4, by rw [r5]; exact h.arm, rfl, r6, by show s.v.1 + 1 ≤ m + 1; omega⟩, rfl⟩
      · rw [h.arm] at r3; cases r3
/-- Compact: done, too long, or no room. -/
theorem JGood.compact {n : Nat} {s : JS} {m : Nat} (hn : 4 ≤ n) (h : JGood n s m) (hm : m < 999999999) (l : List (List UInt8)) :
    ((∃ b ∈ l, 2000 < b.length) ∧ s.compact n l = (s, 3)) ∨ ((∀ b ∈ l, b.length ≤ 2000) ∧ 32 * ((n - 2) / 2) < roomL l ∧ s.compact n l = (s, 19)) ∨
      ((∀ b ∈ l, b.length ≤ 2000) ∧ roomL l ≤ 32 * ((n - 2) / 2) ∧ (s.compact n l).2 = 0 ∧ JGood n (s.compact n l).1 (m + 1) ∧ (s.compact n l).1.recs = l) := by
  have hbr := h.brk
  have hnum := h.num
  by_cases hb : ∃ b ∈ l, 2000 < b.length
  · exact .inl ⟨hb, by unfold JS.compact; rw [if_neg (by rw [hbr]; decide), if_pos hb]⟩
  · have hb' : ∀ b ∈ l, b.length ≤ 2000 := fun b hm => Nat.le_of_not_lt fun hc => hb ⟨b, hm, hc⟩
    by_cases hr : 32 * ((n - 2) / 2) < roomL l
    · exact .inr (.inl ⟨hb', hr, by unfold JS.compact; rw [if_neg (by rw [hbr]; decide), if_neg hb, if_pos (.inl hr)]⟩)
    · have sp := compact_spec (l := l) h.ok h.on h.pend hn h.found (by omega) hb' (by omega)
      rw [Nat.zero_add] at sp
      have e : s.compact n l = if (changeD n s.a s.v.1 (1 - s.v.2.1) 0 (framesL l) s.d).2 = 0 then
          ({ d := (changeD n s.a s.v.1 (1 - s.v.2.1) 0 (framesL l) s.d).1, v := (s.v.1 + 1, 1 - s.v.2.1, (framesL l).length), a := 1 - s.a, recs := l, broken := false }, 0)
          else ({ s with d := (changeD n s.a s.v.1 (1 - s.v.2.1) 0 (framesL l) s.d).1, broken := true }, (changeD n s.a s.v.1 (1 - s.v.2.1) 0 (framesL l) s.d).2) := by
        unfold JS.compact
        rw [if_neg (by rw [hbr]; decide), if_neg hb, if_neg (by omega)]
      refine .inr (.inr ⟨hb', by omega, ?_⟩)
      obtain ⟨r1, ⟨r2, r3, r4, r5, r6, r7⟩ | ⟨_, r3, _⟩⟩ := sp
      · rw [if_pos r2] at e
        rw [e]
        exact ⟨rfl, ⟨r1, r3, r4, by rw [r5]; exact h.arm, rfl, r6, by show s.v.1 + 1 ≤ m + 1; omega⟩, rfl⟩
      · rw [h.arm] at r3; cases r3
end Go.Jn

namespace Go.Proofs.YthfjaaigncjhlaaGreatDoor
open Go.RowKit Go.Blk Go.Jn Go.Dk Go.Mp Go.Rf Go.Shelf Go.Apl Go.Opn

theorem good_step {n : Nat} {s : JS} {m : Nat} (hn : 4 ≤ n) (h : JGood n s m) (hm : m < 999999999) (x : Op45) : JGood n (stepJ n s x).1 (m + 1) ∧ stepO n s s.recs x = (stepJ n s x).1.recs := by
  unfold stepO stepJ
  by_cases hk : x.kind % 2 = 0
  · simp only [hk, if_true]
    rcases h.append hn hm x.body.data.toList with ⟨_, e⟩ | ⟨_, _, e⟩ | ⟨_, _, e1, e2, e3⟩
    · rw [e]; exact ⟨h.more (by omega), if_neg (fun h => absurd h (by simp))⟩
    · rw [e]; exact ⟨h.more (by omega), if_neg (fun h => absurd h (by simp))⟩
    · exact ⟨e2, by rw [if_pos e1, e3]⟩
  · simp only [hk, if_false]
    rcases h.compact hn hm (recsOf x.list) with ⟨_, e⟩ | ⟨_, _, e⟩ | ⟨_, _, e1, e2, e3⟩
    · rw [e]; exact ⟨h.more (by omega), if_neg (fun h => absurd h (by simp))⟩
    · rw [e]; exact ⟨h.more (by omega), if_neg (fun h => absurd h (by simp))⟩
    · exact ⟨e2, by rw [if_pos e1, e3]⟩
theorem good_play {n : Nat} (hn : 4 ≤ n) : ∀ (l : List Op45) (s : JS) (m : Nat), m + l.length < 999999999 → JGood n s m → JGood n (playP n (s, s.recs) l).1 (m + l.length) ∧ (playP n (s, s.recs) l).2 = (playP n (s, s.recs) l).1.recs
  | [], s, m, _, h => ⟨h, rfl⟩
  | x :: l, s, m, hm, h => by
    simp only [List.length_cons] at hm
    obtain ⟨g1, g2⟩ := good_step hn h (by omega) x
    have ih := good_play hn l (stepJ n s x).1 (m + 1) (by omega) g1
    have e : playP n (s, s.recs) (x :: l) = playP n ((stepJ n s x).1, (stepJ n s x).1.recs) l := by
      unfold playP
      rw [List.foldl_cons]
      simp only [g2]
    rw [e, List.length_cons]
    exact ⟨ih.1.more (by omega), ih.2⟩
theorem good_few {n : Nat} {s : JS} {m : Nat} (h2 : n ≤ 4000) (h : JGood n s m) : s.recs.length ≤ 1000000 := by
  have h1 := h.len.1
  have h3 := (pres_range h.found.pres).2
  have h4 := roomL_ge s.recs
  omega
theorem good_walks {n : Nat} {s : JS} {m : Nat} (h2 : n ≤ 4000) (h : JGood n s m) : Walks s := ⟨fun _ => h.on, by rw [h.pend]; decide, good_few h2 h⟩
/-- Behind a power failure a sound journal is found again. -/
theorem good_again {n : Nat} {s : JS} {m : Nat} (hn : 4 ≤ n) (h : JGood n s m) (w b : Int) : openD n ((s.d.fail w b).start) = (0, some (s.v, s.a, s.recs)) := by
  refine open_found rfl hn ?_
  have e : eff ((s.d.fail w b).start) = s.d.st := by
    unfold DD.fail DD.start eff
    rw [if_pos h.on, h.pend]
    show allW (settled s.d.st [] (clampW w) (clampB b)) [] = _
    rfl
  rw [e]; exact h.found
/-- The same without one. -/
theorem good_open {n : Nat} {s : JS} {m : Nat} (hn : 4 ≤ n) (h : JGood n s m) : openD n s.d = (0, some (s.v, s.a, s.recs)) := by
  refine open_found h.on hn ?_
  have e : eff s.d = s.d.st := by unfold eff; rw [h.pend]; rfl
  rw [e]; exact h.found
set_option maxRecDepth 100000 in
theorem new_none (n : Int) (w : World) (h1 : n < 1) : Calls Tryz.prog 6 #[.int .i64 n] w fun e w' => e = .returned (.pointer none) ∧ w = w' := by
  have d1 : decide (n < 1) = true := decide_eq_true h1
  go_enter Tryz.func6, Tryz.ntmps6
  go_wp2_with fail
  go_ret
  exact ⟨rfl, rfl⟩
theorem open_few {n : Nat} (hn : n < 4) : openD n (DD.new n) = (1, none) := by
  unfold openD
  rw [if_neg (by show ¬ (true = false); decide), if_pos hn]
/-- Two rows of the same records. -/
theorem same_rows {w1 w2 wx : World} {B1 B2 c1 c2 m2 : Nat} {A1 A2 : Option Addr} {r : List (List UInt8)} (h1 : RowT w1 B1 (.slice A1 r.length c1) r) (hb1 : Below w1.heap.size w1 wx) (h2 : RowT w2 B2 (.slice A2 m2 c2) r) (hb2 : Below w2.heap.size w2 wx) (hl : r.length ≤ 1000000) :
    Calls Tryz.prog 10 #[.slice A1 r.length c1, .slice A2 m2 c2] wx fun e w' => e = .returned (.bool true) ∧ Below wx.heap.size wx w' := by
  obtain ⟨_, s1, _⟩ := row_sl h1
  obtain ⟨e2, s2, _⟩ := row_sl h2
  subst e2
  have hlen : (r.map tx).length = r.length := by simp
  have := same45_any A1 A2 c1 c2 (r.map tx) (r.map tx) wx (s1.below hb1 (Nat.le_refl _)) (s2.below hb2 (Nat.le_refl _)) (by omega) (by omega)
  rw [hlen] at this
  refine this.mono ?_
  rintro e w' ⟨rfl, h⟩
  exact ⟨by simp, h⟩
/-- A disk that was turned off and on again. -/
theorem OutAt.fp {we w w' : World} {jb b bs bm : Nat} {pv rv vo : Value} {o : List (List UInt8)} (h : OutAt we w jb b bs bm pv rv vo o) (hk : Keep (Fp b bs bm pv) w w') : RowT w' we.heap.size vo o :=
  h.row.keep fun k hk' => hk.block k (h.lt hk').2 (fun hf => h.ne k hk' (.inr (.inr hf)))
/-- The law, told of its answer. -/
def YesPost (w : World) (e : Ending) (w' : World) : Prop := e = .returned (.bool true) ∧ Below w.heap.size w w'
end Go.Proofs.YthfjaaigncjhlaaGreatDoor

namespace Go.Proofs.YthfjaaigncjhlaaGreatDoor
open Go.RowKit Go.Blk Go.Jn Go.Dk Go.Mp Go.Rf Go.Shelf Go.Apl Go.Opn

end Go.Proofs.YthfjaaigncjhlaaGreatDoor
