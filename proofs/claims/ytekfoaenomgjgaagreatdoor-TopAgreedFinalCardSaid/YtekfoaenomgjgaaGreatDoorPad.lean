/- The walk of digest.padded: the end of a text with what follows it, for an end shorter than a block and a length below 2^48. -/
import Derived.Test.YtekfoaenomgjgaaGreatDoorMixA
import Derived.Test.YtekfoaenomgjgaaGreatDoorShelf
import Derived.Test.YtekfoaenomgjgaaGreatDoorRows
import Derived.WalkSpells
import Derived.WalkLawsBesides
import Derived.Outline
import Derived.Deep.Light
set_option maxRecDepth 100000
set_option linter.unusedSimpArgs false
set_option linter.unusedVariables false
namespace Go.Proofs.YtekfoaenomgjgaaGreatDoor
open Go.RowKit Go.W32 Go.Blk

/-- The eight bytes of a number, the greatest first. -/
def be8 (m : Nat) : List UInt8 := (List.range 8).map fun j => UInt8.ofNat (m / 256 ^ (7 - j))
theorem be8_len (m : Nat) : (be8 m).length = 8 := by simp [be8]
def padB (e : ByteArray) (n : Nat) : ByteArray := e ++ ⟨#[128]⟩ ++ ⟨(Lib.repeatL [0] ((119 - e.size) % 64)).toArray⟩ ++ ⟨(be8 (n * 8)).toArray⟩

def RelP (w : World) (m : Nat) (i left : Value) (wr : World) : Prop :=
 ∃ (k : Nat) (l : List UInt8), k ≤ 8 ∧ i = .int .i64 (7 - (k : Int)) ∧ left = .int .u64 ((m / 256 ^ k : Nat) : Int) ∧ l.length = 8 ∧ (∀ j, j < 8 → 8 - k ≤ j → l[j]? = some (UInt8.ofNat (m / 256 ^ (7 - j)))) ∧ Blk wr w.heap.size (l.map C8) 5 ∧ Below w.heap.size w wr

theorem relP_step {w wr : World} {m k : Nat} {l : List UInt8} (hk : k < 8) (hl : l.length = 8) (h : ∀ j, j < 8 → 8 - k ≤ j → l[j]? = some (UInt8.ofNat (m / 256 ^ (7 - j)))) (hB : Blk wr w.heap.size (l.map C8) 5) (hb : Below w.heap.size w wr) (a b c : Int)
  (ha : a = 7 - ((k + 1 : Nat) : Int)) (hbb : b = ((m / 256 ^ (k + 1) : Nat) : Int)) (hc : c = (m / 256 ^ k : Nat) % 256) :
  RelP w m (.int .i64 a) (.int .u64 b) (wr.setCell ⟨w.heap.size, 7 - k, none⟩ (.int .u8 c)) := by
 subst ha; subst hbb; subst hc
 refine ⟨k + 1, l.set (7 - k) (UInt8.ofNat (m / 256 ^ k)), by omega, rfl, rfl, by simp [hl], ?_, ?_, hb.setCell (Nat.le_refl _) _⟩
 ·intro j hj hjk
  by_cases e : j = 7 - k
  ·subst e; rw [List.getElem?_set_self (by omega), show 7 - (7 - k) = k by omega]
  ·rw [List.getElem?_set_ne (by omega)]; exact h j hj (by omega)
 ·rw [List.map_set]
  have : C8 (UInt8.ofNat (m / 256 ^ k)) = .int .u8 (((m / 256 ^ k : Nat) : Int) % 256) := by
   unfold C8; congr 1
  rw [this]; exact hB.set _ _
theorem be8_of {m : Nat} {l : List UInt8} (hl : l.length = 8) (h : ∀ j, j < 8 → 8 - 8 ≤ j → l[j]? = some (UInt8.ofNat (m / 256 ^ (7 - j)))) : l = be8 m := by
 apply List.ext_getElem?
 intro i
 by_cases hi : i < 8
 ·rw [h i hi (by omega)]; simp [be8, hi]
 ·rw [List.getElem?_eq_none (by omega), List.getElem?_eq_none (by rw [be8_len]; omega)]

set_option maxHeartbeats 1000000 in
theorem padded_any (e : ByteArray) (n : Nat) (w : World) (he : e.size < 64) (hn : n < 281474976710656) :
  Calls Tryz.prog 78 #[.string e, .int .i64 n] w fun r w' => r = .returned (.string (padB e n)) ∧ Below w.heap.size w w' := by
 have hmk : ∀ w : World, (Instr.makeSlice 153 (.int .i64 8) (.int .i64 8)).run Tryz.prog w = .ok (.slice (some ⟨w.heap.size, 0, none⟩) 8 8) (w.alloc (.cells #[.int .u8 0, .int .u8 0, .int .u8 0, .int .u8 0, .int .u8 0, .int .u8 0, .int .u8 0, .int .u8 0] 5)) := fun _ => by kernel_rfl
 go_enter Tryz.func78, Tryz.ntmps78
 go_wp2_with fail
 go_loopw [7, 8] (fun i l wr => RelP w (n * 8) i l wr) (fun i _ _ => (1 + intOf i).toNat)
 case atStart =>
  refine ⟨0, List.replicate 8 0, by omega, rfl, by simp, by simp, fun j h1 h2 => by omega, Blk.made rfl (by simp [C8]), (Below.refl _ _).alloc (Nat.le_refl _) _⟩
 case round =>
  obtain ⟨k, l, hk, rfl, rfl, hl, hls, hB, hbl⟩ := hrel
  have HL := Lib.hid hl
  have HS := Lib.hid hls
  clear hl hls
  by_cases hlt : k < 8
  ·obtain ⟨y, hy⟩ : ∃ y, l[7 - k]? = some y := ⟨l[7 - k]'(by have := HL.out; omega), by simp⟩
   have hc := hB.cellD (7 - k) (.int .u8 y.toNat) (by rw [List.getElem?_map, hy]; rfl)
   have HY := Lib.hid hy
   clear hy
   have hf := hB.frozen (7 - k)
   have hm : n * 8 / 256 ^ k ≤ n * 8 := Nat.div_le_self _ _
   have HD : Hid (n * 8 / 256 ^ (k + 1) = n * 8 / 256 ^ k / 256) := by show _ = _; rw [Nat.pow_succ, Nat.div_div_eq_div_mul]
   obtain ⟨m, em⟩ : ∃ m, m = n * 8 / 256 ^ k := ⟨_, rfl⟩
   rw [← em] at hm ⊢
   have EM := Lib.hid em
   clear em
   have i0 : (0 : Int) ≤ 7 - (k : Int) := by omega
   have i1 : (7 - (k : Int)) < 8 := by omega
   have i2 : (7 - (k : Int)).toNat = 7 - k := by omega
   have i3 : (k : Int) ≤ 7 := by omega
   go_wp2
   go_roundw
   case rel =>
    go_light
    exact relP_step hlt HL.out HS.out hB hbl _ _ _ (by omega) (by rw [HD.out, ← EM.out]; omega) (by rw [← EM.out])
   case measure => simp [intOf]; omega
  ·obtain rfl : k = 8 := by omega
   clear hlt hk
   have hL := be8_of HL.out HS.out
   rw [hL] at hB
   clear hL HL HS
   go_wp2_with fail
   have hz : (((119 - e.size) % 64 : Nat) : Int) = (119 - (e.size : Int)) % 64 := by omega
   obtain ⟨z, ez⟩ : ∃ z, z = (119 - e.size) % 64 := ⟨_, rfl⟩
   have hz2 : z < 64 := by omega
   rw [← ez] at hz
   generalize ha : Act.mk _ _ = a
   have sz : a.tmps.size = 36 := by rw [← ha]; rfl
   have s0 : a.tmps[0]'(by omega) = .string e := by subst ha; rfl
   have s5 : a.tmps[5]'(by omega) = .int .i64 z := by subst ha; rw [hz]; rfl
   have s6 : a.tmps[6]'(by omega) = .slice (some ⟨w.heap.size, 0, none⟩) 8 8 := by subst ha; rfl
   have HA := Lib.hid ha
   have HZ := Lib.hid ez
   clear ha hz ez
   have r1 : (Lib.repeatL [0] z).length = z := by rw [Lib.repeatL_length]; simp
   have r2 := be8_len (n * 8)
   refine Free.wp_region_free 9 [(3, .det (.string ⟨(Lib.repeatL [0] z).toArray⟩))] (fun w2 => Blk w2 w.heap.size ((be8 (n * 8)).map C8) 5) (by kernel_rfl) (by kernel_rfl) ?_ hB (fun _ _ h g => h.below g h.lt) ?_
   ·intro j mk r hf
    simp only [Free.find] at hf
    repeat' split at hf
    all_goals (first | cases hf | skip)
   ·simp only [List.take_succ_cons, List.take_zero]
    iterate 3 (apply Free.chain_still rfl rfl; (intro w' hb hA; clear hA; go_light; go_simp <;> (first | rfl | (rw [if_neg (by omega)]))))
    apply Free.chain_det rfl rfl
    ·intro w' hb hA
     refine Free.opRun_call (by go_simp; exact ⟨rfl, rfl⟩) ?_
     refine (Tryz.strings_Repeat ⟨#[0]⟩ z _ (by omega) (by show 1 * z ≤ _; omega)).mono ?_
     rintro e w2 ⟨rfl, hb2⟩
     exact ⟨_, rfl, hb2, rfl⟩
    iterate 2 (apply Free.chain_still rfl rfl; (intro w' hb hA; clear hA; go_light; go_simp <;> (first | rfl | (rw [if_neg (by omega)]))))
    apply Free.chain_still rfl rfl
    ·intro w' hb hA
     clear hA
     go_light
     have hcv := conv_bytes (P := Tryz.prog) (cap := 8) (be8 (n * 8)) Tryz.underlying153 Tryz.underlying5 Tryz.underlying9 hb (fun j hj => by rw [List.getElem?_map, List.getElem?_eq_getElem hj]; rfl)
     rw [be8_len] at hcv
     go_simp <;> rfl
    iterate 2 (apply Free.chain_still rfl rfl; (intro w' hb hA; clear hA; go_light; go_simp <;> (first | rfl | (rw [if_neg (by omega)]))))
    apply Free.chain_nil
    intro w2 _ hg _
    have hg' := grow_drew hg
    have q3 : Below w.heap.size w w2 := hbl.trans (hg'.mono hbl.size)
    clear hg hg' s0 s5 s6 sz
    simp only [List.drop_succ_cons, List.drop_zero]
    obtain rfl := HA.out
    go_wp2
    go_ret
    have ep : padB e n = e ++ ⟨#[128]⟩ ++ ⟨(Lib.repeatL [0] z).toArray⟩ ++ ⟨(be8 (n * 8)).toArray⟩ := by rw [padB, ← HZ.out]
    exact ⟨by rw [ep]; rfl, q3⟩
end Go.Proofs.YtekfoaenomgjgaaGreatDoor
