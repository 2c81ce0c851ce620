/- An append to a new empty list of texts; reading of lists as texts. No condition. -/
import Derived.Test.YthfjaaigncjhlaaDoorZ45C
namespace Go.Proofs.YthfjaaigncjhlaaDoor
open Go.RowKit Go.Blk Go.Jn Go.Dk Go.Mp Go.Rf Go.Shelf Go.Apl Go.Opn

theorem flat_one (l : List ByteArray) : l.flatMap encS = l.map Value.string := by
  induction l with
  | nil => rfl
  | cons a r ih => rw [List.flatMap_cons, List.map_cons, ih]; rfl
theorem recsOf_map (l : List (List UInt8)) : recsOf (l.map tx) = l := by
  unfold recsOf
  rw [List.map_map]
  exact (List.map_congr_left (fun x _ => show (tx x).data.toList = x by simp [tx])).trans (List.map_id l)
theorem pair_ex (g c : Nat) (h : c ≤ 9223372036854775807) : ∃ y, fstN y = g ∧ sndN y = c := ⟨pairN g c, fst_pair (by omega), snd_pair (by omega)⟩
theorem rowB {w w' : World} {B e s n : Nat} {v : Value} {xs : List Value} (h : w.ownsRow B e s v n xs) (hb : Below w.heap.size w w') : w'.ownsRow B e s v n xs :=
  row_keep h fun k hk => hb.block k (World.ownsRow.lt h k hk).2
theorem append_newJ (w : World) (ty : TypeId) (base b0 : Nat) (hb0 : w.heap[b0]? = some (.cells #[] 9 (0, 0))) (hbase : base ≤ b0) (A : Option Addr) (c n : Nat) (l : List ByteArray) (hn : n = l.length) (hs : SL w 1 encS A l) (hl : l.length ≤ 1000000) :
    ∃ g cap w', (Builtin.append_ #[28, 28] ty #[.slice (some ⟨b0, 0, none⟩) 0 0, .slice A n c]).run Tryd.prog w = .ok (.slice (some ⟨g, 0, none⟩) n cap) w' ∧ w'.ownsRow base 9 1 (.slice (some ⟨g, 0, none⟩) n cap) n (l.flatMap encS) ∧ Free.Grow w w' ∧ cap ≤ 9223372036854775807 := by
  subst hn
  obtain ⟨i0, hi, hz0, hz1, hz2⟩ := info_parts infoStr
  have hlt : b0 < w.heap.size := (Array.getElem?_eq_some_iff.1 hb0).1
  by_cases h0 : l = []
  · subst h0
    obtain ⟨w', hr, hg, hh⟩ := append_list (P := Tryd.prog) (ec := encS) w 28 ty 9 i0 Tryd.underlying28 hi hz1 encSlen encSone b0 0 0 #[] hb0 A c [] hs (Nat.le_refl _) rfl
    have hh : w'.heap[b0]? = some (.cells #[] 9 (0, 0)) := hh
    refine ⟨b0, 0, w', hr, ⟨rfl, .inr ⟨b0, 0, #[], rfl, hbase, hh, Nat.le_refl _, Nat.zero_le _, rfl, rfl⟩⟩, ⟨hg.os, hg.tape, hg.output, hg.size, fun k hk => ?_⟩, Nat.zero_le _⟩
    by_cases e : k = b0
    · subst e; rw [hh, hb0]
    · exact hg.block k hk (by simpa using e)
  · obtain ⟨b, off, rfl, _⟩ := hs.cells h0
    have hpos : 0 < l.length := List.length_pos_iff.2 h0
    have hown : w.ownsRow base 9 1 (.slice (some ⟨b0, 0, none⟩) 0 0) 0 [] := ⟨rfl, .inr ⟨b0, 0, #[], rfl, hbase, hb0, Nat.le_refl _, Nat.zero_le _, rfl, rfl⟩⟩
    obtain ⟨cap, w', hr, hrow, hg⟩ := Apk.append_grows (P := Tryd.prog) w base 28 ty 9 i0 _ 1 16 Tryd.underlying28 hi hz0 hz1 hz2 rfl (by decide) _ 0 [] hown ⟨b, off, none⟩ l.length c (l.flatMap encS) (flat_len encSlen l) (sl_flat encSlen hs) (fun u hu => by
      obtain ⟨x, _, hx⟩ := List.mem_flatMap.1 hu
      exact encSone x u hx) (by have : maxLen = 9223372036854775807 := rfl; omega) (by omega) (by omega) hpos (fun g cap e => by cases e; omega)
    rw [Nat.zero_add] at hr hrow
    refine ⟨w.heap.size, cap, w', hr, hrow, ⟨hg.os, hg.tape, hg.output, hg.size, fun k hk => hg.block k hk (by simp)⟩, ?_⟩
    rcases hrow.2 with ⟨e, _⟩ | ⟨g, cp, cur, e, _, _, _, h5, _⟩
    · cases e
    · cases e; exact h5
end Go.Proofs.YthfjaaigncjhlaaDoor
