/- The plain law of the digest's two paddings (layer 28): the reference's blocks are the digest's. No program. -/
import Derived.Test.YtamiaalfjmppaaaDoorRefD
namespace Go.Proofs.YtamiaalfjmppaaaDoor
open Go.RowKit Go.W32 Go.Blk

theorem blocks_congr (K : List UInt32) (t t' : ByteArray) (x : S8) : ∀ k, (∀ j, j < k → t.extract (64 * j) (64 * j + 64) = t'.extract (64 * j) (64 * j + 64)) → blocks K t x k = blocks K t' x k
  | 0, _ => rfl
  | k + 1, h => by rw [blocks, blocks, blocks_congr K t t' x k (fun j hj => h j (by omega)), h k (by omega)]
theorem blocks_split (K : List UInt32) (T p : ByteArray) (x : S8) (n : Nat) : ∀ m, (∀ j, j < m → T.extract (64 * (n + j)) (64 * (n + j) + 64) = p.extract (64 * j) (64 * j + 64)) → blocks K T x (n + m) = blocks K p (blocks K T x n) m
  | 0, _ => rfl
  | m + 1, h => by rw [← Nat.add_assoc, blocks, blocks, blocks_split K T p x n m (fun j hj => h j (by omega)), h m (by omega)]
theorem repeat_zero : ∀ n, Lib.repeatL [(0 : UInt8)] n = List.replicate n 0
  | 0 => rfl
  | n + 1 => by rw [List.replicate_succ, ← repeat_zero n]; rfl
theorem refP_eq (t : ByteArray) : refP t = t.extract 0 (64 * (t.size / 64)) ++ padB (t.extract (64 * (t.size / 64)) t.size) t.size := by
  have hs : (t.extract (64 * (t.size / 64)) t.size).size = t.size % 64 := by rw [ByteArray.size_extract]; omega
  have h0 : t.extract 0 (64 * (t.size / 64)) ++ t.extract (64 * (t.size / 64)) t.size = t := by
    rw [ByteArray.extract_append_extract]
    have : min 0 (64 * (t.size / 64)) = 0 := by omega
    have h2 : max (64 * (t.size / 64)) t.size = t.size := by omega
    rw [this, h2, ByteArray.extract_zero_size]
  unfold padB
  rw [hs, repeat_zero, ← ByteArray.append_assoc, ← ByteArray.append_assoc, ← ByteArray.append_assoc, h0]
  have e1 : (119 - t.size % 64) % 64 = (119 - t.data.toList.length % 64) % 64 := by rw [show t.data.toList.length = t.size from Array.length_toList]
  apply ByteArray.ext
  simp only [ByteArray.data_append]
  rw [show (refP t).data = (refPadL t.data.toList).toArray from rfl]
  apply Array.toList_inj.1
  rw [refPadL, show t.data.toList.length = t.size from Array.length_toList]
  simp
theorem split_lo (A p t : ByteArray) (n k : Nat) (hA : A = t.extract 0 (64 * n)) (hn : 64 * n ≤ t.size) (hk : k < n) : (A ++ p).extract (64 * k) (64 * k + 64) = t.extract (64 * k) (64 * k + 64) := by
  have ht : t.size = t.data.size := rfl
  apply ByteArray.ext
  subst hA
  simp only [ByteArray.data_extract, ByteArray.data_append]
  apply Array.ext_getElem?
  intro i
  simp only [Array.getElem?_extract, Array.getElem?_append, Array.size_append, Array.size_extract]
  by_cases hi : i < 64
  · rw [if_pos (by omega), if_pos (by omega), if_pos (by omega), if_pos (by omega)]; congr 1; omega
  · rw [if_neg (by omega), if_neg (by omega)]
theorem split_hi (A p : ByteArray) (n j : Nat) (hA : A.size = 64 * n) : (A ++ p).extract (64 * (n + j)) (64 * (n + j) + 64) = p.extract (64 * j) (64 * j + 64) := by
  have ht : A.size = A.data.size := rfl
  apply ByteArray.ext
  simp only [ByteArray.data_extract, ByteArray.data_append]
  apply Array.ext_getElem?
  intro i
  simp only [Array.getElem?_extract, Array.getElem?_append, Array.size_append]
  by_cases hi : i < min (64 * (n + j) + 64) (A.data.size + p.data.size) - 64 * (n + j)
  · rw [if_pos hi, if_neg (by omega), if_pos (by omega)]; congr 1; omega
  · rw [if_neg hi, if_neg (by omega)]
theorem ref_blocks (K : List UInt32) (t : ByteArray) : blocks K (refP t) H0 ((refP t).size / 64) = blocks K (padB (t.extract (64 * (t.size / 64)) t.size) t.size) (blocks K t H0 (t.size / 64)) ((padB (t.extract (64 * (t.size / 64)) t.size) t.size).size / 64) := by
  have hA : (t.extract 0 (64 * (t.size / 64))).size = 64 * (t.size / 64) := by rw [ByteArray.size_extract]; omega
  rw [refP_eq]
  generalize hp : padB (t.extract (64 * (t.size / 64)) t.size) t.size = p
  have e : (t.extract 0 (64 * (t.size / 64)) ++ p).size / 64 = t.size / 64 + p.size / 64 := by rw [ByteArray.size_append, hA]; omega
  rw [e, blocks_split K _ p H0 (t.size / 64) _ (fun j _ => split_hi _ p _ j hA)]
  congr 1
  exact blocks_congr K _ t H0 _ (fun j hj => split_lo _ p t (t.size / 64) j rfl (by omega) hj)
/-- The digest's words. -/
def wordsOf (K : List UInt32) (t : ByteArray) : S8 := blocks K (padB (t.extract (64 * (t.size / 64)) t.size) t.size) (blocks K t H0 (t.size / 64)) ((padB (t.extract (64 * (t.size / 64)) t.size) t.size).size / 64)
theorem sumB_words (K : List UInt32) (t : ByteArray) : sumB K t = ⟨(hexOf (wordsOf K t)).toArray⟩ := rfl
end Go.Proofs.YtamiaalfjmppaaaDoor
