/- The fixed examples of the law 34: plain facts. No condition. -/
import Derived.Test.YtamiaalfjmppaaaDoorDj3
namespace Go.Proofs.YtamiaalfjmppaaaDoor
open Go.Di Go.Sg Go.W32

def hxF : Fac := ⟨1, 0, 0, 2, 0, false⟩
def hyF : Fac := ⟨2, 0, 0, 2, 0, false⟩
theorem hx_ok : hxF.Ok := ⟨by decide, by decide, by decide, by decide, by decide, by decide, by decide, by decide, by decide, by decide⟩
theorem hy_ok : hyF.Ok := ⟨by decide, by decide, by decide, by decide, by decide, by decide, by decide, by decide, by decide, by decide⟩
def sS : ByteArray := ⟨#[115]⟩
def sT : ByteArray := ⟨#[116]⟩
def sC : ByteArray := ⟨#[99]⟩
theorem dec_2 : dec 2 = ⟨#[50]⟩ := by
  have := small_dec 2 (by decide)
  exact this.trans (by decide +kernel)
theorem dec_64 : dec 64 = ⟨#[54, 52]⟩ := by
  have h1 := big_dec 64 (by decide)
  have h2 := small_dec 6 (by decide)
  refine h1.trans ?_
  show dec ((6 : Nat) : Int) ++ _ = _
  rw [h2]; decide +kernel
theorem bd_x : bdF hxF = ⟨#[102, 97, 99, 116, 32, 49, 32, 48, 32, 48, 32, 50, 32, 48, 32, 48]⟩ := by
  rw [← bdR_eq]
  show bdR (dec 1) (dec 0) (dec 0) (dec 2) (dec 0) (dec 0) = _
  rw [dec_0, dec_1, dec_2]; decide +kernel
theorem bd_y : bdF hyF = ⟨#[102, 97, 99, 116, 32, 50, 32, 48, 32, 48, 32, 50, 32, 48, 32, 48]⟩ := by
  rw [← bdR_eq]
  show bdR (dec 2) (dec 0) (dec 0) (dec 2) (dec 0) (dec 0) = _
  rw [dec_0, dec_2]; decide +kernel
/-- A leaf of the examples, by its bytes. -/
def lfK (s r : UInt8) : ByteArray := sumB KC ⟨#[108, 101, 97, 102, 32, 49, 32, s, 102, 97, 99, 116, 32, r, 32, 48, 32, 48, 32, 50, 32, 48, 32, 48]⟩
def ndK (a b : ByteArray) : ByteArray := sumB KC (⟨#[110, 111, 100, 101, 32, 54, 52, 32]⟩ ++ a ++ b)
theorem leaf_xs : leafD hxF sS = lfK 115 49 := by
  unfold leafD tagD tagT lfK
  rw [bd_x, show ((sS.size : Nat) : Int) = 1 from rfl, dec_1]; rfl
theorem leaf_xt : leafD hxF sT = lfK 116 49 := by
  unfold leafD tagD tagT lfK
  rw [bd_x, show ((sT.size : Nat) : Int) = 1 from rfl, dec_1]; rfl
theorem leaf_ys : leafD hyF sS = lfK 115 50 := by
  unfold leafD tagD tagT lfK
  rw [bd_y, show ((sS.size : Nat) : Int) = 1 from rfl, dec_1]; rfl
theorem leaf_yt : leafD hyF sT = lfK 116 50 := by
  unfold leafD tagD tagT lfK
  rw [bd_y, show ((sT.size : Nat) : Int) = 1 from rfl, dec_1]; rfl
theorem node_k (a b : ByteArray) (h : a.size = 64) : nodeD a b = ndK a b := by
  unfold ndK
  rw [nodeD_eq, ← nodeT_eq, h, show (((64 : Nat)) : Int) = 64 from rfl, dec_64]
  congr 1
theorem lfK_size (s r : UInt8) : (lfK s r).size = 64 := sumB_size _
theorem ndK_size (a b : ByteArray) : (ndK a b).size = 64 := sumB_size _
theorem ne_of {a b : ByteArray} (h : (a.data.toList == b.data.toList) = false) : a ≠ b := fun e => by rw [e] at h; simp at h
theorem ne_1 : ndK (ndK (lfK 116 50) (lfK 115 49)) sC ≠ ndK (ndK (lfK 115 49) (lfK 116 50)) sC := ne_of (by kernel_rfl)
theorem ne_2 : ndK (ndK (lfK 115 49) (lfK 116 49)) sC ≠ ndK (ndK (lfK 115 49) (lfK 116 50)) sC := ne_of (by kernel_rfl)
theorem ne_3 : ndK (ndK (lfK 115 49) (lfK 115 50)) sC ≠ ndK (ndK (lfK 115 49) (lfK 116 50)) sC := ne_of (by kernel_rfl)
def hL : List ByteArray := [leafD hxF sS, leafD hyF sT, sC]
theorem half3 : half 3 = 2 := by decide +kernel
theorem half2 : half 2 = 1 := by decide +kernel
theorem lev_3_0 : lev 0 3 = [(2, true), (1, true)] := by
  rw [lev_more (by decide) (by decide), half3, if_pos (by decide), lev_more (by decide) (by decide), half2, if_pos (by decide), lev_small (by decide)]; rfl
theorem lev_3_1 : lev 1 3 = [(2, true), (1, false)] := by
  rw [lev_more (by decide) (by decide), half3, if_pos (by decide), lev_more (by decide) (by decide), half2, if_neg (by decide), lev_small (by decide)]; rfl
theorem lev_3_2 : lev 2 3 = [(2, false)] := by
  rw [lev_more (by decide) (by decide), half3, if_neg (by decide), lev_small (by decide)]; rfl
theorem root_2 (a b : ByteArray) : rootL [a, b] = nodeD a b := by
  rw [rootL_more (by simp) (by simp)]
  show nodeD (rootL ([a, b].take (half 2))) (rootL ([a, b].drop (half 2))) = _
  rw [half2]
  show nodeD (rootL [a]) (rootL [b]) = _
  rw [rootL_one, rootL_one]
theorem root_3 (a b c : ByteArray) : rootL [a, b, c] = nodeD (nodeD a b) c := by
  rw [rootL_more (by simp) (by simp)]
  show nodeD (rootL ([a, b, c].take (half 3))) (rootL ([a, b, c].drop (half 3))) = _
  rw [half3]
  show nodeD (rootL [a, b]) (rootL [c]) = _
  rw [rootL_one, root_2]
theorem path_3_1 (a b c : ByteArray) : pathL [a, b, c] 1 = [a, c] := by
  unfold pathL
  show (outP [a, b, c] (lev 1 3)).reverse = _
  rw [lev_3_1]
  show [rootL [c], rootL [a]].reverse = _
  rw [rootL_one, rootL_one]; rfl
theorem path_3_2 (a b c : ByteArray) : pathL [a, b, c] 2 = [nodeD a b] := by
  unfold pathL
  show (outP [a, b, c] (lev 2 3)).reverse = _
  rw [lev_3_2]
  show [rootL [a, b]].reverse = _
  rw [root_2]; rfl
def hR : ByteArray := nodeD (nodeD (leafD hxF sS) (leafD hyF sT)) sC
def hP : List ByteArray := [leafD hxF sS, sC]
theorem hR_k : hR = ndK (ndK (lfK 115 49) (lfK 116 50)) sC := by
  unfold hR
  rw [leaf_xs, leaf_yt, node_k _ _ (lfK_size _ _), node_k _ _ (ndK_size _ _)]
theorem chk_1 : checkD hR 3 1 hyF sT hP = true := by
  have := check_path hL 1 hyF sT (by decide) rfl
  rw [show rootL hL = hR from root_3 _ _ _, show pathL hL 1 = hP from path_3_1 _ _ _] at this
  exact this
theorem chk_2 : checkD hR 3 0 hyF sT hP = false := by
  unfold checkD
  rw [show upD (leafD hyF sT) (sidesL (0 : Int).toNat (3 : Int).toNat) hP.reverse = nodeD (nodeD (leafD hyF sT) (leafD hxF sS)) sC by
    show upD _ (sidesL 0 3) _ = _
    unfold sidesL; rw [lev_3_0]; rfl]
  rw [decide_eq_false (p := nodeD (nodeD (leafD hyF sT) (leafD hxF sS)) sC = hR) (by
    rw [hR_k, leaf_xs, leaf_yt, node_k _ _ (lfK_size _ _), node_k _ _ (ndK_size _ _)]; exact ne_1), Bool.and_false, Bool.and_false]
theorem chk_3 : checkD hR 3 1 hxF sT hP = false := by
  unfold checkD
  rw [show upD (leafD hxF sT) (sidesL (1 : Int).toNat (3 : Int).toNat) hP.reverse = nodeD (nodeD (leafD hxF sS) (leafD hxF sT)) sC by
    show upD _ (sidesL 1 3) _ = _
    unfold sidesL; rw [lev_3_1]; rfl]
  rw [decide_eq_false (p := nodeD (nodeD (leafD hxF sS) (leafD hxF sT)) sC = hR) (by
    rw [hR_k, leaf_xs, leaf_xt, node_k _ _ (lfK_size _ _), node_k _ _ (ndK_size _ _)]; exact ne_2), Bool.and_false, Bool.and_false]
theorem chk_4 : checkD hR 3 1 hyF sS hP = false := by
  unfold checkD
  rw [show upD (leafD hyF sS) (sidesL (1 : Int).toNat (3 : Int).toNat) hP.reverse = nodeD (nodeD (leafD hxF sS) (leafD hyF sS)) sC by
    show upD _ (sidesL 1 3) _ = _
    unfold sidesL; rw [lev_3_1]; rfl]
  rw [decide_eq_false (p := nodeD (nodeD (leafD hxF sS) (leafD hyF sS)) sC = hR) (by
    rw [hR_k, leaf_xs, leaf_ys, node_k _ _ (lfK_size _ _), node_k _ _ (ndK_size _ _)]; exact ne_3), Bool.and_false, Bool.and_false]
end Go.Proofs.YtamiaalfjmppaaaDoor
