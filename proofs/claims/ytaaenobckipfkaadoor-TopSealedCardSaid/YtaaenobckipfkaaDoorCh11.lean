/- Plain facts on Append: what it returns is a chain; the examples of the head of layer 31. No condition. -/
import Derived.Test.YtaaenobckipfkaaDoorCh10
import Derived.Test.YtaaenobckipfkaaDoorSgQ
namespace Go.Proofs.YtaaenobckipfkaaDoor
open Go.Sg Go.W32

theorem txE_sig (e : E31) (r s : Int) : txE { e with r := r, s := s } = txE e := rfl
theorem appN_tx (l : List E31) (house secret day : Int) (body : ByteArray) : txE (appN l house secret day body) = txE (nxE l house day body) := rfl
theorem misp_app (l : List E31) (house secret day : Int) (body : ByteArray) : misp l (appN l house secret day body) house = misp l (nx0 l house day body) house := rfl
theorem appE_ok {l : List E31} {house secret day : Int} {body : ByteArray} (h : appE l house secret day body = 0) : isSec secret ∧ (chk l house (pubV secret)).1 = 0 ∧ misp l (nx0 l house day body) house = 0 := by
  unfold appE at h
  split at h
  · rename_i hs
    split at h
    · rename_i hc; exact ⟨hs, hc, h⟩
    · rename_i hc; exact absurd h hc
  · cases h
theorem sgnB_app {l : List E31} {house secret day : Int} {body : ByteArray} (hs : isSec secret) : sgnB (appN l house secret day body) (pubV secret) = true := by
  unfold sgnB
  rw [appN_tx]
  exact ver_sign hs _
/-- What Append returns is a chain. -/
theorem app_chk {l : List E31} {house secret day : Int} {body : ByteArray} (h : appE l house secret day body = 0) : (chk (l ++ [appN l house secret day body]) house (pubV secret)).1 = 0 := by
  obtain ⟨hs, hc, hm⟩ := appE_ok h
  obtain ⟨hk, ha⟩ := (chk_ok_iff l house _).1 hc
  refine (chk_ok_iff _ _ _).2 ⟨hk, fun i e he => ?_⟩
  by_cases hi : i < l.length
  · rw [List.getElem?_append_left hi] at he
    rw [← ha i e he]
    unfold chk1
    rw [List.take_append_of_le_length (Nat.le_of_lt hi)]
  · have hil : i = l.length := by
      have := (List.getElem?_eq_some_iff.1 he).1
      simp at this; omega
    subst hil
    simp at he
    subst he
    unfold chk1
    rw [List.take_left, misp_app, hm, if_pos rfl]
    have e1 : (appN l house secret day body).prev = prevE l := rfl
    rw [e1]
    have e2 : verB (pubV secret) (txE (appN l house secret day body)) (appN l house secret day body).r (appN l house secret day body).s = true := sgnB_app hs
    rw [e2]; simp

theorem pw7_small (n : Nat) (h : n < 2 ^ 32) : power 7 (n : Int) = (fast 32 7 n 1 : Nat) := by
  rw [power_in (by decide) (by decide) (by omega), Int.toNat_natCast, show (7 : Int).toNat = 7 from rfl, pw_fast 7 n h]
theorem p7_5 : power 7 5 = 16807 := (pw7_small 5 (by decide)).trans (by decide +kernel)
theorem sec5 : isSec 5 := by decide
theorem pubV5 : pubV 5 = 16807 := (pubV_in sec5).trans p7_5
def ta : ByteArray := ⟨#[101, 110, 116, 114, 121, 32, 48, 32, 48, 32, 51, 32, 48, 32, 97]⟩
def tc : ByteArray := ⟨#[101, 110, 116, 114, 121, 32, 48, 32, 48, 32, 51, 32, 48, 32, 99]⟩
theorem dec0 : dec 0 = ⟨#[48]⟩ := (dec_small 0 (by decide)).trans rfl
theorem dec3 : dec 3 = ⟨#[51]⟩ := (dec_small 3 (by decide)).trans rfl
theorem dec5 : dec 5 = ⟨#[53]⟩ := (dec_small 5 (by decide)).trans rfl
theorem decY : dec 16807 = ⟨#[49, 54, 56, 48, 55]⟩ := by
  have h1 := dec_big 16807 (by decide)
  have h2 := dec_big 1680 (by decide)
  have h3 := dec_big 168 (by decide)
  have h4 := dec_big 16 (by decide)
  have h5 := dec_small 1 (by decide)
  simp only [Nat.reduceDiv, Nat.reduceMod] at h1 h2 h3 h4
  refine h1.trans ?_
  rw [h2, h3, h4, h5]; decide +kernel
theorem decR : dec 1489275650 = ⟨#[49, 52, 56, 57, 50, 55, 53, 54, 53, 48]⟩ := by
  have h1 := dec_big 1489275650 (by decide)
  have h2 := dec_big 148927565 (by decide)
  have h3 := dec_big 14892756 (by decide)
  have h4 := dec_big 1489275 (by decide)
  have h5 := dec_big 148927 (by decide)
  have h6 := dec_big 14892 (by decide)
  have h7 := dec_big 1489 (by decide)
  have h8 := dec_big 148 (by decide)
  have h9 := dec_big 14 (by decide)
  have h10 := dec_small 1 (by decide)
  simp only [Nat.reduceDiv, Nat.reduceMod] at h1 h2 h3 h4 h5 h6 h7 h8 h9
  refine h1.trans ?_
  rw [h2, h3, h4, h5, h6, h7, h8, h9, h10]; decide +kernel
theorem ta_is : txE ⟨0, 0, 3, ⟨#[]⟩, ⟨#[97]⟩, 0, 0⟩ = ta := by
  have : txL ⟨0, 0, 3, ⟨#[]⟩, ⟨#[97]⟩, 0, 0⟩ = [101, 110, 116, 114, 121] ++ [32] ++ (dec 0).data.toList ++ [32] ++ (dec 0).data.toList ++ [32] ++ (dec 3).data.toList ++ [32] ++ (dec 0).data.toList ++ [32] ++ [] ++ [97] := by
    rfl
  unfold txE
  rw [this, dec0, dec3]; rfl
theorem tc_is : txE ⟨0, 0, 3, ⟨#[]⟩, ⟨#[99]⟩, 0, 0⟩ = tc := by
  have : txL ⟨0, 0, 3, ⟨#[]⟩, ⟨#[99]⟩, 0, 0⟩ = [101, 110, 116, 114, 121] ++ [32] ++ (dec 0).data.toList ++ [32] ++ (dec 0).data.toList ++ [32] ++ (dec 3).data.toList ++ [32] ++ (dec 0).data.toList ++ [32] ++ [] ++ [99] := by
    rfl
  unfold txE
  rw [this, dec0, dec3]; rfl
theorem k5a : sgK 5 ta = 406066904 := by
  unfold sgK sgT
  rw [dec5]; kernel_rfl
theorem r5a : sgR 5 ta = 1489275650 := by
  unfold sgR
  rw [k5a]; exact (pw7_small 406066904 (by decide)).trans (by decide +kernel)
theorem c5a : chal 1489275650 16807 ta = 84319894 := by
  unfold chal chT
  rw [decR, decY]; kernel_rfl
theorem c5c : chal 1489275650 16807 tc = 706663265 := by
  unfold chal chT
  rw [decR, decY]; kernel_rfl
theorem s5a : sgS 5 ta = 827666374 := by
  unfold sgS
  rw [pubV5, r5a, k5a, c5a]; rfl
theorem pwY (n : Nat) (h : n < 2 ^ 32) : power 16807 (n : Int) = (fast 32 16807 n 1 : Nat) := by
  rw [power_in (by decide) (by decide) (by omega), Int.toNat_natCast, show (16807 : Int).toNat = 16807 from rfl, pw_fast 16807 n h]
theorem ver_ac : verB 16807 tc (sgR 5 ta) (sgS 5 ta) = false := by
  rw [r5a, s5a]
  unfold verB
  rw [c5c]
  have e1 : power 7 827666374 = 1168526879 := (pw7_small 827666374 (by decide)).trans (by decide +kernel)
  have e2 : power 16807 706663265 = 1655303818 := (pwY 706663265 (by decide)).trans (by decide +kernel)
  rw [e1, e2]; decide
end Go.Proofs.YtaaenobckipfkaaDoor
