/- Package file: the text of a fact. Condition: the variables of digest and of strconv hold their numbers. -/
import Derived.Test.YtamiaalfjmppaaaDoorSgI
import Derived.Test.YtamiaalfjmppaaaDoorBlk
import Derived.Test.YtamiaalfjmppaaaDoorOpn
namespace Go.Proofs.YtamiaalfjmppaaaDoor
open Go.RowKit Go.Blk

/-- A fact. -/
structure Fac where
  ref : Int
  act : Int
  low : Int
  high : Int
  filed : Int
  secret : Bool
def encF (x : Fac) : List Value := [.int .i64 x.ref, .int .i64 x.act, .int .i64 x.low, .int .i64 x.high, .int .i64 x.filed, .bool x.secret]
structure Fac.Ok (x : Fac) : Prop where
  r0 : -9223372036854775808 ≤ x.ref
  r1 : x.ref ≤ 9223372036854775807
  a0 : -9223372036854775808 ≤ x.act
  a1 : x.act ≤ 9223372036854775807
  l0 : -9223372036854775808 ≤ x.low
  l1 : x.low ≤ 9223372036854775807
  h0 : -9223372036854775808 ≤ x.high
  h1 : x.high ≤ 9223372036854775807
  f0 : -9223372036854775808 ≤ x.filed
  f1 : x.filed ≤ 9223372036854775807
def secN (b : Bool) : Int := if b then 1 else 0
def numF (x : Fac) : Nat → Int
  | 0 => x.ref
  | 1 => x.act
  | 2 => x.low
  | 3 => x.high
  | 4 => x.filed
  | _ => secN x.secret
/-- The text of a fact so far. -/
def bdP (x : Fac) : Nat → ByteArray
  | 0 => ⟨#[102, 97, 99, 116]⟩
  | k + 1 => bdP x k ++ (⟨#[32]⟩ ++ dec (numF x k))
def bdF (x : Fac) : ByteArray := bdP x 6
theorem numF_ok {x : Fac} (h : x.Ok) : ∀ k, -9223372036854775808 ≤ numF x k ∧ numF x k ≤ 9223372036854775807
  | 0 => ⟨h.r0, h.r1⟩
  | 1 => ⟨h.a0, h.a1⟩
  | 2 => ⟨h.l0, h.l1⟩
  | 3 => ⟨h.h0, h.h1⟩
  | 4 => ⟨h.f0, h.f1⟩
  | _ + 5 => by show _ ≤ secN x.secret ∧ secN x.secret ≤ _; unfold secN; split <;> omega
theorem bdP_size {x : Fac} (h : x.Ok) : ∀ k, (bdP x k).size ≤ 4 + 22 * k
  | 0 => Nat.le_refl 4
  | k + 1 => by
    have := bdP_size h k
    have h2 := dec_size _ (numF_ok h k).1 (numF_ok h k).2
    have h3 : (⟨#[32]⟩ : ByteArray).size = 1 := rfl
    show (bdP x k ++ (⟨#[32]⟩ ++ dec (numF x k))).size ≤ _
    rw [ByteArray.size_append, ByteArray.size_append, h3]; omega
set_option maxRecDepth 100000 in
theorem idx6 (a b c d e f v : Int) (k : Nat) (hk : k < 6) (hv : (#[Value.int .i64 a, .int .i64 b, .int .i64 c, .int .i64 d, .int .i64 e, .int .i64 f] : Array Value)[k]? = some (.int .i64 v)) (W : World) :
    (Instr.index 94 (.agg #[.int .i64 a, .int .i64 b, .int .i64 c, .int .i64 d, .int .i64 e, .int .i64 f]) (.int .i64 (k : Int))).run Tryd.prog W = .ok (.int .i64 v) W := by
  match k, hk with
  | 0, _ => cases hv; go_simp <;> rfl
  | 1, _ => cases hv; go_simp <;> rfl
  | 2, _ => cases hv; go_simp <;> rfl
  | 3, _ => cases hv; go_simp <;> rfl
  | 4, _ => cases hv; go_simp <;> rfl
  | 5, _ => cases hv; go_simp <;> rfl
def RBD (w : World) (x : Fac) (t i : Value) (wr : World) : Prop := ∃ k : Nat, k ≤ 6 ∧ i = .int .i64 k ∧ t = .string (bdP x k) ∧ Below w.heap.size w wr
set_option maxRecDepth 100000 in
set_option maxHeartbeats 2000000 in
theorem body_any (x0 : Fac) (w : World) (ho : x0.Ok) (hT : HasT w) :
    Calls Tryd.prog 37 #[.agg (encF x0).toArray] w fun e w' => e = .returned (.string (bdF x0)) ∧ Below w.heap.size w w' := by
  have NOK := Lib.hid (numF_ok ho)
  have SZ := Lib.hid (bdP_size ho)
  have HT := Lib.hid hT
  have HST : Hid (RBD w x0 (.string ⟨#[102, 97, 99, 116]⟩) (.int .i64 0) (w.alloc (.cells (encF x0).toArray 25))) := ⟨0, by decide, rfl, rfl, (Below.refl _ _).alloc (Nat.le_refl _) _⟩
  have HIX : Hid (∀ k, k < 6 → (#[Value.int .i64 x0.ref, .int .i64 x0.act, .int .i64 x0.low, .int .i64 x0.high, .int .i64 x0.filed, .int .i64 (secN x0.secret)] : Array Value)[k]? = some (.int .i64 (numF x0 k))) := by
    intro k hk
    match k, hk with
    | 0, _ => rfl
    | 1, _ => rfl
    | 2, _ => rfl
    | 3, _ => rfl
    | 4, _ => rfl
    | 5, _ => rfl
  obtain ⟨R, eR⟩ : ∃ R, R = bdP x0 6 := ⟨_, rfl⟩
  show Calls Tryd.prog 37 #[.agg (encF x0).toArray] w fun e w' => e = .returned (.string (bdP x0 6)) ∧ Below w.heap.size w w'
  clear hT ho eR
  cases hsec : x0.secret with
  | true =>
    obtain ⟨xr, xa, xl, xh, xf, xs⟩ := x0
    dsimp only at hsec
    subst hsec
    obtain ⟨x0, ex0⟩ : ∃ x0 : Fac, x0 = ⟨xr, xa, xl, xh, xf, true⟩ := ⟨_, rfl⟩
    have HIX2 : Hid (∀ k, k < 6 → (#[Value.int .i64 xr, .int .i64 xa, .int .i64 xl, .int .i64 xh, .int .i64 xf, .int .i64 1] : Array Value)[k]? = some (.int .i64 (numF x0 k))) := by rw [ex0]; exact HIX
    rw [← ex0] at NOK SZ
    have HST2 : Hid (RBD w x0 (.string ⟨#[102, 97, 99, 116]⟩) (.int .i64 0) (w.alloc (.cells #[.int .i64 xr, .int .i64 xa, .int .i64 xl, .int .i64 xh, .int .i64 xf, .bool true] 25))) := by rw [ex0]; exact HST
    rw [← ex0]
    clear HIX HST
    have HIX := HIX2
    have HST := HST2
    clear HIX2 HST2
    have EX := Lib.hid ex0
    rw [show encF x0 = [.int .i64 xr, .int .i64 xa, .int .i64 xl, .int .i64 xh, .int .i64 xf, .bool true] by rw [ex0]; rfl]
    clear ex0
    go_enter Tryd.func37, Tryd.ntmps37
    go_wp2_with fail
    go_loopw [4, 21] (fun t i wr => RBD w x0 t i wr) (fun _ i _ => 6 - (intOf i).toNat)
    case atStart => exact HST.out
    case round =>
      clear HST
      obtain ⟨k, hk, rfl, rfl, hbr⟩ := hrel
      have HBR := Lib.hid hbr
      clear hbr
      by_cases hk6 : k < 6
      · have nk := NOK.out k
        have sz := SZ.out k
        have hki : (k : Int) < 6 := by omega
        have k00 : (0 : Int) ≤ (k : Int) := by omega
        have hix := HIX.out k hk6
        obtain ⟨v, ev⟩ : ∃ v, v = numF x0 k := ⟨_, rfl⟩
        rw [← ev] at hix nk
        have hidx := idx6 _ _ _ _ _ _ v k hk6 hix
        have hds := dec_size v nk.1 nk.2
        have IT := Lib.hid (fun w hT => itoa_any v w nk.1 nk.2 hT)
        have BP : Hid (bdP x0 (k + 1) = bdP x0 k ++ (⟨#[32]⟩ ++ dec v)) := by show _ = _; rw [ev]; rfl
        obtain ⟨tk, etk⟩ : ∃ tk, tk = bdP x0 k := ⟨_, rfl⟩
        rw [← etk] at sz BP ⊢
        have z1 : ¬ 9223372036854775807 < 1 + (dec v).size := by omega
        have z2 : ¬ 9223372036854775807 < tk.size + (1 + (dec v).size) := by omega
        clear hix ev etk
        go_wp2_with fail
        refine (IT.out _ (HT.out.below HBR.out (Nat.le_refl _))).mono ?_
        rintro e w3 ⟨rfl, hb3⟩
        have KEY : Hid (RBD w x0 (.string (tk ++ (⟨#[32]⟩ ++ dec v))) (.int .i64 ((k : Int) + 1)) w3) := ⟨k + 1, hk6, by go_num, by rw [BP.out], HBR.out.trans (hb3.mono HBR.out.size)⟩
        clear hb3 HBR IT BP hidx
        go_wp2_with fail
        go_roundw
        case rel =>
          go_light
          have key := KEY.out
          first | exact key | ((repeat apply Exists.intro); exact ⟨key, rfl⟩)
        case measure => simp [intOf]; omega
      · obtain rfl : k = 6 := by omega
        go_wp2_with fail
        go_ret
        exact ⟨rfl, HBR.out⟩
  | false =>
    obtain ⟨xr, xa, xl, xh, xf, xs⟩ := x0
    dsimp only at hsec
    subst hsec
    obtain ⟨x0, ex0⟩ : ∃ x0 : Fac, x0 = ⟨xr, xa, xl, xh, xf, false⟩ := ⟨_, rfl⟩
    have HIX2 : Hid (∀ k, k < 6 → (#[Value.int .i64 xr, .int .i64 xa, .int .i64 xl, .int .i64 xh, .int .i64 xf, .int .i64 0] : Array Value)[k]? = some (.int .i64 (numF x0 k))) := by rw [ex0]; exact HIX
    rw [← ex0] at NOK SZ
    have HST2 : Hid (RBD w x0 (.string ⟨#[102, 97, 99, 116]⟩) (.int .i64 0) (w.alloc (.cells #[.int .i64 xr, .int .i64 xa, .int .i64 xl, .int .i64 xh, .int .i64 xf, .bool false] 25))) := by rw [ex0]; exact HST
    rw [← ex0]
    clear HIX HST
    have HIX := HIX2
    have HST := HST2
    clear HIX2 HST2
    have EX := Lib.hid ex0
    rw [show encF x0 = [.int .i64 xr, .int .i64 xa, .int .i64 xl, .int .i64 xh, .int .i64 xf, .bool false] by rw [ex0]; rfl]
    clear ex0
    go_enter Tryd.func37, Tryd.ntmps37
    go_wp2_with fail
    go_loopw [4, 21] (fun t i wr => RBD w x0 t i wr) (fun _ i _ => 6 - (intOf i).toNat)
    case atStart => exact HST.out
    case round =>
      clear HST
      obtain ⟨k, hk, rfl, rfl, hbr⟩ := hrel
      have HBR := Lib.hid hbr
      clear hbr
      by_cases hk6 : k < 6
      · have nk := NOK.out k
        have sz := SZ.out k
        have hki : (k : Int) < 6 := by omega
        have k00 : (0 : Int) ≤ (k : Int) := by omega
        have hix := HIX.out k hk6
        obtain ⟨v, ev⟩ : ∃ v, v = numF x0 k := ⟨_, rfl⟩
        rw [← ev] at hix nk
        have hidx := idx6 _ _ _ _ _ _ v k hk6 hix
        have hds := dec_size v nk.1 nk.2
        have IT := Lib.hid (fun w hT => itoa_any v w nk.1 nk.2 hT)
        have BP : Hid (bdP x0 (k + 1) = bdP x0 k ++ (⟨#[32]⟩ ++ dec v)) := by show _ = _; rw [ev]; rfl
        obtain ⟨tk, etk⟩ : ∃ tk, tk = bdP x0 k := ⟨_, rfl⟩
        rw [← etk] at sz BP ⊢
        have z1 : ¬ 9223372036854775807 < 1 + (dec v).size := by omega
        have z2 : ¬ 9223372036854775807 < tk.size + (1 + (dec v).size) := by omega
        clear hix ev etk
        go_wp2_with fail
        refine (IT.out _ (HT.out.below HBR.out (Nat.le_refl _))).mono ?_
        rintro e w3 ⟨rfl, hb3⟩
        have KEY : Hid (RBD w x0 (.string (tk ++ (⟨#[32]⟩ ++ dec v))) (.int .i64 ((k : Int) + 1)) w3) := ⟨k + 1, hk6, by go_num, by rw [BP.out], HBR.out.trans (hb3.mono HBR.out.size)⟩
        clear hb3 HBR IT BP hidx
        go_wp2_with fail
        go_roundw
        case rel =>
          go_light
          have key := KEY.out
          first | exact key | ((repeat apply Exists.intro); exact ⟨key, rfl⟩)
        case measure => simp [intOf]; omega
      · obtain rfl : k = 6 := by omega
        go_wp2_with fail
        go_ret
        exact ⟨rfl, HBR.out⟩
end Go.Proofs.YtamiaalfjmppaaaDoor
