/- Package chain: the text of an entry. Condition: the variables of digest and of strconv hold their numbers. -/
import Derived.Test.YtaaenobckipfkaaDoorBld
import Derived.Test.YtaaenobckipfkaaDoorOpn
import Derived.Test.YtaaenobckipfkaaDoorSgW
namespace Go.Proofs.YtaaenobckipfkaaDoor
open Go.RowKit Go.Blk

/-- An entry. -/
structure E31 where
  house : Int
  seq : Int
  day : Int
  prev : ByteArray
  body : ByteArray
  r : Int
  s : Int
def encE (e : E31) : List Value := [.int .i64 e.house, .int .i64 e.seq, .int .i64 e.day, .string e.prev, .string e.body, .int .i64 e.r, .int .i64 e.s]
structure E31.Ok (e : E31) : Prop where
  h0 : -9223372036854775808 ≤ e.house
  h1 : e.house ≤ 9223372036854775807
  q0 : -9223372036854775808 ≤ e.seq
  q1 : e.seq ≤ 9223372036854775807
  d0 : -9223372036854775808 ≤ e.day
  d1 : e.day ≤ 9223372036854775807
  r0 : -9223372036854775808 ≤ e.r
  r1 : e.r ≤ 9223372036854775807
  s0 : -9223372036854775808 ≤ e.s
  s1 : e.s ≤ 9223372036854775807
  p1 : e.prev.size ≤ 9223372036854775807
  b1 : e.body.size ≤ 9223372036854775807
/-- The text so far. -/
def numE (e : E31) : Nat → Int
  | 0 => e.house
  | 1 => e.seq
  | 2 => e.day
  | _ => e.prev.size
def txP (e : E31) : Nat → List UInt8
  | 0 => [101, 110, 116, 114, 121]
  | k + 1 => txP e k ++ [32] ++ (dec (numE e k)).data.toList
def txL (e : E31) : List UInt8 := txP e 4 ++ [32] ++ e.prev.data.toList ++ e.body.data.toList
def txE (e : E31) : ByteArray := ⟨(txL e).toArray⟩
def RT (w : World) (wb : World) (e : E31) (i : Value) (wr : World) : Prop := ∃ k : Nat, k ≤ 4 ∧ i = .int .i64 k ∧ Bld wb (w.heap.size + 1) (w.heap.size + 1) (txP e k) wr
theorem dec_len {n : Int} (h0 : -9223372036854775808 ≤ n) (h1 : n ≤ 9223372036854775807) : (dec n).data.toList.length ≤ 21 := by
  have := dec_size n h0 h1; simpa using this
theorem numE_ok {e : E31} (h : e.Ok) : ∀ k, -9223372036854775808 ≤ numE e k ∧ numE e k ≤ 9223372036854775807
  | 0 => ⟨h.h0, h.h1⟩
  | 1 => ⟨h.q0, h.q1⟩
  | 2 => ⟨h.d0, h.d1⟩
  | _ + 3 => ⟨by show _ ≤ (e.prev.size : Int); omega, by have := h.p1; show (e.prev.size : Int) ≤ _; omega⟩
theorem txP_len {e : E31} (h : e.Ok) : ∀ k, (txP e k).length ≤ 5 + 22 * k
  | 0 => by simp [txP]
  | k + 1 => by
    have ih := txP_len h k
    have := dec_len (numE_ok h k).1 (numE_ok h k).2
    simp only [txP, List.length_append, List.length_cons, List.length_nil]; omega
set_option maxRecDepth 100000 in
theorem idx4 (a b c d v : Int) (k : Nat) (hk : k < 4) (hv : (#[Value.int .i64 a, .int .i64 b, .int .i64 c, .int .i64 d] : Array Value)[k]? = some (.int .i64 v)) (W : World) :
    (Instr.index 80 (.agg #[.int .i64 a, .int .i64 b, .int .i64 c, .int .i64 d]) (.int .i64 (k : Int))).run Tryd.prog W = .ok (.int .i64 v) W := by
  match k, hk with
  | 0, _ => cases hv; go_simp <;> rfl
  | 1, _ => cases hv; go_simp <;> rfl
  | 2, _ => cases hv; go_simp <;> rfl
  | 3, _ => cases hv; go_simp <;> rfl
set_option maxRecDepth 100000 in
set_option maxHeartbeats 2000000 in
theorem text31_any (e0 : E31) (w : World) (ho : e0.Ok) (hp : e0.prev.size ≤ 1000000000) (hb : e0.body.size ≤ 1000000000) (hT : HasT w) :
    Calls Tryd.prog 19 #[.agg (encE e0).toArray] w fun e w' => e = .returned (.string (txE e0)) ∧ Below w.heap.size w w' := by
  have hsz : (w.alloc (.cells (encE e0).toArray 37)).heap.size = w.heap.size + 1 := by simp
  have blk : Blk (w.alloc (.cells (encE e0).toArray 37)) w.heap.size (encE e0) 37 := Blk.new w (encE e0) 37
  have hbw : Below w.heap.size w (w.alloc (.cells (encE e0).toArray 37)) := (Below.refl _ _).alloc (Nat.le_refl _) _
  have bn := Bld.new (w.alloc (.cells (encE e0).toArray 37)) (w.alloc (.cells (encE e0).toArray 37)) (w.heap.size + 1) (Below.refl _ _) (by omega)
  rw [hsz] at bn
  obtain ⟨wb, ewb⟩ : ∃ wb, wb = w.alloc (.cells (encE e0).toArray 37) := ⟨_, rfl⟩
  have LOW : Hid (∀ {wr : World}, Below (w.heap.size + 1) wb wr → Below w.heap.size w wr) := fun h => hbw.trans ((ewb ▸ h).mono (by omega))
  have S0 : Hid (Calls Tryd.prog 41 #[.pointer (some ⟨w.heap.size + 1, 0, none⟩), .string ⟨#[101, 110, 116, 114, 121]⟩] ((w.alloc (.cells (encE e0).toArray 37)).alloc (.cells #[.pointer none, .slice none 0 0] 79)) fun e w' => e = .returned (.tuple #[.int .i64 5, .nilIface]) ∧ Bld wb (w.heap.size + 1) (w.heap.size + 1) (txP e0 0) w') := by
    rw [ewb]; exact bn.str ⟨#[101, 110, 116, 114, 121]⟩ (by decide)
  have HT := Lib.hid hT
  rw [← ewb] at blk
  have HBK := Lib.hid blk
  have TLA := Lib.hid (txP_len ho)
  have NOK := Lib.hid (numE_ok ho)
  clear bn hT blk hbw hsz ewb
  obtain ⟨xh, xq, xd, xp, xb, xr, xs⟩ := e0
  go_enter Tryd.func19, Tryd.ntmps19
  go_wp2_with fail
  refine S0.out.mono ?_
  rintro e w1 ⟨rfl, hd1⟩
  obtain ⟨e0, ee⟩ : ∃ e0 : E31, e0 = ⟨xh, xq, xd, xp, xb, xr, xs⟩ := ⟨_, rfl⟩
  have HST : Hid (RT w wb e0 (.int .i64 0) w1) := ⟨0, by decide, rfl, by rw [ee]; exact hd1⟩
  have B1 := HBK.out.below hd1.bl (Nat.lt_succ_self _)
  have c0 := B1.cellD 0 _ rfl
  have c1 := B1.cellD 1 _ rfl
  have c2 := B1.cellD 2 _ rfl
  have c3 := B1.cellD 3 _ rfl
  rw [← ee] at HBK TLA NOK
  have n0 : numE e0 0 = xh := by rw [ee]; rfl
  have n1 : numE e0 1 = xq := by rw [ee]; rfl
  have n2 : numE e0 2 = xd := by rw [ee]; rfl
  have n3 : numE e0 3 = (xp.size : Int) := by rw [ee]; rfl
  have NN : Hid (numE e0 0 = xh ∧ numE e0 1 = xq ∧ numE e0 2 = xd ∧ numE e0 3 = (xp.size : Int)) := ⟨n0, n1, n2, n3⟩
  have EP : Hid (e0.prev = xp ∧ e0.body = xb) := by rw [ee]; exact ⟨rfl, rfl⟩
  have CE : Hid (encE e0 = [.int .i64 xh, .int .i64 xq, .int .i64 xd, .string xp, .string xb, .int .i64 xr, .int .i64 xs]) := by rw [ee]; rfl
  have EE := Lib.hid ee
  clear hd1 B1 S0 n0 n1 n2 n3 ee ho
  go_wp2_with fail
  go_loopw [17] (fun i wr => RT w wb e0 i wr) (fun i _ => 4 - (intOf i).toNat)
  case atStart => exact HST.out
  case round =>
    clear HST
    obtain ⟨k, hk, rfl, hd⟩ := hrel
    have hlen := TLA.out k
    by_cases hk4 : k < 4
    · have nk := NOK.out k
      have C1 := Lib.hid (hd.byte 32 (by omega))
      have nv : numE e0 k = if k = 0 then xh else if k = 1 then xq else if k = 2 then xd else (xp.size : Int) := by
        obtain ⟨n0, n1, n2, n3⟩ := NN.out
        match k, hk4 with
        | 0, _ => exact n0
        | 1, _ => exact n1
        | 2, _ => exact n2
        | 3, _ => exact n3
      obtain ⟨v, ev⟩ : ∃ v, v = numE e0 k := ⟨_, rfl⟩
      have hix : (#[Value.int .i64 xh, .int .i64 xq, .int .i64 xd, .int .i64 xp.size] : Array Value)[k]? = some (.int .i64 v) := by
        rw [ev, nv]
        match k, hk4 with
        | 0, _ => rfl
        | 1, _ => rfl
        | 2, _ => rfl
        | 3, _ => rfl
      rw [← ev] at nk
      have hidx := idx4 _ _ _ _ v k hk4 hix
      have EV := Lib.hid ev
      have hki : (k : Int) < 4 := by omega
      have k00 : (0 : Int) ≤ (k : Int) := by omega
      clear hd nv ev hix
      go_wp2_with fail
      refine C1.out.mono ?_
      rintro e w2 ⟨rfl, hd2⟩
      have D2 := Lib.hid hd2
      have HT2 := Lib.hid (HT.out.below (LOW.out hd2.bl) (Nat.le_refl _))
      have IT := Lib.hid (fun w hT => itoa_any v w nk.1 nk.2 hT)
      have HD := Lib.hid (dec_size v nk.1 nk.2)
      clear hd2 C1 hidx
      go_wp2_with fail
      refine (IT.out _ HT2.out).mono ?_
      rintro e w3 ⟨rfl, hb3⟩
      have D3 := Lib.hid (D2.out.grow hb3)
      clear D2 HT2 hb3
      go_wp2_with fail
      refine (D3.out.str (dec v) (by rw [List.length_append]; have := HD.out; simp only [List.length_cons, List.length_nil]; omega)).mono ?_
      rintro e w4 ⟨rfl, hd4⟩
      have KEY : Hid (RT w wb e0 (.int .i64 ((k : Int) + 1)) w4) := ⟨k + 1, hk4, by go_num, by rw [EV.out] at hd4; exact hd4⟩
      clear hd4 D3 IT HD
      go_wp2_with fail
      go_roundw
      case rel =>
        go_light
        have key := KEY.out
        first | exact key | ((repeat apply Exists.intro); exact ⟨key, rfl⟩)
      case measure => simp [intOf]; omega
    · obtain rfl : k = 4 := by omega
      have C1 := Lib.hid (hd.byte 32 (by omega))
      clear hd
      go_wp2_with fail
      refine C1.out.mono ?_
      rintro e w2 ⟨rfl, hd2⟩
      have B2 := HBK.out.below hd2.bl (Nat.lt_succ_self _)
      rw [CE.out] at B2
      have c3 := B2.cellD 3 _ rfl
      have C2 := Lib.hid (hd2.str xp (by rw [List.length_append]; simp only [List.length_cons, List.length_nil]; omega))
      clear hd2 C1 B2
      go_wp2_with fail
      refine C2.out.mono ?_
      rintro e w3 ⟨rfl, hd3⟩
      have B3 := HBK.out.below hd3.bl (Nat.lt_succ_self _)
      rw [CE.out] at B3
      have c4 := B3.cellD 4 _ rfl
      have C3 := Lib.hid (hd3.str xb (by
        have h3 : xp.data.toList.length = xp.size := by simp
        rw [List.length_append, List.length_append, h3]; simp only [List.length_cons, List.length_nil]; omega))
      clear hd3 C2 B3 c3
      go_wp2_with fail
      refine C3.out.mono ?_
      rintro e w4 ⟨rfl, hd4⟩
      have C4 := Lib.hid hd4.read
      clear hd4 C3 c4
      go_wp2_with fail
      refine C4.out.mono ?_
      rintro e w5 ⟨rfl, hd5⟩
      have HB := Lib.hid (LOW.out hd5.bl)
      have ET : Hid (txE e0 = ⟨(txP e0 4 ++ [32] ++ xp.data.toList ++ xb.data.toList).toArray⟩) := by
        show txE e0 = _
        unfold txE txL
        rw [EP.out.1, EP.out.2]
      clear hd5 C4
      go_wp2_with fail
      go_ret
      exact ⟨by rw [← EE.out, ET.out]; simp, HB.out⟩
end Go.Proofs.YtaaenobckipfkaaDoor
