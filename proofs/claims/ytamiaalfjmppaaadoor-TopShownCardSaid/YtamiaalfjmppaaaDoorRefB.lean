/- The reference's block (layer 28): one block of SHA-256, for a block of 64 bytes. -/
import Derived.Test.YtamiaalfjmppaaaDoorRefA
namespace Go.Proofs.YtamiaalfjmppaaaDoor
open Go.RowKit Go.W32 Go.Blk

/-- The first cells of block b are cs. -/
def RowAt (w : World) (b : Nat) (cs : List Value) (T : TypeId) : Prop := ∃ rest, Blk w b (cs ++ rest) T
theorem RowAt.cell {w : World} {b : Nat} {cs : List Value} {T : TypeId} (h : RowAt w b cs T) (i : Nat) (v : Value) (hi : cs[i]? = some v) : w.cell? ⟨b, i, none⟩ = some v := by
  obtain ⟨r, h⟩ := h
  exact h.cellD i v (by rw [List.getElem?_append_left (List.getElem?_eq_some_iff.1 hi).1]; exact hi)
theorem RowAt.lt {w : World} {b : Nat} {cs : List Value} {T : TypeId} (h : RowAt w b cs T) : b < w.heap.size := by obtain ⟨r, h⟩ := h; exact h.lt
theorem RowAt.below {w w' : World} {b B : Nat} {cs : List Value} {T : TypeId} (h : RowAt w b cs T) (hb : Below B w w') (hB : b < B) : RowAt w' b cs T := by
  obtain ⟨r, h⟩ := h; exact ⟨r, h.below hb hB⟩
theorem RowAt.of_own {w : World} {base n cap g : Nat} {T : TypeId} {xs : List Value} (h : w.ownsRow base T 1 (.slice (some ⟨g, 0, none⟩) n cap) n xs) : RowAt w g xs T := by
  obtain ⟨_, h | ⟨g', cap', cur, e, _, hh, _, _, _, ht⟩⟩ := h
  · cases h.1
  · cases e
    refine ⟨cur.toList.drop (n * 1), ?_⟩
    unfold Blk
    rw [← ht, List.take_append_drop]
    simpa using hh
theorem own_grow {w w' : World} {base n size : Nat} {T : TypeId} {v : Value} {xs : List Value} (h : w.ownsRow base T size v n xs) (g : Below w.heap.size w w') : w'.ownsRow base T size v n xs :=
  h.kept (row := none) ⟨g.os, g.tape, g.output, g.size, fun k hk _ => g.block k hk⟩ (by by_cases e : v.ownBlock = none <;> simp [e])

theorem news_blk {w : World} {b : Nat} {cs : List Value} {T : TypeId} (h : Blk w b cs T) : ∀ j u, cs[j]? = some u → w.cell? ((⟨b, 0, none⟩ : Addr).add j) = some u := fun j u hj => by
  rw [addr_add, Nat.zero_add]; exact h.cellD j u hj
theorem news_row {w : World} {b : Nat} {cs : List Value} {T : TypeId} (h : RowAt w b cs T) : ∀ j u, cs[j]? = some u → w.cell? ((⟨b, 0, none⟩ : Addr).add j) = some u := fun j u hj => by
  rw [addr_add, Nat.zero_add]; exact h.cell j u hj
def RB1 (w : World) (s : ByteArray) (v i : Value) (wr : World) : Prop :=
  ∃ k : Nat, k ≤ 16 ∧ i = .int .i64 k ∧ wr.ownsRow w.heap.size 86 1 v k (((first16 s).take k).map W) ∧ Below w.heap.size w wr

def RB2 (w : World) (s : ByteArray) (v i : Value) (wr : World) : Prop :=
  ∃ k g cap : Nat, 16 ≤ k ∧ k ≤ 64 ∧ i = .int .i64 k ∧ v = .slice (some ⟨g, 0, none⟩) k cap ∧ wr.ownsRow w.heap.size 86 1 (.slice (some ⟨g, 0, none⟩) k cap) k ((extW (k - 16) (first16 s)).map W) ∧ Below w.heap.size w wr
theorem own_form {w : World} {base n : Nat} {T : TypeId} {v : Value} {xs : List Value} (h : w.ownsRow base T 1 v n xs) (hn : 0 < n) : ∃ g cap, v = .slice (some ⟨g, 0, none⟩) n cap := by
  obtain ⟨_, h | ⟨g, cap, cur, e, _⟩⟩ := h
  · omega
  · exact ⟨g, cap, e⟩
theorem turns2 (x : UInt32) (a b : Nat) : bits .xor .u32 ((rotr x a).toNat : Int) ((rotr x b).toNat : Int) = ((rots x [a, b]).toNat : Int) := by
  rw [xor_w]; congr 2; simp [rots]
theorem turns3 (x : UInt32) (a b c : Nat) : bits .xor .u32 (bits .xor .u32 ((rotr x a).toNat : Int) ((rotr x b).toNat : Int)) ((rotr x c).toNat : Int) = ((rots x [a, b, c]).toNat : Int) := by
  rw [xor_w, xor_w]; congr 2; simp [rots]
theorem next_val2 (x16 x15 x7 x2 : UInt32) : IntKind.u32.wrap (IntKind.u32.wrap (IntKind.u32.wrap (↑x16.toNat + bits BinOp.xor IntKind.u32 (bits BinOp.xor IntKind.u32 ↑(rotr x15 7).toNat ↑(rotr x15 18).toNat) (↑x15.toNat / 8)) + ↑x7.toNat) + bits BinOp.xor IntKind.u32 (bits BinOp.xor IntKind.u32 ↑(rotr x2 17).toNat ↑(rotr x2 19).toNat) (↑x2.toNat / 1024)) = ((x16 + sg0 x15 + x7 + sg1 x2).toNat : Int) := by
  rw [turns2, turns2, shr_c x15 8 3 (by decide) rfl, shr_c x2 1024 10 (by decide) rfl, xor_w, xor_w, add_w, add_w, add_w]
  rfl
theorem RowAt.grown {w w' : World} {b : Nat} {row : Option Nat} {cs : List Value} {T : TypeId} (h : RowAt w b cs T) (hg : w.grownBy w' row) (hne : some b ≠ row) : RowAt w' b cs T := by
  obtain ⟨r, h⟩ := h
  refine ⟨r, ?_⟩
  have := h.lt
  unfold Blk at *
  rw [hg.block b this hne]; exact h
theorem p_val2 (y : S8) (kt wt : UInt32) : IntKind.u32.wrap (IntKind.u32.wrap (IntKind.u32.wrap (IntKind.u32.wrap (↑y.h.toNat + bits BinOp.xor IntKind.u32 (bits BinOp.xor IntKind.u32 ↑(rotr y.e 6).toNat ↑(rotr y.e 11).toNat) ↑(rotr y.e 25).toNat) + bits BinOp.xor IntKind.u32 (bits BinOp.and IntKind.u32 ↑y.e.toNat ↑y.f.toNat) (bits BinOp.and IntKind.u32 (bits BinOp.xor IntKind.u32 IntKind.u32.max ↑y.e.toNat) ↑y.g.toNat)) + ↑kt.toNat) + ↑wt.toNat) = ((tP y kt wt).toNat : Int) := by
  rw [turns3, ch_val, add_w, add_w, add_w, add_w]; rfl
theorem q_val2 (y : S8) : IntKind.u32.wrap (bits BinOp.xor IntKind.u32 (bits BinOp.xor IntKind.u32 ↑(rotr y.a 2).toNat ↑(rotr y.a 13).toNat) ↑(rotr y.a 22).toNat + bits BinOp.xor IntKind.u32 (bits BinOp.xor IntKind.u32 (bits BinOp.and IntKind.u32 ↑y.a.toNat ↑y.b.toNat) (bits BinOp.and IntKind.u32 ↑y.a.toNat ↑y.c.toNat)) (bits BinOp.and IntKind.u32 ↑y.b.toNat ↑y.c.toNat)) = ((tQ y).toNat : Int) := by
  rw [turns3, maj_val, add_w]; rfl
def RB3 (w : World) (WS : List UInt32) (x : S8) (g hb kb : Nat) (v i : Value) (wr : World) : Prop :=
  ∃ k gv cv : Nat, k ≤ 64 ∧ i = .int .i64 k ∧ v = .slice (some ⟨gv, 0, none⟩) 8 cv ∧ RowAt wr gv (rounds KC WS x k).cells 86 ∧ w.heap.size ≤ gv ∧ RowAt wr g (WS.map W) 86 ∧ RowAt wr hb x.cells 86 ∧ RowAt wr kb (KC.map W) 86 ∧ Below w.heap.size w wr
theorem RowAt.set {w : World} {b : Nat} {cs : List Value} {T : TypeId} (h : RowAt w b cs T) (i : Nat) (v : Value) (hi : i < cs.length) : RowAt (w.setCell ⟨b, i, none⟩ v) b (cs.set i v) T := by
  obtain ⟨r, h⟩ := h
  exact ⟨r, by have := h.set i v; rwa [List.set_append_left _ _ hi] at this⟩
theorem RowAt.set_ne {w : World} {b : Nat} {cs : List Value} {T : TypeId} (h : RowAt w b cs T) {a : Addr} (ha : a.block ≠ b) (v : Value) : RowAt (w.setCell a v) b cs T := by
  obtain ⟨r, h⟩ := h
  exact ⟨r, h.set_ne ha v⟩
def mixL (x z : S8) (k : Nat) : List UInt32 := (x.add z).list.take k ++ z.list.drop k
theorem mixL_len (x z : S8) (k : Nat) (hk : k ≤ 8) : (mixL x z k).length = 8 := by simp [mixL, S8.list]; omega
theorem mixL_at (x z : S8) (k : Nat) (hk : k < 8) : (mixL x z k)[k]? = some (z.list.getD k 0) := by
  match k, hk with
  | 0, _ => rfl
  | 1, _ => rfl
  | 2, _ => rfl
  | 3, _ => rfl
  | 4, _ => rfl
  | 5, _ => rfl
  | 6, _ => rfl
  | 7, _ => rfl
theorem mixL_set (x z : S8) (k : Nat) (hk : k < 8) : (mixL x z k).set k (x.list.getD k 0 + z.list.getD k 0) = mixL x z (k + 1) := by
  match k, hk with
  | 0, _ => rfl
  | 1, _ => rfl
  | 2, _ => rfl
  | 3, _ => rfl
  | 4, _ => rfl
  | 5, _ => rfl
  | 6, _ => rfl
  | 7, _ => rfl
def RB4 (w : World) (x z : S8) (gv hb : Nat) (i : Value) (wr : World) : Prop :=
  ∃ k : Nat, k ≤ 8 ∧ i = .int .i64 k ∧ RowAt wr gv ((mixL x z k).map W) 86 ∧ RowAt wr hb x.cells 86 ∧ Below w.heap.size w wr
attribute [local go_sem] evs evn psz
set_option maxRecDepth 100000 in
set_option maxHeartbeats 4000000 in
theorem block_any (x : S8) (s : ByteArray) (w : World) (hb hc bb off bc kb kc : Nat) (hs : s.size = 64) (hH : RowAt w hb x.cells 86) (hS : ∀ j, j < 64 → w.cell? ⟨bb, off + j, none⟩ = some (.int .u8 (s.data.getD j 0).toNat)) (hKB : RowAt w kb (KC.map W) 86) :
    Calls Tryd.prog 80 #[.slice (some ⟨hb, 0, none⟩) 8 hc, .slice (some ⟨bb, off, none⟩) 64 bc, .slice (some ⟨kb, 0, none⟩) 64 kc] w fun e w' => ∃ g cap, e = .returned (.slice (some ⟨g, 0, none⟩) 8 cap) ∧ RowAt w' g (mixS KC x s).cells 86 ∧ w.heap.size ≤ g ∧ Below w.heap.size w w' := by
  obtain ⟨i0, hi0, hz0, hz1, hz2⟩ := info_parts infoU
  have HI := Lib.hid hi0
  have HZ0 := Lib.hid hz0
  have HZ1 := Lib.hid hz1
  have HZ2 := Lib.hid hz2
  have HS := Lib.hid hs
  have HSS := Lib.hid hS
  clear hi0 hz0 hz1 hz2 hs hS
  go_enter Tryd.func80, Tryd.ntmps80
  go_wp2_with fail
  go_loopw [7, 8] (fun v i wr => RB1 w s v i wr) (fun _ i _ => 16 - (intOf i).toNat)
  case atStart => exact ⟨0, by omega, rfl, World.ownsRow_nil _ _ _ _, Below.refl _ _⟩
  case round =>
    obtain ⟨k, hk, rfl, hown, hbl⟩ := hrel
    have hlw := hbl.size
    by_cases hlt : k < 16
    · have hcc : ∀ j, j < 64 → wr.cell? ⟨bb, off + j, none⟩ = some (.int .u8 (s.data.getD j 0).toNat) := fun j hj => by
        have h := HSS.out j hj
        rw [hbl.cell (p := ⟨bb, off + j, none⟩) (World.block_lt_of_cell? w _ h)]; exact h
      have c0 := hcc (4 * k) (by omega)
      have c1 := hcc (4 * k + 1) (by omega)
      have c2 := hcc (4 * k + 2) (by omega)
      have c3 := hcc (4 * k + 3) (by omega)
      obtain ⟨y0, e0⟩ : ∃ y, y = s.data.getD (4 * k) 0 := ⟨_, rfl⟩
      obtain ⟨y1, e1⟩ : ∃ y, y = s.data.getD (4 * k + 1) 0 := ⟨_, rfl⟩
      obtain ⟨y2, e2⟩ : ∃ y, y = s.data.getD (4 * k + 2) 0 := ⟨_, rfl⟩
      obtain ⟨y3, e3⟩ : ∃ y, y = s.data.getD (4 * k + 3) 0 := ⟨_, rfl⟩
      rw [← e0] at c0
      rw [← e1] at c1
      rw [← e2] at c2
      rw [← e3] at c3
      have hbe : be s k = be4 y0 y1 y2 y3 := by rw [e0, e1, e2, e3]; rfl
      have HBE := Lib.hid hbe
      clear hcc hbe e0 e1 e2 e3
      go_wp2_with fail
      have i0' : (0 : Int) ≤ (k : Int) := by omega
      have b0 : 4 * (k : Int) < 64 := by omega
      have b1 : 4 * (k : Int) + 1 < 64 := by omega
      have b2 : 4 * (k : Int) + 2 < 64 := by omega
      have b3 : 4 * (k : Int) + 3 < 64 := by omega
      have p0 : (0 : Int) ≤ 4 * (k : Int) := by omega
      have p1 : (0 : Int) ≤ 4 * (k : Int) + 1 := by omega
      have p2 : (0 : Int) ≤ 4 * (k : Int) + 2 := by omega
      have p3 : (0 : Int) ≤ 4 * (k : Int) + 3 := by omega
      have t0 : (4 * (k : Int)).toNat = 4 * k := by omega
      have t1 : (4 * (k : Int) + 1).toNat = 4 * k + 1 := by omega
      have t2 : (4 * (k : Int) + 2).toNat = 4 * k + 2 := by omega
      have t3 : (4 * (k : Int) + 3).toNat = 4 * k + 3 := by omega
      have w0 : IntKind.i64.wrap (4 * (k : Int)) = 4 * (k : Int) := IntWalk.i64_in _ (by omega)
      have w1 : IntKind.i64.wrap (4 * (k : Int) + 1) = 4 * (k : Int) + 1 := IntWalk.i64_in _ (by omega)
      have w2 : IntKind.i64.wrap (4 * (k : Int) + 2) = 4 * (k : Int) + 2 := IntWalk.i64_in _ (by omega)
      have w3 : IntKind.i64.wrap (4 * (k : Int) + 3) = 4 * (k : Int) + 3 := IntWalk.i64_in _ (by omega)
      generalize ha : Act.mk _ _ = a
      have sz : a.tmps.size = 225 := by rw [← ha]; rfl
      have s1 : a.tmps[1]'(by omega) = .slice (some ⟨bb, off, none⟩) 64 bc := by subst ha; rfl
      have s7 : a.tmps[7]'(by omega) = u7 := by subst ha; rfl
      have s8 : a.tmps[8]'(by omega) = .int .i64 k := by subst ha; rfl
      have HA := Lib.hid ha
      clear ha
      refine Free.wp_region_free 35 [(34, .ind (fun x => .slice (some ⟨x, 0, none⟩) 1 1) (fun x w2 => Blk w2 x [.int .u32 (be4 y0 y1 y2 y3).toNat] 86))] (fun w2 => w2.cell? ⟨bb, off + 4 * k, none⟩ = some (.int .u8 y0.toNat) ∧ w2.cell? ⟨bb, off + (4 * k + 1), none⟩ = some (.int .u8 y1.toNat) ∧ w2.cell? ⟨bb, off + (4 * k + 2), none⟩ = some (.int .u8 y2.toNat) ∧ w2.cell? ⟨bb, off + (4 * k + 3), none⟩ = some (.int .u8 y3.toNat)) (by kernel_rfl) (by kernel_rfl) ?_ ⟨c0, c1, c2, c3⟩ (fun _ _ h g => ⟨cell_grow h.1 g, cell_grow h.2.1 g, cell_grow h.2.2.1 g, cell_grow h.2.2.2 g⟩) ?_
      · intro j mk r hf
        simp only [Free.find] at hf
        repeat' split at hf
        all_goals (first | cases hf | skip)
        all_goals exact fun x w w' h g => h.below g h.lt
      · simp only [List.take_succ_cons, List.take_zero]
        clear c0 c1 c2 c3
        iterate 34 (apply Free.chain_still rfl rfl; (intro w' ⟨q0, q1, q2, q3⟩ hA; clear hA; go_light; go_simp <;> rfl))
        apply Free.chain_ind rfl rfl
        · intro w' _ hA
          refine Free.opRun_of (by go_simp <;> rfl) ⟨Free.Grow.alloc _ _, w'.heap.size, rfl, ?_⟩
          rw [be_eq]
          exact Blk.newA _ _ _
        intro x1
        apply Free.chain_nil
        intro w4 _ hg hh
        have hx1 : Blk w4 x1 [.int .u32 (be4 y0 y1 y2 y3).toNat] 86 := hh _ List.mem_cons_self
        have hg' := grow_drew hg
        have hown4 := own_grow hown hg'
        have hbl4 : Below w.heap.size w w4 := hbl.trans (hg'.mono hlw)
        have hlw4 := hbl4.size
        clear hg hg' hh s1 s7 s8 sz w0 w1 w2 w3 t0 t1 t2 t3 p0 p1 p2 p3 b0 b1 b2 b3
        obtain ⟨cs, ecs⟩ : ∃ cs, cs = ((first16 s).take k).map W := ⟨_, rfl⟩
        rw [← ecs] at hown4
        have HCS := Lib.hid ecs
        clear ecs hown hbl hlw
        simp only [List.drop_succ_cons, List.drop_zero]
        obtain rfl := HA.out
        simp only [Act.put, List.setIfInBounds_toArray, List.set_cons_succ, List.set_cons_zero]
        go_wp2_with (at_builtin; refine wpList_append_lies _ rfl _ _ 83 rfl w.heap.size 86 i0 (.int .u32 0) 1 4 Tryd.underlying83 HI.out HZ0.out HZ1.out HZ2.out rfl (by omega) _ k cs rfl hown4 ⟨x1, 0, none⟩ 1 1 [.int .u32 (be4 y0 y1 y2 y3).toNat] rfl rfl ?c1 ?c2 (by omega) ?c3 ?c4 hlw4 _ rfl ?_)
        case c1 => exact fun j u h => hx1.cellD j u h
        case c2 => simp [Value.oneCell']
        case c3 => unfold maxLen; omega
        case c4 => omega
        intro g5 cap5 w5 hown5 hgr5 _ _
        go_wp2
        go_roundw
        case rel =>
          go_light
          have key : RB1 w s (.slice (some ⟨g5, 0, none⟩) (k + 1) cap5) (.int .i64 (↑k + 1)) w5 := by
            refine ⟨k + 1, by omega, by go_num, ?_, hbl4.grown hgr5 hlw4 (fun q hq => (hown4.lt q hq).1)⟩
            have e : ((first16 s).take (k + 1)).map W = cs ++ [.int .u32 (be4 y0 y1 y2 y3).toNat] := by
              rw [List.take_succ_eq_append_getElem (by rw [first16_len]; exact hlt), List.map_append, ← HCS.out]
              simp [first16, W, HBE.out]
            rw [e]; exact hown5
          first | exact key | ((repeat apply Exists.intro); exact ⟨key, rfl⟩)
        case measure => simp [intOf]; omega
    · obtain rfl : k = 16 := by omega
      clear hlt hk
      rw [List.take_of_length_le (by rw [first16_len]; omega)] at hown
      obtain ⟨g16, cap16, hv16⟩ := own_form hown (by omega)
      have hst : RB2 w s u7 (.int .i64 16) wr := ⟨16, g16, cap16, by omega, by omega, rfl, hv16, by rw [hv16] at hown; exact hown, hbl⟩
      have HST := Lib.hid hst
      clear hst hv16 hown hbl hlw
      go_wp2_with fail
      go_loopw [7, 9] (fun v i wr => RB2 w s v i wr) (fun _ i _ => 64 - (intOf i).toNat)
      case atStart => exact HST.out
      case round =>
        clear HST
        obtain ⟨k, g, cap, hk1, hk2, rfl, rfl, hown, hbl⟩ := hrel
        have hlw := hbl.size
        by_cases hlt : k < 64
        · have hlen : (extW (k - 16) (first16 s)).length = k := by rw [extW_len, first16_len]; omega
          obtain ⟨l, hl⟩ : ∃ l, l = extW (k - 16) (first16 s) := ⟨_, rfl⟩
          rw [← hl] at hlen hown
          have hrow := RowAt.of_own hown
          have hat : ∀ i, i < k → wr.cell? ⟨g, i, none⟩ = some (.int .u32 (l.getD i 0).toNat) := fun i hi => hrow.cell i _ (by rw [List.getElem?_map, List.getD_eq_getElem?_getD, List.getElem?_eq_getElem (by omega)]; rfl)
          have HLL := Lib.hid hlen
          have HE := Lib.hid hl
          clear hl hlen
          have c15 := hat (k - 15) (by omega)
          have c16 := hat (k - 16) (by omega)
          have c7 := hat (k - 7) (by omega)
          have c2 := hat (k - 2) (by omega)
          obtain ⟨x15, e15⟩ : ∃ x, x = l.getD (k - 15) 0 := ⟨_, rfl⟩
          obtain ⟨x16, e16⟩ : ∃ x, x = l.getD (k - 16) 0 := ⟨_, rfl⟩
          obtain ⟨x7, e7⟩ : ∃ x, x = l.getD (k - 7) 0 := ⟨_, rfl⟩
          obtain ⟨x2, e2⟩ : ∃ x, x = l.getD (k - 2) 0 := ⟨_, rfl⟩
          rw [← e15] at c15
          rw [← e16] at c16
          rw [← e7] at c7
          rw [← e2] at c2
          have E15 := Lib.hid e15
          have E16 := Lib.hid e16
          have E7 := Lib.hid e7
          have E2 := Lib.hid e2
          obtain ⟨nx, enx⟩ : ∃ nx, nx = x16 + sg0 x15 + x7 + sg1 x2 := ⟨_, rfl⟩
          have ENX := Lib.hid enx
          clear e15 e16 e7 e2 hat hrow enx
          have i0' : (0 : Int) ≤ (k : Int) := by omega
          have i1' : (k : Int) < 64 := by omega
          go_wp2_with fail
          have b1 : (16 : Int) ≤ (k : Int) := by omega
          have b2 : (k : Int) - 16 < (k : Int) := by omega
          have b4 : (7 : Int) ≤ (k : Int) := by omega
          have b5 : (k : Int) - 7 < (k : Int) := by omega
          have t3 : ((k : Int) - 16).toNat = k - 16 := by omega
          have t6 : ((k : Int) - 7).toNat = k - 7 := by omega
          have t7 : IntKind.i64.wrap ((k : Int) - 16) = (k : Int) - 16 := IntWalk.i64_in _ (by omega)
          have t8 : IntKind.i64.wrap ((k : Int) - 7) = (k : Int) - 7 := IntWalk.i64_in _ (by omega)
          generalize ha : Act.mk _ _ = a
          have sz : a.tmps.size = 225 := by rw [← ha]; rfl
          have s7 : a.tmps[7]'(by omega) = .slice (some ⟨g, 0, none⟩) k cap := by subst ha; rfl
          have s9 : a.tmps[9]'(by omega) = .int .i64 k := by subst ha; rfl
          have s10 : a.tmps[10]'(by omega) = .int .u32 x15.toNat := by subst ha; rfl
          have s11 : a.tmps[11]'(by omega) = .int .u32 x2.toNat := by subst ha; rfl
          have HA := Lib.hid ha
          clear ha
          refine Free.wp_region_free 31 [(7, .det (.int .u32 (rotr x15 7).toNat)), (9, .det (.int .u32 (rotr x15 18).toNat)), (22, .det (.int .u32 (rotr x2 17).toNat)), (24, .det (.int .u32 (rotr x2 19).toNat)), (30, .ind (fun x => .slice (some ⟨x, 0, none⟩) 1 1) (fun x w2 => Blk w2 x [.int .u32 nx.toNat] 86))] (fun w2 => w2.cell? ⟨g, k - 16, none⟩ = some (.int .u32 x16.toNat) ∧ w2.cell? ⟨g, k - 7, none⟩ = some (.int .u32 x7.toNat)) (by kernel_rfl) (by kernel_rfl) ?_ ⟨c16, c7⟩ (fun _ _ h g => ⟨cell_grow h.1 g, cell_grow h.2 g⟩) ?_
          · intro j mk r hf
            simp only [Free.find] at hf
            repeat' split at hf
            all_goals (first | cases hf | skip)
            all_goals exact fun x w w' h g => h.below g h.lt
          · simp only [List.take_succ_cons, List.take_zero]
            clear c16 c7
            iterate 7 (apply Free.chain_still rfl rfl; (intro w' ⟨q0, q1⟩ hA; clear hA; go_light; go_simp <;> rfl))
            apply Free.chain_det rfl rfl
            · intro w' _ _
              refine Free.opRun_call (by go_simp) ((turn_any x15 7 (by decide) (by decide) _).mono ?_)
              rintro e w2 ⟨rfl, rfl⟩
              exact ⟨_, rfl, Free.Grow.refl _, rfl⟩
            apply Free.chain_still rfl rfl
            · intro w' ⟨q0, q1⟩ hA; clear hA; go_light; go_simp <;> rfl
            apply Free.chain_det rfl rfl
            · intro w' _ _
              refine Free.opRun_call (by go_simp) ((turn_any x15 18 (by decide) (by decide) _).mono ?_)
              rintro e w2 ⟨rfl, rfl⟩
              exact ⟨_, rfl, Free.Grow.refl _, rfl⟩
            iterate 12 (apply Free.chain_still rfl rfl; (intro w' ⟨q0, q1⟩ hA; clear hA; go_light; go_simp <;> rfl))
            apply Free.chain_det rfl rfl
            · intro w' _ _
              refine Free.opRun_call (by go_simp) ((turn_any x2 17 (by decide) (by decide) _).mono ?_)
              rintro e w2 ⟨rfl, rfl⟩
              exact ⟨_, rfl, Free.Grow.refl _, rfl⟩
            apply Free.chain_still rfl rfl
            · intro w' ⟨q0, q1⟩ hA; clear hA; go_light; go_simp <;> rfl
            apply Free.chain_det rfl rfl
            · intro w' _ _
              refine Free.opRun_call (by go_simp) ((turn_any x2 19 (by decide) (by decide) _).mono ?_)
              rintro e w2 ⟨rfl, rfl⟩
              exact ⟨_, rfl, Free.Grow.refl _, rfl⟩
            iterate 5 (apply Free.chain_still rfl rfl; (intro w' ⟨q0, q1⟩ hA; clear hA; go_light; go_simp <;> rfl))
            apply Free.chain_ind rfl rfl
            · intro w' _ hA
              refine Free.opRun_of (by go_simp <;> rfl) ⟨Free.Grow.alloc _ _, w'.heap.size, rfl, ?_⟩
              rw [next_val2, ← ENX.out]
              exact Blk.newA _ _ _
            intro x1
            apply Free.chain_nil
            intro w4 _ hg hh
            have hx1 : Blk w4 x1 [.int .u32 nx.toNat] 86 := hh _ List.mem_cons_self
            have hg' := grow_drew hg
            have hown4 := own_grow hown hg'
            have hbl4 : Below w.heap.size w w4 := hbl.trans (hg'.mono hlw)
            have hlw4 := hbl4.size
            clear hg hg' hh s7 s9 s10 s11 sz t3 t6 t7 t8
            obtain ⟨cs, ecs⟩ : ∃ cs, cs = l.map W := ⟨_, rfl⟩
            rw [← ecs] at hown4
            have HCS := Lib.hid ecs
            clear ecs hown hbl hlw
            simp only [List.drop_succ_cons, List.drop_zero]
            obtain rfl := HA.out
            simp only [Act.put, List.setIfInBounds_toArray, List.set_cons_succ, List.set_cons_zero]
            go_wp2_with (at_builtin; refine wpList_append_lies _ rfl _ _ 83 rfl w.heap.size 86 i0 (.int .u32 0) 1 4 Tryd.underlying83 HI.out HZ0.out HZ1.out HZ2.out rfl (by omega) _ k cs rfl hown4 ⟨x1, 0, none⟩ 1 1 [.int .u32 nx.toNat] rfl rfl ?c1 ?c2 (by omega) ?c3 ?c4 hlw4 _ rfl ?_)
            case c1 => exact fun j u h => hx1.cellD j u h
            case c2 => simp [Value.oneCell']
            case c3 => unfold maxLen; omega
            case c4 => omega
            intro g5 cap5 w5 hown5 hgr5 _ _
            go_wp2
            go_roundw
            case rel =>
              go_light
              have key : RB2 w s (.slice (some ⟨g5, 0, none⟩) (k + 1) cap5) (.int .i64 (↑k + 1)) w5 := by
                refine ⟨k + 1, g5, cap5, by omega, by omega, by go_num, rfl, ?_, hbl4.grown hgr5 hlw4 (fun q hq => (hown4.lt q hq).1)⟩
                have e : (extW (k + 1 - 16) (first16 s)).map W = cs ++ [.int .u32 nx.toNat] := by
                  rw [show k + 1 - 16 = (k - 16) + 1 by omega, extW, List.map_append, ← HE.out, ← HCS.out, nextW, HLL.out, ← E16.out, ← E15.out, ← E7.out, ← E2.out, ← ENX.out]; rfl
                rw [e]; exact hown5
              first | exact key | ((repeat apply Exists.intro); exact ⟨key, rfl⟩)
            case measure => simp [intOf]; omega
        · obtain rfl : k = 64 := by omega
          clear hlt hk1 hk2
          obtain ⟨WS, hWS⟩ : ∃ WS, WS = extW 48 (first16 s) := ⟨_, rfl⟩
          have hown' : wr.ownsRow w.heap.size 86 1 (.slice (some ⟨g, 0, none⟩) 64 cap) 64 (WS.map W) := by rw [hWS]; exact hown
          have hrow := RowAt.of_own hown'
          have hgb := (hown'.lt g rfl).1
          have hlen : WS.length = 64 := by rw [hWS, extW_len, first16_len]
          have HWS := Lib.hid hWS
          have HWL := Lib.hid hlen
          clear hown hown' hWS hlen
          have hHr : RowAt wr hb x.cells 86 := hH.below hbl hH.lt
          have hKr : RowAt wr kb (KC.map W) 86 := hKB.below hbl hKB.lt
          have hlw := hbl.size
          have hown0 : (wr.alloc (.cells #[] 86)).ownsRow w.heap.size 86 1 (.slice (some ⟨wr.heap.size, 0, none⟩) 0 0) 0 [] := World.ownsRow_made wr _ 0 hlw (by unfold maxLen; omega) (by simp)
          have hHa : RowAt (wr.alloc (.cells #[] 86)) hb x.cells 86 := by obtain ⟨r, h⟩ := hHr; exact ⟨r, h.alloc _⟩
          go_wp2_with (at_builtin; refine wpList_append_lies _ rfl _ _ 83 rfl w.heap.size 86 i0 (.int .u32 0) 1 4 Tryd.underlying83 HI.out HZ0.out HZ1.out HZ2.out rfl (by omega) _ 0 [] rfl hown0 ⟨hb, 0, none⟩ 8 hc x.cells rfl rfl ?c1 ?c2 (by omega) ?c3 ?c4 ?c5 _ rfl ?_)
          case c1 => first | exact news_row hHa | exact fun j u h => hHa.cell j u h
          case c2 => simp [Value.oneCell', S8.cells, W]
          case c3 => unfold maxLen; omega
          case c4 => omega
          case c5 => simp; omega
          intro g8 cap8 w8 hown8 hgr8 hat8 _
          have hg8 : w.heap.size ≤ g8 := (hown8.lt g8 rfl).1
          have hst : RB3 w WS x g hb kb (.slice (some ⟨g8, 0, none⟩) 8 cap8) (.int .i64 0) w8 := by
            refine ⟨0, g8, cap8, by omega, rfl, rfl, RowAt.of_own hown8, hg8, ?_, ?_, ?_, (hbl.alloc hlw _).grown hgr8 (by simp; omega) (fun q hq => (hown0.lt q hq).1)⟩
            · exact RowAt.grown (by obtain ⟨r, h⟩ := hrow; exact ⟨r, h.alloc _⟩) hgr8 (by have := hrow.lt; simp [Value.ownBlock]; omega)
            · exact RowAt.grown hHa hgr8 (by have := hHr.lt; simp [Value.ownBlock]; omega)
            · exact RowAt.grown (by obtain ⟨r, h⟩ := hKr; exact ⟨r, h.alloc _⟩) hgr8 (by have := hKr.lt; simp [Value.ownBlock]; omega)
          have HST := Lib.hid hst
          clear hst hown8 hgr8 hat8 hHa hown0 hrow hHr hKr hbl hlw
          go_wp2_with fail
          go_loopw [12, 13] (fun v i wr => RB3 w WS x g hb kb v i wr) (fun _ i _ => 64 - (intOf i).toNat)
          case atStart => exact HST.out
          case round =>
            clear HST
            obtain ⟨k, gv, cv, hk, rfl, rfl, hV, hgv, hrow, hHr, hKr, hbl⟩ := hrel
            have hlw := hbl.size
            by_cases hlt : k < 64
            · obtain ⟨y, hy⟩ : ∃ y, y = rounds KC WS x k := ⟨_, rfl⟩
              rw [← hy] at hV
              have HY := Lib.hid hy
              clear hy
              obtain ⟨kt, ekt⟩ : ∃ z, z = KC.getD k 0 := ⟨_, rfl⟩
              obtain ⟨wt, ewt⟩ : ∃ z, z = WS.getD k 0 := ⟨_, rfl⟩
              have cK : wr.cell? ⟨kb, k, none⟩ = some (.int .u32 kt.toNat) := hKr.cell k _ (by rw [ekt, List.getElem?_map, List.getD_eq_getElem?_getD, List.getElem?_eq_getElem (by simpa [KC] using hlt)]; rfl)
              have cW : wr.cell? ⟨g, k, none⟩ = some (.int .u32 wt.toNat) := hrow.cell k _ (by rw [ewt, List.getElem?_map, List.getD_eq_getElem?_getD, List.getElem?_eq_getElem (by rw [HWL.out]; exact hlt)]; rfl)
              obtain ⟨pp, epp⟩ : ∃ pp, pp = tP y kt wt := ⟨_, rfl⟩
              obtain ⟨qq, eqq⟩ : ∃ qq, qq = tQ y := ⟨_, rfl⟩
              have EK := Lib.hid ekt
              have EW := Lib.hid ewt
              have EP := Lib.hid epp
              have EQ := Lib.hid eqq
              clear ekt ewt epp eqq
              have c0 := hV.cell 0 (.int .u32 y.a.toNat) rfl
              have c4 := hV.cell 4 (.int .u32 y.e.toNat) rfl
              have c5 := hV.cell 5 (.int .u32 y.f.toNat) rfl
              have c6 := hV.cell 6 (.int .u32 y.g.toNat) rfl
              have c7 := hV.cell 7 (.int .u32 y.h.toNat) rfl
              have i0' : (0 : Int) ≤ (k : Int) := by omega
              have i1' : (k : Int) < 64 := by omega
              go_wp2_with fail
              generalize ha : Act.mk _ _ = a
              have sz : a.tmps.size = 225 := by rw [← ha]; rfl
              have s2 : a.tmps[2]'(by omega) = .slice (some ⟨kb, 0, none⟩) 64 kc := by subst ha; rfl
              have s7 : a.tmps[7]'(by omega) = .slice (some ⟨g, 0, none⟩) 64 cap := by subst ha; rfl
              have s12 : a.tmps[12]'(by omega) = .slice (some ⟨gv, 0, none⟩) 8 cv := by subst ha; rfl
              have s13 : a.tmps[13]'(by omega) = .int .i64 k := by subst ha; rfl
              have s15 : a.tmps[15]'(by omega) = .int .u32 y.e.toNat := by subst ha; rfl
              have HA := Lib.hid ha
              clear ha
              refine Free.wp_region_free 36 [(4, .det (.int .u32 (rotr y.e 6).toNat)), (6, .det (.int .u32 (rotr y.e 11).toNat)), (9, .det (.int .u32 (rotr y.e 25).toNat))] (fun w2 => w2.cell? ⟨gv, 7, none⟩ = some (.int .u32 y.h.toNat) ∧ w2.cell? ⟨gv, 5, none⟩ = some (.int .u32 y.f.toNat) ∧ w2.cell? ⟨gv, 6, none⟩ = some (.int .u32 y.g.toNat) ∧ w2.cell? ⟨kb, k, none⟩ = some (.int .u32 kt.toNat) ∧ w2.cell? ⟨g, k, none⟩ = some (.int .u32 wt.toNat)) (by kernel_rfl) (by kernel_rfl) ?_ ⟨c7, c5, c6, cK, cW⟩ (fun _ _ h g => ⟨cell_grow h.1 g, cell_grow h.2.1 g, cell_grow h.2.2.1 g, cell_grow h.2.2.2.1 g, cell_grow h.2.2.2.2 g⟩) ?_
              · intro j mk r hf
                simp only [Free.find] at hf
                repeat' split at hf
                all_goals (first | cases hf | skip)
              · simp only [List.take_succ_cons, List.take_zero]
                clear c0 c4 c5 c6 c7 cK cW
                iterate 4 (apply Free.chain_still rfl rfl; (intro w' ⟨q0, q1, q2, q3, q4⟩ hA; clear hA; go_light; go_simp <;> rfl))
                apply Free.chain_det rfl rfl
                · intro w' _ _
                  refine Free.opRun_call (by go_simp) ((turn_any y.e 6 (by decide) (by decide) _).mono ?_)
                  rintro e w2 ⟨rfl, rfl⟩
                  exact ⟨_, rfl, Free.Grow.refl _, rfl⟩
                iterate 1 (apply Free.chain_still rfl rfl; (intro w' ⟨q0, q1, q2, q3, q4⟩ hA; clear hA; go_light; go_simp <;> rfl))
                apply Free.chain_det rfl rfl
                · intro w' _ _
                  refine Free.opRun_call (by go_simp) ((turn_any y.e 11 (by decide) (by decide) _).mono ?_)
                  rintro e w2 ⟨rfl, rfl⟩
                  exact ⟨_, rfl, Free.Grow.refl _, rfl⟩
                iterate 2 (apply Free.chain_still rfl rfl; (intro w' ⟨q0, q1, q2, q3, q4⟩ hA; clear hA; go_light; go_simp <;> rfl))
                apply Free.chain_det rfl rfl
                · intro w' _ _
                  refine Free.opRun_call (by go_simp) ((turn_any y.e 25 (by decide) (by decide) _).mono ?_)
                  rintro e w2 ⟨rfl, rfl⟩
                  exact ⟨_, rfl, Free.Grow.refl _, rfl⟩
                iterate 24 (apply Free.chain_still rfl rfl; (intro w' ⟨q0, q1, q2, q3, q4⟩ hA; clear hA; go_light; go_simp <;> rfl))
                apply Free.chain_still (v := .int .u32 pp.toNat) rfl rfl
                · intro w' ⟨q0, q1, q2, q3, q4⟩ hA
                  clear hA
                  go_light
                  go_simp
                  exact (p_val2 y kt wt).trans (by rw [EP.out])
                iterate 1 (apply Free.chain_still rfl rfl; (intro w' ⟨q0, q1, q2, q3, q4⟩ hA; clear hA; go_light; go_simp <;> rfl))
                apply Free.chain_nil
                intro w4 _ hg _
                have hg' := grow_drew hg
                have hV4 := hV.below hg' hV.lt
                have hrow4 := hrow.below hg' hrow.lt
                have hH4 := hHr.below hg' hHr.lt
                have hK4 := hKr.below hg' hKr.lt
                have hbl4 : Below w.heap.size w w4 := hbl.trans (hg'.mono hlw)
                have hlw4 := hbl4.size
                clear hg hg' sz s2 s7 s12 s13 s15 hV hrow hHr hKr hbl hlw
                simp only [List.drop_succ_cons, List.drop_zero]
                obtain rfl := HA.out
                simp only [Act.put, List.setIfInBounds_toArray, List.set_cons_succ, List.set_cons_zero]
                go_wp2_with fail
                have c1 := hV4.cell 1 (.int .u32 y.b.toNat) rfl
                have c2 := hV4.cell 2 (.int .u32 y.c.toNat) rfl
                generalize ha : Act.mk _ _ = a
                have sz : a.tmps.size = 225 := by rw [← ha]; rfl
                have s12 : a.tmps[12]'(by omega) = .slice (some ⟨gv, 0, none⟩) 8 cv := by subst ha; rfl
                have s14 : a.tmps[14]'(by omega) = .int .u32 y.a.toNat := by subst ha; rfl
                have HA := Lib.hid ha
                clear ha
                refine Free.wp_region_free 29 [(1, .det (.int .u32 (rotr y.a 2).toNat)), (3, .det (.int .u32 (rotr y.a 13).toNat)), (6, .det (.int .u32 (rotr y.a 22).toNat))] (fun w2 => w2.cell? ⟨gv, 1, none⟩ = some (.int .u32 y.b.toNat) ∧ w2.cell? ⟨gv, 2, none⟩ = some (.int .u32 y.c.toNat)) (by kernel_rfl) (by kernel_rfl) ?_ ⟨c1, c2⟩ (fun _ _ h g => ⟨cell_grow h.1 g, cell_grow h.2 g⟩) ?_
                · intro j mk r hf
                  simp only [Free.find] at hf
                  repeat' split at hf
                  all_goals (first | cases hf | skip)
                · simp only [List.take_succ_cons, List.take_zero]
                  clear c1 c2
                  iterate 1 (apply Free.chain_still rfl rfl; (intro w' ⟨q0, q1⟩ hA; clear hA; go_light; go_simp <;> rfl))
                  apply Free.chain_det rfl rfl
                  · intro w' _ _
                    refine Free.opRun_call (by go_simp) ((turn_any y.a 2 (by decide) (by decide) _).mono ?_)
                    rintro e w2 ⟨rfl, rfl⟩
                    exact ⟨_, rfl, Free.Grow.refl _, rfl⟩
                  iterate 1 (apply Free.chain_still rfl rfl; (intro w' ⟨q0, q1⟩ hA; clear hA; go_light; go_simp <;> rfl))
                  apply Free.chain_det rfl rfl
                  · intro w' _ _
                    refine Free.opRun_call (by go_simp) ((turn_any y.a 13 (by decide) (by decide) _).mono ?_)
                    rintro e w2 ⟨rfl, rfl⟩
                    exact ⟨_, rfl, Free.Grow.refl _, rfl⟩
                  iterate 2 (apply Free.chain_still rfl rfl; (intro w' ⟨q0, q1⟩ hA; clear hA; go_light; go_simp <;> rfl))
                  apply Free.chain_det rfl rfl
                  · intro w' _ _
                    refine Free.opRun_call (by go_simp) ((turn_any y.a 22 (by decide) (by decide) _).mono ?_)
                    rintro e w2 ⟨rfl, rfl⟩
                    exact ⟨_, rfl, Free.Grow.refl _, rfl⟩
                  iterate 20 (apply Free.chain_still rfl rfl; (intro w' ⟨q0, q1⟩ hA; clear hA; go_light; go_simp <;> rfl))
                  apply Free.chain_still (v := .int .u32 qq.toNat) rfl rfl
                  · intro w' ⟨q0, q1⟩ hA
                    clear hA
                    go_light
                    go_simp
                    exact (q_val2 y).trans (by rw [EQ.out])
                  iterate 1 (apply Free.chain_still rfl rfl; (intro w' ⟨q0, q1⟩ hA; clear hA; go_light; go_simp <;> rfl))
                  apply Free.chain_nil
                  intro w5 _ hg _
                  have hg' := grow_drew hg
                  have hV5 := hV4.below hg' hV4.lt
                  have hrow5 := hrow4.below hg' hrow4.lt
                  have hH5 := hH4.below hg' hH4.lt
                  have hK5 := hK4.below hg' hK4.lt
                  have hbl5 : Below w.heap.size w w5 := hbl4.trans (hg'.mono hlw4)
                  have hlw5 := hbl5.size
                  clear hg hg' sz s12 s14 hV4 hrow4 hH4 hK4 hbl4 hlw4
                  simp only [List.drop_succ_cons, List.drop_zero]
                  obtain rfl := HA.out
                  simp only [Act.put, List.setIfInBounds_toArray, List.set_cons_succ, List.set_cons_zero]
                  go_wp2_with fail
                  have c0 := hV5.cell 0 (.int .u32 y.a.toNat) rfl
                  have c1 := hV5.cell 1 (.int .u32 y.b.toNat) rfl
                  have c2 := hV5.cell 2 (.int .u32 y.c.toNat) rfl
                  have c3 := hV5.cell 3 (.int .u32 y.d.toNat) rfl
                  have c4 := hV5.cell 4 (.int .u32 y.e.toNat) rfl
                  have c5 := hV5.cell 5 (.int .u32 y.f.toNat) rfl
                  have c6 := hV5.cell 6 (.int .u32 y.g.toNat) rfl
                  generalize ha : Act.mk _ _ = a
                  have sz : a.tmps.size = 225 := by rw [← ha]; rfl
                  have s12 : a.tmps[12]'(by omega) = .slice (some ⟨gv, 0, none⟩) 8 cv := by subst ha; rfl
                  have s16 : a.tmps[16]'(by omega) = .int .u32 pp.toNat := by subst ha; rfl
                  have s17 : a.tmps[17]'(by omega) = .int .u32 qq.toNat := by subst ha; rfl
                  have HA := Lib.hid ha
                  clear ha
                  refine Free.wp_region_free 28 [(26, .ind (fun x => .slice (some ⟨x, 0, none⟩) 8 8) (fun x w2 => Blk w2 x (S8.mk (pp + qq) y.a y.b y.c (y.d + pp) y.e y.f y.g).cells 86 ∧ w.heap.size ≤ x))] (fun w2 => w.heap.size ≤ w2.heap.size ∧ w2.cell? ⟨gv, 0, none⟩ = some (.int .u32 y.a.toNat) ∧ w2.cell? ⟨gv, 1, none⟩ = some (.int .u32 y.b.toNat) ∧ w2.cell? ⟨gv, 2, none⟩ = some (.int .u32 y.c.toNat) ∧ w2.cell? ⟨gv, 3, none⟩ = some (.int .u32 y.d.toNat) ∧ w2.cell? ⟨gv, 4, none⟩ = some (.int .u32 y.e.toNat) ∧ w2.cell? ⟨gv, 5, none⟩ = some (.int .u32 y.f.toNat) ∧ w2.cell? ⟨gv, 6, none⟩ = some (.int .u32 y.g.toNat)) (by kernel_rfl) (by kernel_rfl) ?_ ⟨hlw5, c0, c1, c2, c3, c4, c5, c6⟩ (fun _ _ h g => ⟨Nat.le_trans h.1 g.size, cell_grow h.2.1 g, cell_grow h.2.2.1 g, cell_grow h.2.2.2.1 g, cell_grow h.2.2.2.2.1 g, cell_grow h.2.2.2.2.2.1 g, cell_grow h.2.2.2.2.2.2.1 g, cell_grow h.2.2.2.2.2.2.2 g⟩) ?_
                  · intro j mk r hf
                    simp only [Free.find] at hf
                    repeat' split at hf
                    all_goals (first | cases hf | skip)
                    all_goals exact fun x w w' h g => ⟨h.1.below g h.1.lt, h.2⟩
                  · simp only [List.take_succ_cons, List.take_zero]
                    clear c0 c1 c2 c3 c4 c5 c6
                    iterate 26 (apply Free.chain_still rfl rfl; (intro w' ⟨_, q0, q1, q2, q3, q4, q5, q6⟩ hA; clear hA; go_light; go_simp <;> rfl))
                    apply Free.chain_ind rfl rfl
                    · intro w' hB _
                      refine Free.opRun_of (by go_simp <;> rfl) ⟨Free.Grow.alloc _ _, w'.heap.size, rfl, ?_, hB.1⟩
                      rw [add_w, add_w]
                      exact Blk.newA _ _ _
                    intro x1
                    iterate 1 (apply Free.chain_still rfl rfl; (intro w' ⟨_, q0, q1, q2, q3, q4, q5, q6⟩ hA; clear hA; go_light; go_simp <;> rfl))
                    apply Free.chain_nil
                    intro w6 _ hg hh
                    have hx1 : Blk w6 x1 (S8.mk (pp + qq) y.a y.b y.c (y.d + pp) y.e y.f y.g).cells 86 := (hh _ List.mem_cons_self).1
                    have hnew : w.heap.size ≤ x1 := (hh _ List.mem_cons_self).2
                    have hg' := grow_drew hg
                    have hrow6 := hrow5.below hg' hrow5.lt
                    have hH6 := hH5.below hg' hH5.lt
                    have hK6 := hK5.below hg' hK5.lt
                    have hbl6 : Below w.heap.size w w6 := hbl5.trans (hg'.mono hlw5)
                    clear hg hg' hh sz s12 s16 s17 hV5 hrow5 hH5 hK5 hbl5 hlw5
                    simp only [List.drop_succ_cons, List.drop_zero]
                    obtain rfl := HA.out
                    simp only [Act.put, List.setIfInBounds_toArray, List.set_cons_succ, List.set_cons_zero]
                    go_wp2
                    go_roundw
                    case rel =>
                      go_light
                      have key : RB3 w WS x g hb kb (.slice (some ⟨x1, 0, none⟩) 8 8) (.int .i64 (↑k + 1)) w6 := by
                        refine ⟨k + 1, x1, 8, by omega, by go_num, rfl, ⟨[], ?_⟩, hnew, hrow6, hH6, hK6, hbl6⟩
                        rw [List.append_nil, rounds, ← HY.out, ← EK.out, ← EW.out, round, ← EP.out, ← EQ.out]
                        exact hx1
                      first | exact key | ((repeat apply Exists.intro); exact ⟨key, rfl⟩)
                    case measure => simp [intOf]; omega
            · obtain rfl : k = 64 := by omega
              clear hlt hk
              have hgh : gv ≠ hb := by have := hH.lt; omega
              obtain ⟨z, hz⟩ : ∃ z, z = rounds KC WS x 64 := ⟨_, rfl⟩
              rw [← hz] at hV
              have HZ := Lib.hid hz
              clear hz hKr hrow
              have hst : RB4 w x z gv hb (.int .i64 0) wr := ⟨0, by omega, rfl, hV, hHr, hbl⟩
              have HST := Lib.hid hst
              clear hst hV hHr hbl hlw
              go_wp2_with fail
              go_loopw [18] (fun i wr => RB4 w x z gv hb i wr) (fun i _ => 8 - (intOf i).toNat)
              case atStart => exact HST.out
              case round =>
                clear HST
                obtain ⟨k, hk, rfl, hV, hHr, hbl⟩ := hrel
                have hlw := hbl.size
                by_cases hlt : k < 8
                · obtain ⟨xk, exk⟩ : ∃ xk, xk = x.list.getD k 0 := ⟨_, rfl⟩
                  obtain ⟨zk, ezk⟩ : ∃ zk, zk = z.list.getD k 0 := ⟨_, rfl⟩
                  have cH : wr.cell? ⟨hb, k, none⟩ = some (.int .u32 xk.toNat) := hHr.cell k _ (by rw [exk, S8.cells_list, List.getElem?_map, List.getD_eq_getElem?_getD, List.getElem?_eq_getElem (by simpa [S8.list] using hlt)]; rfl)
                  have cV : wr.cell? ⟨gv, k, none⟩ = some (.int .u32 zk.toNat) := hV.cell k _ (by rw [ezk, List.getElem?_map, mixL_at x z k hlt]; rfl)
                  have hfz : wr.frozen? ⟨gv, k, none⟩ = false := by obtain ⟨r, h⟩ := hV; exact h.frozen k
                  have EX := Lib.hid exk
                  have EZ := Lib.hid ezk
                  clear exk ezk
                  have i0' : (0 : Int) ≤ (k : Int) := by omega
                  have i1' : (k : Int) < 8 := by omega
                  go_wp2_with fail
                  generalize ha : Act.mk _ _ = a
                  have sz : a.tmps.size = 225 := by rw [← ha]; rfl
                  have s0 : a.tmps[0]'(by omega) = .slice (some ⟨hb, 0, none⟩) 8 hc := by subst ha; rfl
                  have s12 : a.tmps[12]'(by omega) = .slice (some ⟨gv, 0, none⟩) 8 cv := by subst ha; rfl
                  have s18 : a.tmps[18]'(by omega) = .int .i64 k := by subst ha; rfl
                  have HA := Lib.hid ha
                  clear ha
                  refine Free.wp_region_free 12 [] (fun w2 => w2.cell? ⟨hb, k, none⟩ = some (.int .u32 xk.toNat) ∧ w2.cell? ⟨gv, k, none⟩ = some (.int .u32 zk.toNat)) (by kernel_rfl) (by kernel_rfl) ?_ ⟨cH, cV⟩ (fun _ _ h g => ⟨cell_grow h.1 g, cell_grow h.2 g⟩) ?_
                  · intro j mk r hf
                    simp only [Free.find] at hf
                    cases hf
                  · simp only [List.take_succ_cons, List.take_zero]
                    clear cH cV
                    iterate 12 (apply Free.chain_still rfl rfl; (intro w' ⟨q0, q1⟩ hA; clear hA; go_light; go_simp <;> rfl))
                    apply Free.chain_nil
                    intro w4 hB4 hg _
                    have hg' := grow_drew hg
                    have hV4 := hV.below hg' hV.lt
                    have hH4 := hHr.below hg' hHr.lt
                    have hbl4 : Below w.heap.size w w4 := hbl.trans (hg'.mono hlw)
                    have hfz : w4.frozen? ⟨gv, k, none⟩ = false := by obtain ⟨r, h⟩ := hV4; exact h.frozen k
                    have cV4 := hB4.2
                    clear hg hg' sz s0 s12 s18 hV hHr hbl hlw
                    simp only [List.drop_succ_cons, List.drop_zero]
                    obtain rfl := HA.out
                    simp only [Act.put, List.setIfInBounds_toArray, List.set_cons_succ, List.set_cons_zero]
                    go_wp2
                    go_roundw
                    case rel =>
                      go_light
                      have key : RB4 w x z gv hb (.int .i64 (↑k + 1)) (w4.setCell ⟨gv, k, none⟩ (.int .u32 (xk + zk).toNat)) := by
                        refine ⟨k + 1, by omega, by go_num, ?_, hH4.set_ne hgh _, hbl4.setCell hgv _⟩
                        rw [← mixL_set x z k hlt, List.map_set, ← EX.out, ← EZ.out]
                        exact hV4.set k _ (by rw [List.length_map, mixL_len _ _ _ (by omega)]; exact hlt)
                      rw [UInt32.add_comm, ← add_w] at key
                      first | exact key | ((repeat apply Exists.intro); exact ⟨key, rfl⟩)
                    case measure => simp [intOf]; omega
                · obtain rfl : k = 8 := by omega
                  clear hlt hk
                  go_wp2
                  go_ret
                  refine ⟨gv, cv, rfl, ?_, hgv, hbl⟩
                  rw [mixS, ← HWS.out, ← HZ.out]
                  exact hV
end Go.Proofs.YtamiaalfjmppaaaDoor
