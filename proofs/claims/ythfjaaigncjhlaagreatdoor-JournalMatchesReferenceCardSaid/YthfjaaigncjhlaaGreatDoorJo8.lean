/- Package journal: the sectors of a half, as an iterator. No condition. -/
import Derived.Test.YthfjaaigncjhlaaGreatDoorJo7
import Derived.Test.YthfjaaigncjhlaaGreatDoorRfP
import Derived.Test.YthfjaaigncjhlaaGreatDoorFreT
namespace Go.Proofs.YthfjaaigncjhlaaGreatDoor
open Go.RowKit Go.Blk Go.Jn Go.Dk Go.Mp Go.Rf Go.Shelf
attribute [local go_sem] Oper.semAt_some

abbrev encK (base k : Nat) : Array Value := #[.int .i64 ((base + k : Nat) : Int), .int .i64 ((32 * k : Nat) : Int)]
theorem keep_cell {F : Nat → Prop} {w w' : World} {p : Addr} {v : Value} (h : w.cell? p = some v) (hk : Keep F w w') (hF : ¬ F p.block) : w'.cell? p = some v := by
  have := hk.block p.block (World.block_lt_of_cell? w _ h) hF
  unfold World.cell? at *
  rw [this]; exact h
/-- What the iterator reads. -/
structure SecAt (W : World) (bl bo bh bj jb len off half size : Nat) : Prop where
  l : W.cell? ⟨bl, 0, none⟩ = some (.int .i64 (len : Int))
  o : W.cell? ⟨bo, 0, none⟩ = some (.int .i64 (off : Int))
  h : W.cell? ⟨bh, 0, none⟩ = some (.int .i64 (half : Int))
  j : W.cell? ⟨bj, 0, none⟩ = some (.pointer (some ⟨jb, 0, none⟩))
  s : W.cell? ⟨jb, 4, none⟩ = some (.int .i64 (size : Int))
theorem SecAt.keep {F : Nat → Prop} {W W' : World} {bl bo bh bj jb len off half size : Nat} (h : SecAt W bl bo bh bj jb len off half size) (hk : Keep F W W') (h1 : ¬ F bl) (h2 : ¬ F bo) (h3 : ¬ F bh) (h4 : ¬ F bj) (h5 : ¬ F jb) : SecAt W' bl bo bh bj jb len off half size :=
  ⟨keep_cell h.l hk h1, keep_cell h.o hk h2, keep_cell h.h hk h3, keep_cell h.j hk h4, keep_cell h.s hk h5⟩
theorem ks_take {off len i : Nat} (hi : i < (off + len + 31) / 32 - off / 32) : (ksOf off len).take i ++ [off / 32 + i] = (ksOf off len).take (i + 1) := by
  have hl : (ksOf off len).length = (off + len + 31) / 32 - off / 32 := by unfold ksOf; rw [List.length_range']
  rw [List.take_succ_eq_append_getElem (by omega)]
  unfold ksOf
  simp
set_option maxRecDepth 100000 in
set_option maxHeartbeats 4000000 in
theorem sectors1_in (m : Nat) (hm : 1 ≤ m) (l bl bo bh bj jb : Nat) (F : Nat → Prop) (half off len size : Nat) (f1 : ¬ F bl) (f2 : ¬ F bo) (f3 : ¬ F bh) (f4 : ¬ F bj) (f5 : ¬ F jb)
    (g1 : half ≤ 1) (g2 : off ≤ 1000000) (g3 : len ≤ 1000000) (g4 : size ≤ 100000) (J : List Nat → World → Prop) (Jp : List PanicEntry → World → Prop) (B : Nat) (hJ : AbidesFrom B J)
    (hY : ∀ pre k W, J pre W → pre ++ [k] <+: ksOf off len → YieldAt Fence.wide (m - 1) Tryz.prog l (encK (2 + half * size) k) W fun e W' =>
      (e = .returned (.bool true) ∧ J (pre ++ [k]) W' ∧ Keep F W W') ∨ (∃ ch, e = .panicked ch ∧ Jp ch W'))
    (W : World) (c : SecAt W bl bo bh bj jb len off half size) (h0 : J [] W) :
    CallsIn Fence.wide m Tryz.prog 76 #[.func (.yield l) #[] #[], .pointer (some ⟨bl, 0, none⟩), .pointer (some ⟨bo, 0, none⟩), .pointer (some ⟨bh, 0, none⟩), .pointer (some ⟨bj, 0, none⟩)] W fun e W' =>
      ((∃ v, e = .returned v) ∧ ∃ ys, ys = (if len = 0 then [] else ksOf off len) ∧ J ys W') ∨ (∃ ch, e = .panicked ch ∧ Jp ch W') := by
  obtain ⟨R, eR⟩ : ∃ R : Ending → World → Prop, R = fun e W' => ((∃ v, e = .returned v) ∧ ∃ ys, ys = (if len = 0 then [] else ksOf off len) ∧ J ys W') ∨ (∃ ch, e = .panicked ch ∧ Jp ch W') := ⟨_, rfl⟩
  rw [← eR]
  have FR : Hid (∀ v W', J (if len = 0 then [] else ksOf off len) W' → R (.returned v) W') := fun v W' h => by rw [eR]; exact .inl ⟨⟨_, rfl⟩, _, rfl, h⟩
  have FP : Hid (∀ ch W', Jp ch W' → R (.panicked ch) W') := fun ch W' h => by rw [eR]; exact .inr ⟨_, rfl, h⟩
  clear eR
  have H0 := Lib.hid h0
  have HY := Lib.hid hY
  have HC := Lib.hid c
  clear h0 hY
  obtain ⟨c1, c2, c3, c4, c5⟩ := c
  refine callsIn_of_wp Tryz.func76 rfl trivial ?_ rfl
  simp only [Tryz.ntmps76, List.size_toArray, List.length_cons, List.length_nil, Nat.reduceAdd, Nat.reduceSub, Array.replicate_succ, Array.replicate_zero, List.push_toArray, List.append_toArray, List.nil_append, List.cons_append]
  by_cases hl : len = 0
  · have t1 : ((len : Int) == 0) = true := by simp; omega
    have G := Lib.hid (FR.out (.tuple #[]) W (by rw [if_pos hl]; exact H0.out))
    gi_wp2
    first
      | exact G.out
      | exact bodyPost_ret (results_none rfl _ _ _) rfl G.out
  · have t1 : ((len : Int) == 0) = false := by simp; omega
    rw [if_neg hl] at FR
    have HL := Lib.hid hl
    clear hl
    gi_wp2
    gi_loopw [6] (fun vk wr => ∃ i : Nat, vk = .int .i64 ((off / 32 + i : Nat) : Int) ∧ i ≤ (off + len + 31) / 32 - off / 32 ∧ J ((ksOf off len).take i) wr ∧ SecAt wr bl bo bh bj jb len off half size) (fun vk _ => ((off + len + 31) / 32 - (intOf vk).toNat))
    case atStart => exact ⟨0, by simp, Nat.zero_le _, H0.out, HC.out⟩
    case round =>
      clear c1 c2 c3 c4 c5 H0 HC
      obtain ⟨i, rfl, hi, hJ1, hS⟩ := hrel
      have HJ := Lib.hid hJ1
      have HS := Lib.hid hS
      obtain ⟨c1, c2, c3, c4, c5⟩ := hS
      clear hJ1
      obtain ⟨k, ek⟩ : ∃ k, k = off / 32 + i := ⟨_, rfl⟩
      have EK := Lib.hid ek
      rw [← ek]
      have hk : k ≤ 100000 := by omega
      have hhs : half * size ≤ 100000 := by
        have : half = 0 ∨ half = 1 := by omega
        rcases this with rfl | rfl <;> omega
      have hpn : (half : Int) * (size : Int) = ((half * size : Nat) : Int) := by simp
      have w3 : IntKind.i64.wrap ((half : Int) * (size : Int)) = (half : Int) * (size : Int) := by rw [IntWalk.i64_left, IntWalk.wrap64_in _ ⟨by rw [hpn]; omega, by rw [hpn]; omega⟩]
      have w4 : IntKind.i64.wrap (2 + (half : Int) * (size : Int)) = 2 + (half : Int) * (size : Int) := by rw [IntWalk.i64_left, IntWalk.wrap64_in _ ⟨by rw [hpn]; omega, by rw [hpn]; omega⟩]
      have w5 : IntKind.i64.wrap (2 + (half : Int) * (size : Int) + (k : Int)) = 2 + (half : Int) * (size : Int) + (k : Int) := by rw [IntWalk.i64_left, IntWalk.wrap64_in _ ⟨by rw [hpn]; omega, by rw [hpn]; omega⟩]
      have hmix : Tryz.prog.follows .mixedOrders = true := by kernel_rfl
      clear hpn
      by_cases hlt : i < (off + len + 31) / 32 - off / 32
      · have t2 : decide ((k : Int) * 32 < (off : Int) + (len : Int)) = true := decide_eq_true (by have := HL.out; omega)
        clear ek
        have e1 : ((2 + half * size + k : Nat) : Int) = 2 + (half : Int) * (size : Int) + (k : Int) := by simp
        have e2 : ((32 * k : Nat) : Int) = (k : Int) * 32 := by omega
        have HX : Hid ((ksOf off len).take i ++ [k] <+: ksOf off len) := by
          show _ <+: _
          rw [EK.out, ks_take hlt]; exact List.take_prefix _ _
        have E1 := Lib.hid e1
        have E2 := Lib.hid e2
        clear e1 e2
        gi_wp2
        refine Free.wpIn_region_freeT (.inl rfl) 12 [] (fun w2 => Below wr.heap.size wr w2 ∧ w2.cell? ⟨bh, 0, none⟩ = some (.int .i64 (half : Int)) ∧ w2.cell? ⟨bj, 0, none⟩ = some (.pointer (some ⟨jb, 0, none⟩)) ∧ w2.cell? ⟨jb, 4, none⟩ = some (.int .i64 (size : Int))) (by kernel_rfl) (by kernel_rfl) (by kernel_rfl) (Free.mono_det (fun j mk r hf => by cases hf)) ⟨(Below.refl _ _).drew, c3, c4, c5⟩ (fun _ _ h g => ⟨h.1.trans (Below.mono g h.1.size), cell_grw h.2.1 g, cell_grw h.2.2.1 g, cell_grw h.2.2.2 g⟩) ?_
        simp only [List.take_succ_cons, List.take_zero]
        clear c1 c2 c3 c4 c5
        iterate 12 (apply Free.chain_still (by first | exact Free.wanted_of rfl rfl rfl | rfl) rfl; (intro w' hB hA; obtain ⟨qB, q1, q2, q3⟩ := hB; clear hA  qB; go_light; go_simp <;> rfl); (try simp only [Act.put, List.setIfInBounds_toArray, List.set_cons_succ, List.set_cons_zero]))
        apply Free.chain_nil
        intro w1 hB1 _ _
        simp only [List.drop_succ_cons, List.drop_zero]
        obtain ⟨fn, tmps, assign, body, hy, hR⟩ := HY.out _ k w1 (abide hJ HJ.out hB1.1) HX.out
        have HS1 := Lib.hid (HS.out.keep (F := F) (Keep.of_below hB1.1) f1 f2 f3 f4 f5)
        dsimp only [encK] at hy
        rw [E1.out, E2.out] at hy
        have HR := Lib.hid hR
        clear hR HJ HS hB1
        gi_wp2
        rw [hy]
        refine ⟨fun _ => hm, HR.out.mono ?_⟩
        rintro e3 wy (⟨rfl, hJ3, hk3⟩ | ⟨ch, rfl, hp3⟩)
        · have HJ3 : Hid (J ((ksOf off len).take (i + 1)) wy) := by
            have := hJ3
            rw [EK.out, ks_take hlt] at this
            exact this
          have HS3 := Lib.hid (HS1.out.keep hk3 f1 f2 f3 f4 f5)
          have REL : Hid (Value.int .i64 ((k : Int) + 1) = .int .i64 ((off / 32 + (i + 1) : Nat) : Int)) := by
            show _ = _
            rw [EK.out]; congr 1
          have MEA : Hid ((off + len + 31) / 32 - ((k : Int) + 1).toNat < (off + len + 31) / 32 - (k : Int).toNat) := by
            show _ < _
            rw [EK.out]; omega
          clear hJ3 hk3 HR hy HX HS1 w3 w4 w5
          gi_wp2
          go_roundw
          case rel => exact ⟨i + 1, REL.out, hlt, HJ3.out, HS3.out⟩
          case measure => exact MEA.out
        · have G := Lib.hid (FP.out ch wy hp3)
          clear HR hy HX
          gi_wp2
          exact ⟨rfl, G.out⟩
      · have t2 : decide ((k : Int) * 32 < (off : Int) + (len : Int)) = false := decide_eq_false (by omega)
        have G := Lib.hid (FR.out (.tuple #[]) wr (by
          have := HJ.out
          rw [List.take_of_length_le (by unfold ksOf; rw [List.length_range']; omega)] at this
          exact this))
        clear c3 c4 c5 w3 w4 w5
        gi_wp2
        first
          | exact G.out
          | go_end0; exact G.out
          | exact bodyPost_ret (results_none rfl _ _ _) rfl G.out
theorem sectors_any {w : World} (jb half off len : Nat) : Calls Tryz.prog 66 #[.pointer (some ⟨jb, 0, none⟩), .int .i64 (half : Int), .int .i64 (off : Int), .int .i64 (len : Int)] w fun e w' =>
    e = .returned (.func (.func 76) #[] #[.pointer (some ⟨w.heap.size + 3, 0, none⟩), .pointer (some ⟨w.heap.size + 2, 0, none⟩), .pointer (some ⟨w.heap.size + 1, 0, none⟩), .pointer (some ⟨w.heap.size, 0, none⟩)]) ∧
      w' = (((w.alloc (.cells #[.pointer (some ⟨jb, 0, none⟩)] 29)).alloc (.cells #[.int .i64 (half : Int)] 3)).alloc (.cells #[.int .i64 (off : Int)] 3)).alloc (.cells #[.int .i64 (len : Int)] 3) := by
  have hmf : ∀ (fn : Fn) (first cap : Array Value) (w : World), (Instr.makeFunc fn first cap).run Tryz.prog w = .ok (.func fn first cap) w := fun _ _ _ _ => rfl
  go_enter Tryz.func66, Tryz.ntmps66
  go_wp2_with fail
  go_ret
  exact ⟨rfl, rfl⟩
theorem sectors_seq (m bl bo bh bj jb : Nat) (hm : 1 ≤ m) (F : Nat → Prop) (half off len size : Nat) (f1 : ¬ F bl) (f2 : ¬ F bo) (f3 : ¬ F bh) (f4 : ¬ F bj) (f5 : ¬ F jb)
    (g1 : half ≤ 1) (g2 : off ≤ 1000000) (g3 : len ≤ 1000000) (g4 : size ≤ 100000) (w : World) (c : SecAt w bl bo bh bj jb len off half size) :
    SeqP m Tryz.prog 76 #[.pointer (some ⟨bl, 0, none⟩), .pointer (some ⟨bo, 0, none⟩), .pointer (some ⟨bh, 0, none⟩), .pointer (some ⟨bj, 0, none⟩)] (encK (2 + half * size)) F (fun pre k => pre ++ [k] <+: ksOf off len) (fun ys => ys = (if len = 0 then [] else ksOf off len)) w := fun l J Jp W hW hJ hY h0 =>
  sectors1_in m hm l bl bo bh bj jb F half off len size f1 f2 f3 f4 f5 g1 g2 g3 g4 J Jp _ hJ hY W (c.keep (F := fun _ => False) (Keep.of_below hW) id id id id id) h0
end Go.Proofs.YthfjaaigncjhlaaGreatDoor
