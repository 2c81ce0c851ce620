/- Package journal: parse. No condition. -/
import Derived.Test.YthfjaaigncjhlaaGreatDoorJo2
namespace Go.Proofs.YthfjaaigncjhlaaGreatDoor
open Go.RowKit Go.Blk Go.Jn

theorem unwanted2 {o : Oper} {ops : Array Oper} {a : Act} {j t : Nat} {b b' : Bool} (hg : o.guard = some (j, b')) (hj : (ops[j]?).bind (·.dst) = some t) (ht : a.tmps[t]? = some (.bool b)) (hne : (b == b') = false) : Region.wanted o (yielded ops a.tmps) = false := by
  unfold Region.wanted yielded
  rw [hg]
  simp only [hj, Option.bind_some, ht]
  simpa using hne
theorem results_cell_row_tmp {P : Program} {fn : Func} {p u : Tmp} {ty : TypeId} {v : Value} (h : fn.results = #[.cell p ty, .tmp u]) (tmps : Array Value) (w : World) (g : Nat) (t : TypeId) (cs : Array Value) (fr : Nat × Nat) (d : TypeDesc)
    (hp : tmps.getD p undef = .pointer (some ⟨g, 0, none⟩)) (hg : w.heap[g]? = some (.cells cs t fr))
    (hu : P.underlying ty = some d) (hd : (match d with | .struct _ | .array _ _ => true | _ => false) = true) (hi : (P.info? ty).map (·.size) = some cs.size) (hv : tmps.getD u undef = v) :
    (results fn tmps).run P w = .ok (.tuple #[.agg cs, v]) w := by
  have hp' : tmps[p]?.getD undef = .pointer (some ⟨g, 0, none⟩) := by simpa using hp
  have hv' : tmps[u]?.getD undef = v := by simpa using hv
  simp [results, h, hp', hv', asAddr, run_loadVar_row w g t ty cs fr d hg hu hd hi]
def valV (a b c : Nat) : Value := .agg #[.int .i64 (a : Int), .int .i64 (b : Int), .int .i64 (c : Int)]
def ParPost (r : Option (Nat × Nat × Nat)) (w : World) (e : Ending) (w' : World) : Prop :=
  Below w.heap.size w w' ∧ ((r = none ∧ e = .returned (.tuple #[valV 0 0 0, .bool false])) ∨ ∃ v : Nat × Nat × Nat, r = some v ∧ e = .returned (.tuple #[valV v.1 v.2.1 v.2.2, .bool true]))
set_option maxRecDepth 100000 in
theorem parse_any (t : ByteArray) (room : Nat) (w : World) (hr : room ≤ 999999999) (ht : t.size ≤ 1000000) :
    Calls Tryz.prog 63 #[.string t, .int .i64 (room : Int)] w (ParPost (parseV t.data.toList room) w) := by
  obtain ⟨R, eR⟩ : ∃ R, R = ParPost (parseV t.data.toList room) w := ⟨_, rfl⟩
  rw [← eR]
  have hsz : t.data.toList.length = t.size := by simp
  have FN : Hid (parseV t.data.toList room = none → ∀ w', Below w.heap.size w w' → R (.returned (.tuple #[valV 0 0 0, .bool false])) w') := fun h w' hb => by rw [eR, h]; exact ⟨hb, .inl ⟨rfl, rfl⟩⟩
  have FS : Hid (∀ v : Nat × Nat × Nat, parseV t.data.toList room = some v → ∀ w', Below w.heap.size w w' → R (.returned (.tuple #[valV v.1 v.2.1 v.2.2, .bool true])) w') := fun v h w' hb => by rw [eR, h]; exact ⟨hb, .inr ⟨v, rfl, rfl⟩⟩
  have D1 : Hid (∀ (u : ByteArray) (w : World), u.size ≤ 16 → Calls Tryz.prog 65 #[.string u] w (DigPost (digsL u.data.toList) w)) := fun u w h => digits_any u w h
  clear eR
  have g2 : ∀ a b c : Nat, (Tryz.prog.info? 61).map (·.size) = some (#[Value.int .i64 (a : Int), .int .i64 (b : Int), .int .i64 (c : Int)] : Array Value).size := fun a b c => by kernel_rfl
  have g1 : ∀ a b c : Nat, (#[Value.int .i64 (a : Int), .int .i64 (b : Int), .int .i64 (c : Int)].all (·.oneCell')) = true := fun a b c => by simp [Value.oneCell']
  have G2 := Lib.hid g2
  have G1 := Lib.hid g1
  clear g1 g2
  by_cases h32 : t.size = 32
  · have t1 : ((t.size : Int) == 32) = true := by simp; omega
    have t2 : ((t.size : Int) != 32) = false := by simp; omega
    have z16 : (16 : Int) ≤ (t.size : Int) := by omega
    obtain ⟨s, es⟩ : ∃ s, s = t.data.toList := ⟨_, rfl⟩
    obtain ⟨E, eE⟩ : ∃ E, E = ((t.extract 0 16).toList == (t.extract 16 32).toList) := ⟨_, rfl⟩
    have hE : E = decide (s.take 16 = s.drop 16) := by
      rw [eE, ByteArray.toList_eq, ByteArray.toList_eq]
      have e1 : (t.extract 0 16).data.toList = s.take 16 := by rw [es]; simp
      have e2 : (t.extract 16 32).data.toList = s.drop 16 := by rw [es]; simp; exact List.take_of_length_le (by simp; omega)
      rw [e1, e2, Bool.eq_iff_iff]; simp
    have x1 : (t.extract 0 9).data.toList = s.take 9 := by rw [es]; simp
    have x2 : (t.extract 9 10).data.toList = (s.take 10).drop 9 := by rw [es]; simp [List.drop_take]
    have x3 : (t.extract 10 16).data.toList = (s.take 16).drop 10 := by rw [es]; simp [List.drop_take]
    have hsl : s.length = 32 := by rw [es, hsz, h32]
    rw [← es] at FN FS
    have F0 := Lib.hid (fun (h : E = false) => FN.out (by unfold parseV; rw [if_neg (by rw [hE] at h; simp at h; exact fun hh => h hh.2)]))
    have F1 := Lib.hid (fun (h : E = true) (h1 : digsL (s.take 9) = none) => FN.out (by unfold parseV; rw [if_pos ⟨hsl, by rw [hE] at h; simpa using h⟩, h1]))
    have F2 := Lib.hid (fun (h : E = true) (a : Nat) (h1 : digsL (s.take 9) = some a) (h2 : digsL ((s.take 10).drop 9) = none) => FN.out (by unfold parseV; rw [if_pos ⟨hsl, by rw [hE] at h; simpa using h⟩, h1]; simp only; rw [h2]))
    have F3 := Lib.hid (fun (h : E = true) (a b : Nat) (h1 : digsL (s.take 9) = some a) (h2 : digsL ((s.take 10).drop 9) = some b) (h3 : ¬ b ≤ 1) => FN.out (by unfold parseV; rw [if_pos ⟨hsl, by rw [hE] at h; simpa using h⟩, h1]; simp only; rw [h2]; simp only; rw [if_neg h3]))
    have F4 := Lib.hid (fun (h : E = true) (a b : Nat) (h1 : digsL (s.take 9) = some a) (h2 : digsL ((s.take 10).drop 9) = some b) (h3 : b ≤ 1) (h4 : digsL ((s.take 16).drop 10) = none) => FN.out (by unfold parseV; rw [if_pos ⟨hsl, by rw [hE] at h; simpa using h⟩, h1]; simp only; rw [h2]; simp only; rw [if_pos h3, h4]))
    have F5 := Lib.hid (fun (h : E = true) (a b c : Nat) (h1 : digsL (s.take 9) = some a) (h2 : digsL ((s.take 10).drop 9) = some b) (h3 : b ≤ 1) (h4 : digsL ((s.take 16).drop 10) = some c) (h5 : ¬ c ≤ room) => FN.out (by unfold parseV; rw [if_pos ⟨hsl, by rw [hE] at h; simpa using h⟩, h1]; simp only; rw [h2]; simp only; rw [if_pos h3, h4]; simp only; rw [if_neg h5]))
    have F6 := Lib.hid (fun (h : E = true) (a b c : Nat) (h1 : digsL (s.take 9) = some a) (h2 : digsL ((s.take 10).drop 9) = some b) (h3 : b ≤ 1) (h4 : digsL ((s.take 16).drop 10) = some c) (h5 : c ≤ room) => FS.out (a, b, c) (by unfold parseV; rw [if_pos ⟨hsl, by rw [hE] at h; simpa using h⟩, h1]; simp only; rw [h2]; simp only; rw [if_pos h3, h4]; simp only; rw [if_pos h5]))
    have Q1 : Hid (∀ w, Calls Tryz.prog 65 #[.string (t.extract 0 9)] w (DigPost (digsL (s.take 9)) w)) := fun w => by rw [← x1]; exact D1.out _ w (by rw [ByteArray.size_extract]; omega)
    have Q2 : Hid (∀ w, Calls Tryz.prog 65 #[.string (t.extract 9 10)] w (DigPost (digsL ((s.take 10).drop 9)) w)) := fun w => by rw [← x2]; exact D1.out _ w (by rw [ByteArray.size_extract]; omega)
    have Q3 : Hid (∀ w, Calls Tryz.prog 65 #[.string (t.extract 10 16)] w (DigPost (digsL ((s.take 16).drop 10)) w)) := fun w => by rw [← x3]; exact D1.out _ w (by rw [ByteArray.size_extract]; omega)
    have EE := Lib.hid eE
    clear FN FS D1 x1 x2 x3 hE es hsl eE
    go_enter Tryz.func63, Tryz.ntmps63
    go_wp2_with fail
    obtain ⟨V, eV⟩ : ∃ V, V = w.alloc (.cells #[.int .i64 0, .int .i64 0, .int .i64 0] 61) := ⟨_, rfl⟩
    have HBV : Hid (Below w.heap.size w V) := by rw [eV]; exact (Below.refl _ w).alloc (Nat.le_refl _) _
    have hk : Blk V w.heap.size [.int .i64 0, .int .i64 0, .int .i64 0] 61 := by rw [eV]; exact Blk.new w _ _
    rw [← eV]
    clear eV
    refine Free.wp_region_free 10 [] (fun y => Below V.heap.size V y ∧ True) (by kernel_rfl) (by kernel_rfl) (Free.mono_det (fun j mk r hf => by cases hf)) ⟨(Below.refl _ _).drew, trivial⟩ (fun _ _ h g => ⟨h.1.trans (Below.mono g h.1.size), trivial⟩) ?_
    simp only [List.take_succ_cons, List.take_zero]
    iterate 9 (apply Free.chain_still (by first | exact Free.wanted_of rfl rfl rfl | rfl) rfl; (intro w' hB hA; obtain ⟨qB, _⟩ := hB; clear hA  qB; go_light; go_simp <;> rfl); (try simp only [Act.put, List.setIfInBounds_toArray, List.set_cons_succ, List.set_cons_zero]))
    rw [← EE.out]
    iterate 1 (apply Free.chain_still (by first | exact Free.wanted_of rfl rfl rfl | rfl) rfl; (intro w' hB hA; obtain ⟨qB, _⟩ := hB; clear hA  qB; go_light; go_simp <;> rfl); (try simp only [Act.put, List.setIfInBounds_toArray, List.set_cons_succ, List.set_cons_zero]))
    apply Free.chain_nil
    intro wz hBz _ _
    simp only [List.drop_succ_cons, List.drop_zero]
    have L := Lib.hid (HBV.out.trans (hBz.1.mono HBV.out.size))
    have HR := Lib.hid (hk.below hBz.1 hk.lt)
    clear hBz hk
    obtain ⟨E1, e1⟩ : ∃ E1, E1 = E := ⟨_, rfl⟩
    rw [← e1]
    cases E1 with
    | false =>
      have H1 := Lib.hid e1.symm
      clear e1
      have F := Lib.hid (F0.out H1.out)
      go_wp2_with (refine wpList_store_row rfl 61 (.tmp 4) (.tmp 20) rfl w.heap.size #[.int .i64 ((0 : Nat) : Int), .int .i64 ((0 : Nat) : Int), .int .i64 ((0 : Nat) : Int)] rfl rfl 61 #[.int .i64 0, .int .i64 0, .int .i64 0] HR.out (G2.out 0 0 0) rfl (G1.out 0 0 0) ?_)
      have hset := setRow_heap wz w.heap.size #[.int .i64 0, .int .i64 0, .int .i64 0] #[.int .i64 ((0 : Nat) : Int), .int .i64 ((0 : Nat) : Int), .int .i64 ((0 : Nat) : Int)] 61 (0, 0) HR.out
      refine bodyPost_ret (v := .tuple #[valV 0 0 0, .bool false]) (results_cell_row_tmp (fn := Tryz.f63) (p := 4) (u := 5) (ty := 61) rfl _ _ w.heap.size 61 #[.int .i64 ((0 : Nat) : Int), .int .i64 ((0 : Nat) : Int), .int .i64 ((0 : Nat) : Int)] (0, 0) _ rfl hset Tryz.underlying61 rfl (by kernel_rfl) rfl) rfl ?_
      refine F.out _ (L.out.grown (row := some w.heap.size) ⟨rfl, rfl, rfl, by simp [World.setRow], fun g _ hg => ?_⟩ L.out.size (fun j e => by cases e; omega))
      simp only [World.setRow, Array.getElem?_modify]; rw [if_neg (fun e => hg (by rw [e]))]
    | true =>
      have H1 := Lib.hid e1.symm
      clear e1
      go_wp2_with fail
      refine (Q1.out _).mono ?_
      rintro e w' ⟨rfl, ⟨h1, rfl⟩ | ⟨a, h1, rfl⟩⟩
      · have F := Lib.hid (F1.out H1.out h1)
        go_wp2_with (refine wpList_store_row rfl 61 (.tmp 4) (.tmp 29) rfl w.heap.size #[.int .i64 ((0 : Nat) : Int), .int .i64 ((0 : Nat) : Int), .int .i64 ((0 : Nat) : Int)] rfl rfl 61 #[.int .i64 0, .int .i64 0, .int .i64 0] HR.out (G2.out 0 0 0) rfl (G1.out 0 0 0) ?_)
        have hset := setRow_heap wz w.heap.size #[.int .i64 0, .int .i64 0, .int .i64 0] #[.int .i64 ((0 : Nat) : Int), .int .i64 ((0 : Nat) : Int), .int .i64 ((0 : Nat) : Int)] 61 (0, 0) HR.out
        refine bodyPost_ret (v := .tuple #[valV 0 0 0, .bool false]) (results_cell_row_tmp (fn := Tryz.f63) (p := 4) (u := 5) (ty := 61) rfl _ _ w.heap.size 61 #[.int .i64 ((0 : Nat) : Int), .int .i64 ((0 : Nat) : Int), .int .i64 ((0 : Nat) : Int)] (0, 0) _ rfl hset Tryz.underlying61 rfl (by kernel_rfl) rfl) rfl ?_
        refine F.out _ (L.out.grown (row := some w.heap.size) ⟨rfl, rfl, rfl, by simp [World.setRow], fun g _ hg => ?_⟩ L.out.size (fun j e => by cases e; omega))
        simp only [World.setRow, Array.getElem?_modify]; rw [if_neg (fun e => hg (by rw [e]))]
      · go_wp2_with fail
        refine (Q2.out _).mono ?_
        rintro e w' ⟨rfl, ⟨h2, rfl⟩ | ⟨b, h2, rfl⟩⟩
        · have F := Lib.hid (F2.out H1.out a h1 h2)
          go_wp2_with (refine wpList_store_row rfl 61 (.tmp 4) (.tmp 42) rfl w.heap.size #[.int .i64 ((0 : Nat) : Int), .int .i64 ((0 : Nat) : Int), .int .i64 ((0 : Nat) : Int)] rfl rfl 61 #[.int .i64 0, .int .i64 0, .int .i64 0] HR.out (G2.out 0 0 0) rfl (G1.out 0 0 0) ?_)
          have hset := setRow_heap wz w.heap.size #[.int .i64 0, .int .i64 0, .int .i64 0] #[.int .i64 ((0 : Nat) : Int), .int .i64 ((0 : Nat) : Int), .int .i64 ((0 : Nat) : Int)] 61 (0, 0) HR.out
          refine bodyPost_ret (v := .tuple #[valV 0 0 0, .bool false]) (results_cell_row_tmp (fn := Tryz.f63) (p := 4) (u := 5) (ty := 61) rfl _ _ w.heap.size 61 #[.int .i64 ((0 : Nat) : Int), .int .i64 ((0 : Nat) : Int), .int .i64 ((0 : Nat) : Int)] (0, 0) _ rfl hset Tryz.underlying61 rfl (by kernel_rfl) rfl) rfl ?_
          refine F.out _ (L.out.grown (row := some w.heap.size) ⟨rfl, rfl, rfl, by simp [World.setRow], fun g _ hg => ?_⟩ L.out.size (fun j e => by cases e; omega))
          simp only [World.setRow, Array.getElem?_modify]; rw [if_neg (fun e => hg (by rw [e]))]
        · by_cases hb : b ≤ 1
          · have tb : decide ((1 : Int) < (b : Int)) = false := by simp; omega
            go_wp2_with fail
            refine (Q3.out _).mono ?_
            rintro e w' ⟨rfl, ⟨h3, rfl⟩ | ⟨c, h3, rfl⟩⟩
            · have F := Lib.hid (F4.out H1.out a b h1 h2 hb h3)
              go_wp2_with (refine wpList_store_row rfl 61 (.tmp 4) (.tmp 56) rfl w.heap.size #[.int .i64 ((0 : Nat) : Int), .int .i64 ((0 : Nat) : Int), .int .i64 ((0 : Nat) : Int)] rfl rfl 61 #[.int .i64 0, .int .i64 0, .int .i64 0] HR.out (G2.out 0 0 0) rfl (G1.out 0 0 0) ?_)
              have hset := setRow_heap wz w.heap.size #[.int .i64 0, .int .i64 0, .int .i64 0] #[.int .i64 ((0 : Nat) : Int), .int .i64 ((0 : Nat) : Int), .int .i64 ((0 : Nat) : Int)] 61 (0, 0) HR.out
              refine bodyPost_ret (v := .tuple #[valV 0 0 0, .bool false]) (results_cell_row_tmp (fn := Tryz.f63) (p := 4) (u := 5) (ty := 61) rfl _ _ w.heap.size 61 #[.int .i64 ((0 : Nat) : Int), .int .i64 ((0 : Nat) : Int), .int .i64 ((0 : Nat) : Int)] (0, 0) _ rfl hset Tryz.underlying61 rfl (by kernel_rfl) rfl) rfl ?_
              refine F.out _ (L.out.grown (row := some w.heap.size) ⟨rfl, rfl, rfl, by simp [World.setRow], fun g _ hg => ?_⟩ L.out.size (fun j e => by cases e; omega))
              simp only [World.setRow, Array.getElem?_modify]; rw [if_neg (fun e => hg (by rw [e]))]
            · by_cases hc : c ≤ room
              · have F := Lib.hid (F6.out H1.out a b c h1 h2 hb h3 hc)
                have tc : decide ((room : Int) < (c : Int)) = false := by simp; omega
                have tc' : decide (room < c) = false := by simp; omega
                go_wp2_with (refine wpList_store_row rfl 61 (.tmp 4) (.tmp 60) rfl w.heap.size #[.int .i64 ((a : Nat) : Int), .int .i64 ((b : Nat) : Int), .int .i64 ((c : Nat) : Int)] rfl rfl 61 #[.int .i64 0, .int .i64 0, .int .i64 0] HR.out (G2.out a b c) rfl (G1.out a b c) ?_)
                have hset := setRow_heap wz w.heap.size #[.int .i64 0, .int .i64 0, .int .i64 0] #[.int .i64 ((a : Nat) : Int), .int .i64 ((b : Nat) : Int), .int .i64 ((c : Nat) : Int)] 61 (0, 0) HR.out
                refine bodyPost_ret (v := .tuple #[valV a b c, .bool true]) (results_cell_row_tmp (fn := Tryz.f63) (p := 4) (u := 5) (ty := 61) rfl _ _ w.heap.size 61 #[.int .i64 ((a : Nat) : Int), .int .i64 ((b : Nat) : Int), .int .i64 ((c : Nat) : Int)] (0, 0) _ rfl hset Tryz.underlying61 rfl (by kernel_rfl) rfl) rfl ?_
                refine F.out _ (L.out.grown (row := some w.heap.size) ⟨rfl, rfl, rfl, by simp [World.setRow], fun g _ hg => ?_⟩ L.out.size (fun j e => by cases e; omega))
                simp only [World.setRow, Array.getElem?_modify]; rw [if_neg (fun e => hg (by rw [e]))]
              · have F := Lib.hid (F5.out H1.out a b c h1 h2 hb h3 hc)
                have tc : decide ((room : Int) < (c : Int)) = true := by simp; omega
                have tc' : decide (room < c) = true := by simp; omega
                go_wp2_with (refine wpList_store_row rfl 61 (.tmp 4) (.tmp 56) rfl w.heap.size #[.int .i64 ((0 : Nat) : Int), .int .i64 ((0 : Nat) : Int), .int .i64 ((0 : Nat) : Int)] rfl rfl 61 #[.int .i64 0, .int .i64 0, .int .i64 0] HR.out (G2.out 0 0 0) rfl (G1.out 0 0 0) ?_)
                have hset := setRow_heap wz w.heap.size #[.int .i64 0, .int .i64 0, .int .i64 0] #[.int .i64 ((0 : Nat) : Int), .int .i64 ((0 : Nat) : Int), .int .i64 ((0 : Nat) : Int)] 61 (0, 0) HR.out
                refine bodyPost_ret (v := .tuple #[valV 0 0 0, .bool false]) (results_cell_row_tmp (fn := Tryz.f63) (p := 4) (u := 5) (ty := 61) rfl _ _ w.heap.size 61 #[.int .i64 ((0 : Nat) : Int), .int .i64 ((0 : Nat) : Int), .int .i64 ((0 : Nat) : Int)] (0, 0) _ rfl hset Tryz.underlying61 rfl (by kernel_rfl) rfl) rfl ?_
                refine F.out _ (L.out.grown (row := some w.heap.size) ⟨rfl, rfl, rfl, by simp [World.setRow], fun g _ hg => ?_⟩ L.out.size (fun j e => by cases e; omega))
                simp only [World.setRow, Array.getElem?_modify]; rw [if_neg (fun e => hg (by rw [e]))]
          · have F := Lib.hid (F3.out H1.out a b h1 h2 hb)
            have tb : decide ((1 : Int) < (b : Int)) = true := by simp; omega
            go_wp2_with (refine wpList_store_row rfl 61 (.tmp 4) (.tmp 42) rfl w.heap.size #[.int .i64 ((0 : Nat) : Int), .int .i64 ((0 : Nat) : Int), .int .i64 ((0 : Nat) : Int)] rfl rfl 61 #[.int .i64 0, .int .i64 0, .int .i64 0] HR.out (G2.out 0 0 0) rfl (G1.out 0 0 0) ?_)
            have hset := setRow_heap wz w.heap.size #[.int .i64 0, .int .i64 0, .int .i64 0] #[.int .i64 ((0 : Nat) : Int), .int .i64 ((0 : Nat) : Int), .int .i64 ((0 : Nat) : Int)] 61 (0, 0) HR.out
            refine bodyPost_ret (v := .tuple #[valV 0 0 0, .bool false]) (results_cell_row_tmp (fn := Tryz.f63) (p := 4) (u := 5) (ty := 61) rfl _ _ w.heap.size 61 #[.int .i64 ((0 : Nat) : Int), .int .i64 ((0 : Nat) : Int), .int .i64 ((0 : Nat) : Int)] (0, 0) _ rfl hset Tryz.underlying61 rfl (by kernel_rfl) rfl) rfl ?_
            refine F.out _ (L.out.grown (row := some w.heap.size) ⟨rfl, rfl, rfl, by simp [World.setRow], fun g _ hg => ?_⟩ L.out.size (fun j e => by cases e; omega))
            simp only [World.setRow, Array.getElem?_modify]; rw [if_neg (fun e => hg (by rw [e]))]
  · have F := Lib.hid (FN.out (by unfold parseV; rw [if_neg (by omega)]))
    have t1 : ((t.size : Int) == 32) = false := by simp; omega
    have t2 : ((t.size : Int) != 32) = true := by simp; omega
    clear FN FS
    go_enter Tryz.func63, Tryz.ntmps63
    go_wp2_with fail
    obtain ⟨V, eV⟩ : ∃ V, V = w.alloc (.cells #[.int .i64 0, .int .i64 0, .int .i64 0] 61) := ⟨_, rfl⟩
    have HBV : Hid (Below w.heap.size w V) := by rw [eV]; exact (Below.refl _ w).alloc (Nat.le_refl _) _
    have hk : Blk V w.heap.size [.int .i64 0, .int .i64 0, .int .i64 0] 61 := by rw [eV]; exact Blk.new w _ _
    rw [← eV]
    clear eV
    refine Free.wp_region_free 10 [] (fun y => Below V.heap.size V y ∧ True) (by kernel_rfl) (by kernel_rfl) (Free.mono_det (fun j mk r hf => by cases hf)) ⟨(Below.refl _ _).drew, trivial⟩ (fun _ _ h g => ⟨h.1.trans (Below.mono g h.1.size), trivial⟩) ?_
    simp only [List.take_succ_cons, List.take_zero]
    iterate 4 (apply Free.chain_still (by first | exact Free.wanted_of rfl rfl rfl | rfl) rfl; (intro w' hB hA; obtain ⟨qB, _⟩ := hB; clear hA  qB; go_light; go_simp <;> rfl); (try simp only [Act.put, List.setIfInBounds_toArray, List.set_cons_succ, List.set_cons_zero]))
    iterate 5 (apply Free.chain_skip (by exact unwanted2 rfl rfl rfl rfl); simp only [Act.put, List.setIfInBounds_toArray, List.set_cons_succ, List.set_cons_zero])
    iterate 1 (apply Free.chain_still (by first | exact Free.wanted_of rfl rfl rfl | rfl) rfl; (intro w' hB hA; obtain ⟨qB, _⟩ := hB; clear hA  qB; go_light; go_simp <;> rfl); (try simp only [Act.put, List.setIfInBounds_toArray, List.set_cons_succ, List.set_cons_zero]))
    apply Free.chain_nil
    intro wz hBz _ _
    simp only [List.drop_succ_cons, List.drop_zero]
    have L := Lib.hid (HBV.out.trans (hBz.1.mono HBV.out.size))
    have HR := Lib.hid (hk.below hBz.1 hk.lt)
    clear hBz hk
    go_wp2_with (refine wpList_store_row rfl 61 (.tmp 4) (.tmp 20) rfl w.heap.size #[.int .i64 ((0 : Nat) : Int), .int .i64 ((0 : Nat) : Int), .int .i64 ((0 : Nat) : Int)] rfl rfl 61 #[.int .i64 0, .int .i64 0, .int .i64 0] HR.out (G2.out 0 0 0) rfl (G1.out 0 0 0) ?_)
    have hset := setRow_heap wz w.heap.size #[.int .i64 0, .int .i64 0, .int .i64 0] #[.int .i64 ((0 : Nat) : Int), .int .i64 ((0 : Nat) : Int), .int .i64 ((0 : Nat) : Int)] 61 (0, 0) HR.out
    refine bodyPost_ret (v := .tuple #[valV 0 0 0, .bool false]) (results_cell_row_tmp (fn := Tryz.f63) (p := 4) (u := 5) (ty := 61) rfl _ _ w.heap.size 61 #[.int .i64 ((0 : Nat) : Int), .int .i64 ((0 : Nat) : Int), .int .i64 ((0 : Nat) : Int)] (0, 0) _ rfl hset Tryz.underlying61 rfl (by kernel_rfl) rfl) rfl ?_
    refine F.out _ (L.out.grown (row := some w.heap.size) ⟨rfl, rfl, rfl, by simp [World.setRow], fun g _ hg => ?_⟩ L.out.size (fun j e => by cases e; omega))
    simp only [World.setRow, Array.getElem?_modify]; rw [if_neg (fun e => hg (by rw [e]))]
end Go.Proofs.YthfjaaigncjhlaaGreatDoor
