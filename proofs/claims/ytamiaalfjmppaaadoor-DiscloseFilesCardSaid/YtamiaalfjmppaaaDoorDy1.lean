/- Package file: part. Condition: at most 1000 facts and orders. -/
import Derived.Test.YtamiaalfjmppaaaDoorDw3
import Derived.Test.YtamiaalfjmppaaaDoorMq
namespace Go.Proofs.YtamiaalfjmppaaaDoor
open Go.RowKit Go.Blk Go.Sg Go.Opn Go.Di Go.Apl Go.Rf

def encBf (b : Int × Int) : List Value := [.int .i64 b.1, .int .i64 b.2]
theorem encBf_len (b : Int × Int) : (encBf b).length = 2 := rfl
theorem encBf_one (b : Int × Int) : ∀ u ∈ encBf b, u.oneCell' = true := by
  intro u hu
  simp [encBf] at hu
  rcases hu with rfl | rfl <;> rfl
theorem encFc_len (x : Fac) : (encF x).length = 6 := rfl
theorem encFc_one (x : Fac) : ∀ u ∈ encF x, u.oneCell' = true := by
  intro u hu
  simp [encF] at hu
  rcases hu with rfl | rfl | rfl | rfl | rfl | rfl <;> rfl
theorem infoFc : (Tryd.prog.info? 25).map (fun i => (i.zero, i.size, i.bytes)) = some (some (.agg #[.int .i64 0, .int .i64 0, .int .i64 0, .int .i64 0, .int .i64 0, .bool false]), 6, 48) := by kernel_rfl
theorem infoBf : (Tryd.prog.info? 121).map (fun i => (i.zero, i.size, i.bytes)) = some (some (.agg #[.int .i64 0, .int .i64 0]), 2, 16) := by kernel_rfl
/-- The Refs of facts, as the map of them. -/
def refsM (l : List Fac) : Int → Option Value := fun y => if l.any (fun x => decide (x.ref = y)) then some (.bool true) else none
theorem refsM_snoc (l : List Fac) (x : Fac) : refsM (l ++ [x]) = fun y => if y = x.ref then some (.bool true) else refsM l y := by
  funext y
  unfold refsM
  rw [List.any_append]
  by_cases h : y = x.ref
  · subst h; simp
  · rw [if_neg h]
    have : ¬ x.ref = y := fun e => h e.symm
    simp [this]
def ordOk (l : List Fac) (b : Int × Int) : Bool := l.any (fun x => decide (x.ref = b.1)) && l.any (fun x => decide (x.ref = b.2))
theorem row_type {w : World} {B n sz g : Nat} {e : TypeId} {v : Value} {xs : List Value} (h : w.ownsRow B e sz v n xs) (hg : v.ownBlock = some g) : B ≤ g ∧ ∃ cur, w.heap[g]? = some (.cells cur e (0, 0)) := by
  rcases h.2 with ⟨rfl, _⟩ | ⟨g', cap, cur, rfl, h1, h2, _⟩
  · cases hg
  · cases hg; exact ⟨h1, cur, h2⟩
theorem row_off {w : World} {B n sz b : Nat} {e T : TypeId} {v : Value} {xs cs : List Value} (h : w.ownsRow B e sz v n xs) (hb : Blk w b cs T) (hne : e ≠ T) : v.ownBlock ≠ some b := fun hg => by
  obtain ⟨_, cur, hc⟩ := row_type h hg
  unfold Blk at hb
  rw [hb] at hc
  injection hc with hc
  injection hc with _ hc
  exact hne hc.symm
theorem row_kept {w w' : World} {B n sz : Nat} {e : TypeId} {v : Value} {xs : List Value} (h : w.ownsRow B e sz v n xs) (hk : ∀ g, v.ownBlock = some g → w'.heap[g]? = w.heap[g]?) : w'.ownsRow B e sz v n xs := by
  refine ⟨h.1, ?_⟩
  rcases h.2 with h1 | ⟨g, cap, cur, h1, h2, h3, h4⟩
  · exact .inl h1
  · exact .inr ⟨g, cap, cur, h1, h2, (hk g (by rw [h1]; rfl)).trans h3, h4⟩
theorem own_list {α : Type} {ec : α → List Value} {sz B : Nat} {w : World} {e : TypeId} {v : Value} {l : List α} (hec : ∀ x, (ec x).length = sz) (_h0 : 0 < sz) (h : w.ownsRow B e sz v l.length (l.flatMap ec)) : ∃ A c, v = .slice A l.length c ∧ l.length ≤ c ∧ SL w sz ec A l := by
  by_cases hl : l = []
  · subst hl
    rcases h.2 with ⟨rfl, _⟩ | ⟨g, cap, cur, rfl, _, _, h4, _⟩
    · exact ⟨none, 0, rfl, Nat.zero_le _, SL.nil⟩
    · exact ⟨_, _, rfl, h4, SL.nil⟩
  · obtain ⟨g, cap, cur, h1, _, _, h4, _, _, h7⟩ := own_at hec h hl
    exact ⟨_, _, h1, h4, h7⟩
/-- What lies in memory while part runs. -/
structure PS (w wr : World) (house : Int) (vF vO rf ro vf vo : Value) (fs : List Fac) (os : List (Int × Int)) (ms : List Fac) : Prop where
  bl : Below w.heap.size w wr
  arg : Blk wr w.heap.size [.int .i64 house, vF, vO] 63
  res : ∃ cs, Blk wr (w.heap.size + 1) cs 63 ∧ cs.length = 3
  r : Blk wr (w.heap.size + 1 + 1) [.int .i64 house, rf, ro] 63
  row : wr.ownsRow w.heap.size 25 6 vf fs.length (fs.flatMap encF)
  rowo : wr.ownsRow w.heap.size 121 2 vo os.length (os.flatMap encBf)
  map : Mq.MapIs wr (w.heap.size + 1 + 1 + 1) (refsM ms)
section
variable {w wr w2 : World} {house : Int} {vF vO rf ro vf vo : Value} {fs : List Fac} {os : List (Int × Int)} {ms : List Fac}
theorem PS.grow (h : PS w wr house vF vO rf ro vf vo fs os ms) (hb : Below wr.heap.size wr w2) : PS w w2 house vF vO rf ro vf vo fs os ms := by
  obtain ⟨h1, h2, ⟨cs, h3, h3'⟩, h4, h5, h6, h7⟩ := h
  exact ⟨h1.trans (hb.mono h1.size), h2.below hb h2.lt, ⟨cs, h3.below hb h3.lt, h3'⟩, h4.below hb h4.lt, row_below h5 hb, row_below h6 hb, h7.keep (hb.block _ h7.lt)⟩
theorem grown_below {w wr w2 : World} {v : Value} (h : Below w.heap.size w wr) (hg : wr.grownBy w2 v.ownBlock) (hv : ∀ g, v.ownBlock = some g → w.heap.size ≤ g) : Below w.heap.size w w2 := h.grown hg h.size hv
theorem PS.off_row (h : PS w wr house vF vO rf ro vf vo fs os ms) {b : Nat} {cs : List Value} (hb : Blk wr b cs 63) (hg : wr.grownBy w2 vf.ownBlock) : Blk w2 b cs 63 :=
  hb.keepB (hg.block _ hb.lt (Ne.symm (row_off h.row hb (by decide))))
theorem PS.off_rowo (h : PS w wr house vF vO rf ro vf vo fs os ms) {b : Nat} {cs : List Value} (hb : Blk wr b cs 63) (hg : wr.grownBy w2 vo.ownBlock) : Blk w2 b cs 63 :=
  hb.keepB (hg.block _ hb.lt (Ne.symm (row_off h.rowo hb (by decide))))
theorem row_offM {B n sz b : Nat} {e : TypeId} {v : Value} {xs : List Value} {f : Int → Option Value} (h : wr.ownsRow B e sz v n xs) (hb : Mq.MapIs wr b f) : v.ownBlock ≠ some b := fun hg => by
  obtain ⟨_, cur, hc⟩ := row_type h hg
  obtain ⟨es, c, h1, _⟩ := hb
  rw [h1] at hc; cases hc
theorem row_off2 {B n m sz sz' : Nat} {e e' : TypeId} {v v' : Value} {xs xs' : List Value} (h : wr.ownsRow B e sz v n xs) (h' : wr.ownsRow B e' sz' v' m xs') (hne : e ≠ e') {g : Nat} (hg : v'.ownBlock = some g) : some g ≠ v.ownBlock := fun hv => by
  obtain ⟨_, cur, hc⟩ := row_type h hv.symm
  obtain ⟨_, cur', hc'⟩ := row_type h' hg
  rw [hc] at hc'
  injection hc' with hc'
  injection hc' with _ hc'
  exact hne hc'
theorem PS.appF (h : PS w wr house vF vO rf ro vf vo fs os ms) {v' : Value} {x : Fac} (hg : wr.grownBy w2 vf.ownBlock) (hown : w2.ownsRow w.heap.size 25 6 v' (fs.length + 1) (fs.flatMap encF ++ [x].flatMap encF)) : PS w w2 house vF vO rf ro v' vo (fs ++ [x]) os ms := by
  obtain ⟨cs, h3, h3'⟩ := h.res
  refine ⟨grown_below h.bl hg (fun g e => (row_type h.row e).1), h.off_row h.arg hg, ⟨cs, h.off_row h3 hg, h3'⟩, h.off_row h.r hg, ?_, row_kept h.rowo (fun g e => ?_), h.map.keep (hg.block _ h.map.lt (Ne.symm (row_offM h.row h.map)))⟩
  · rw [List.length_append, List.flatMap_append]; exact hown
  · have hlt : g < wr.heap.size := by obtain ⟨_, cur, hc⟩ := row_type h.rowo e; exact (Array.getElem?_eq_some_iff.1 hc).1
    exact hg.block _ hlt (row_off2 h.row h.rowo (by decide) e)
theorem PS.appO (h : PS w wr house vF vO rf ro vf vo fs os ms) {v' : Value} {x : Int × Int} (hg : wr.grownBy w2 vo.ownBlock) (hown : w2.ownsRow w.heap.size 121 2 v' (os.length + 1) (os.flatMap encBf ++ [x].flatMap encBf)) : PS w w2 house vF vO rf ro vf v' fs (os ++ [x]) ms := by
  obtain ⟨cs, h3, h3'⟩ := h.res
  refine ⟨grown_below h.bl hg (fun g e => (row_type h.rowo e).1), h.off_rowo h.arg hg, ⟨cs, h.off_rowo h3 hg, h3'⟩, h.off_rowo h.r hg, row_kept h.row (fun g e => ?_), ?_, h.map.keep (hg.block _ h.map.lt (Ne.symm (row_offM h.rowo h.map)))⟩
  · have hlt : g < wr.heap.size := by obtain ⟨_, cur, hc⟩ := row_type h.row e; exact (Array.getElem?_eq_some_iff.1 hc).1
    exact hg.block _ hlt (row_off2 h.rowo h.row (by decide) e)
  · rw [List.length_append, List.flatMap_append]; exact hown
theorem PS.setR (h : PS w wr house vF vO rf ro vf vo fs os ms) (i : Nat) (v : Value) {rf' ro' : Value} (he : [Value.int .i64 house, rf, ro].set i v = [.int .i64 house, rf', ro']) : PS w (wr.setCell ⟨w.heap.size + 1 + 1, i, none⟩ v) house vF vO rf' ro' vf vo fs os ms := by
  obtain ⟨cs, h3, h3'⟩ := h.res
  have hblk : ∀ g, g ≠ w.heap.size + 1 + 1 → (wr.setCell ⟨w.heap.size + 1 + 1, i, none⟩ v).heap[g]? = wr.heap[g]? := fun g hg => Below.heap_setCell _ ⟨w.heap.size + 1 + 1, i, none⟩ _ _ hg
  refine ⟨h.bl.setCell (by show w.heap.size ≤ w.heap.size + 1 + 1; omega) v, h.arg.keepB (hblk _ (by omega)), ⟨cs, h3.keepB (hblk _ (by omega)), h3'⟩, ?_, row_kept h.row (fun g e => hblk g ?_), row_kept h.rowo (fun g e => hblk g ?_), h.map.keep (hblk _ (by omega))⟩
  · have := h.r.set i v
    rw [he] at this; exact this
  · rintro rfl; exact row_off h.row h.r (by decide) e
  · rintro rfl; exact row_off h.rowo h.r (by decide) e
theorem PS.mapS (h : PS w wr house vF vO rf ro vf vo fs os ms) {x : Fac} (hm : Mq.MapIs w2 (w.heap.size + 1 + 1 + 1) (fun y => if y = x.ref then some (.bool true) else refsM ms y)) (hg : wr.grownBy w2 (some (w.heap.size + 1 + 1 + 1))) : PS w w2 house vF vO rf ro vf vo fs os (ms ++ [x]) := by
  obtain ⟨cs, h3, h3'⟩ := h.res
  have hblk : ∀ g, g < wr.heap.size → g ≠ w.heap.size + 1 + 1 + 1 → w2.heap[g]? = wr.heap[g]? := fun g hl hn => hg.block g hl (fun e => hn (by injection e))
  refine ⟨h.bl.grown hg h.bl.size (fun j e => by cases e; omega), h.arg.keepB (hblk _ h.arg.lt (by omega)), ⟨cs, h3.keepB (hblk _ h3.lt (by omega)), h3'⟩, h.r.keepB (hblk _ h.r.lt (by omega)), row_kept h.row (fun g e => hblk g ?_ ?_), row_kept h.rowo (fun g e => hblk g ?_ ?_), ?_⟩
  · obtain ⟨_, cur, hc⟩ := row_type h.row e; exact (Array.getElem?_eq_some_iff.1 hc).1
  · rintro rfl; exact row_offM h.row h.map e
  · obtain ⟨_, cur, hc⟩ := row_type h.rowo e; exact (Array.getElem?_eq_some_iff.1 hc).1
  · rintro rfl; exact row_offM h.rowo h.map e
  · rw [refsM_snoc]; exact hm
end
def RPa1 (w : World) (house : Int) (vF vO : Value) (ch : Fac → Bool) (l : List Fac) (i : Value) (wr : World) : Prop :=
  ∃ (k : Nat) (vf : Value), k ≤ l.length ∧ i = .int .i64 (k : Int) ∧ PS w wr house vF vO vf (.slice none 0 0) vf (.slice none 0 0) ((l.take k).filter ch) [] ((l.take k).filter ch)
def RPa2 (w : World) (house : Int) (vF vO vf : Value) (fs : List Fac) (os : List (Int × Int)) (i : Value) (wr : World) : Prop :=
  ∃ (k : Nat) (vo : Value), k ≤ os.length ∧ i = .int .i64 (k : Int) ∧ PS w wr house vF vO vf vo vf vo fs ((os.take k).filter (ordOk fs)) fs
theorem zeroB (w : World) : (zeroValue 4).run Tryd.prog w = .ok (.bool false) w := by kernel_rfl
theorem refs_look (l : List Fac) (y : Int) : (refsM l y).getD (.bool false) = .bool (l.any (fun x => decide (x.ref = y))) := by
  unfold refsM
  cases h : l.any (fun x => decide (x.ref = y)) <;> simp
set_option maxRecDepth 100000 in
set_option maxHeartbeats 2000000 in
theorem part_any (house : Int) (A B : Option Addr) (c d : Nat) (l : List Fac) (os : List (Int × Int)) (fid : FuncId) (bs : Array Value) (ch : Fac → Bool) (w : World) (hl : l.length ≤ 4000) (hlo : os.length ≤ 4000) (hs1 : SL w 6 encF A l) (hs2 : SL w 2 encBf B os) (ho : ∀ x ∈ l, x.Ok)
    (hcf : ∀ args w, Sem.run Tryd.prog (callFunc fid args) w = .ok (.enter fid args) w)
    (hch : ∀ x ∈ l, ∀ w', Below w.heap.size w w' → Calls Tryd.prog fid (#[.agg (encF x).toArray] ++ bs) w' fun e w2 => e = .returned (.bool (ch x)) ∧ Below w'.heap.size w' w2) :
    Calls Tryd.prog 60 #[.agg #[.int .i64 house, .slice A l.length c, .slice B os.length d], .func (.func fid) #[] bs] w fun e w' =>
      (∃ A' c' B' d', e = .returned (.agg #[.int .i64 house, .slice A' (l.filter ch).length c', .slice B' (os.filter (ordOk (l.filter ch))).length d']) ∧ (l.filter ch).length ≤ c' ∧ (os.filter (ordOk (l.filter ch))).length ≤ d' ∧ SL w' 6 encF A' (l.filter ch) ∧ SL w' 2 encBf B' (os.filter (ordOk (l.filter ch)))) ∧ Below w.heap.size w w' := by
  obtain ⟨R, eR⟩ : ∃ R : Ending → World → Prop, R = fun e w' =>
    (∃ A' c' B' d', e = .returned (.agg #[.int .i64 house, .slice A' (l.filter ch).length c', .slice B' (os.filter (ordOk (l.filter ch))).length d']) ∧ (l.filter ch).length ≤ c' ∧ (os.filter (ordOk (l.filter ch))).length ≤ d' ∧ SL w' 6 encF A' (l.filter ch) ∧ SL w' 2 encBf B' (os.filter (ordOk (l.filter ch)))) ∧ Below w.heap.size w w' := ⟨_, rfl⟩
  rw [← eR]
  have ER := Lib.hid eR
  clear eR
  have HS1 := Lib.hid hs1
  have HS2 := Lib.hid hs2
  have HO := Lib.hid ho
  have HCH := Lib.hid hch
  obtain ⟨vF, evF⟩ : ∃ vF, vF = Value.slice A l.length c := ⟨_, rfl⟩
  obtain ⟨vO, evO⟩ : ∃ vO, vO = Value.slice B os.length d := ⟨_, rfl⟩
  clear hs1 hs2 ho hch
  have hmm := @run_makeMap Tryd.prog
  go_enter Tryd.func60, Tryd.ntmps60
  go_wp2_with fail
  clear hmm
  obtain ⟨W0, eW0⟩ : ∃ W0, W0 = ((((w.alloc (.cells #[.int .i64 house, .slice A l.length c, .slice B os.length d] 63)).alloc (.cells #[.int .i64 0, .slice none 0 0, .slice none 0 0] 63)).alloc (.cells #[.int .i64 house, .slice none 0 0, .slice none 0 0] 63)).alloc (.map #[] 0)) := ⟨_, rfl⟩
  have HST : Hid (RPa1 w house vF vO ch l (.int .i64 0) W0) := by
    refine ⟨0, .slice none 0 0, Nat.zero_le _, rfl, ?_⟩
    rw [List.take_zero, eW0, evF, evO]
    have hz1 : (w.alloc (.cells #[.int .i64 house, .slice A l.length c, .slice B os.length d] 63)).heap.size = w.heap.size + 1 := by simp
    have hz2 : ((w.alloc (.cells #[.int .i64 house, .slice A l.length c, .slice B os.length d] 63)).alloc (.cells #[.int .i64 0, .slice none 0 0, .slice none 0 0] 63)).heap.size = w.heap.size + 2 := by simp
    have hz3 : (((w.alloc (.cells #[.int .i64 house, .slice A l.length c, .slice B os.length d] 63)).alloc (.cells #[.int .i64 0, .slice none 0 0, .slice none 0 0] 63)).alloc (.cells #[.int .i64 house, .slice none 0 0, .slice none 0 0] 63)).heap.size = w.heap.size + 3 := by simp
    refine ⟨((((Below.refl _ w).alloc (Nat.le_refl _) _).alloc (by omega) _).alloc (by omega) _).alloc (by omega) _, ?_, ⟨[.int .i64 0, .slice none 0 0, .slice none 0 0], ?_, rfl⟩, ?_, World.ownsRow_nil _ _ _ _, World.ownsRow_nil _ _ _ _, ?_⟩
    · exact (((Blk.made rfl rfl).alloc _).alloc _).alloc _
    · exact ((Blk.made hz1.symm rfl).alloc _).alloc _
    · exact (Blk.made hz2.symm rfl).alloc _
    · rw [show w.heap.size + 1 + 1 + 1 = w.heap.size + 3 from rfl, ← hz3]; exact Mq.MapIs.made _
  rw [← eW0]
  clear eW0
  go_loopw [18] (fun i wr => RPa1 w house vF vO ch l i wr) (fun i _ => l.length - (intOf i).toNat)
  case atStart => exact HST.out
  case round =>
    clear HST
    obtain ⟨k, vf, hk, rfl, hps⟩ := hrel
    by_cases hlt : k < l.length
    · obtain ⟨x, hx⟩ : ∃ x, l[k]? = some x := ⟨_, List.getElem?_eq_getElem hlt⟩
      have hxm := List.mem_of_getElem? hx
      have CH : Hid (∀ w', Below w.heap.size w w' → Calls Tryd.prog fid (#[.agg (encF x).toArray] ++ bs) w' fun e w2 => e = .returned (.bool (ch x)) ∧ Below w'.heap.size w' w2) := HCH.out x hxm
      obtain ⟨b, off, rfl, hc⟩ := (HS1.out.below hps.bl (Nat.le_refl _)).at_ hx
      have p0 := hc 0
      have p1 := hc 1
      have p2 := hc 2
      have p3 := hc 3
      have p4 := hc 4
      have p5 := hc 5
      have ki1 : (k : Int) < (l.length : Int) := by omega
      have k00 : (0 : Int) ≤ (k : Int) := by omega
      have HPS := Lib.hid hps
      have TK : Hid ((l.take (k + 1)).filter ch = (l.take k).filter ch ++ (if ch x then [x] else [])) := by
        show _ = _
        rw [take_snoc hx, List.filter_append]
        congr 1
        by_cases h : ch x = true
        · rw [if_pos h]; simp [h]
        · rw [if_neg h]; simp [h]
      have hfl : ((l.take k).filter ch).length ≤ k := Nat.le_trans (List.length_filter_le _ _) (by rw [List.length_take]; omega)
      obtain ⟨fs, efs⟩ : ∃ fs, fs = (l.take k).filter ch := ⟨_, rfl⟩
      rw [← efs] at TK HPS hfl
      obtain ⟨C, eC⟩ : ∃ C, C = ch x := ⟨_, rfl⟩
      rw [← eC] at CH TK
      clear hx hxm hc hps efs eC evF evO
      obtain ⟨xr, xa, xl, xh, xf, xs⟩ := x
      have p0 := p0 _ rfl
      have p1 := p1 _ rfl
      have p2 := p2 _ rfl
      have p3 := p3 _ rfl
      have p4 := p4 _ rfl
      have p5 := p5 _ rfl
      simp only [← Nat.add_assoc, Nat.add_zero] at p0 p1 p2 p3 p4 p5
      have hcf' := hcf
      go_wp2_with fail
      have hbx : Below w.heap.size w (wr.alloc (.cells #[.int .i64 xr, .int .i64 xa, .int .i64 xl, .int .i64 xh, .int .i64 xf, .bool xs] 25)) := HPS.out.bl.alloc HPS.out.bl.size _
      have hkx : Blk (wr.alloc (.cells #[.int .i64 xr, .int .i64 xa, .int .i64 xl, .int .i64 xh, .int .i64 xf, .bool xs] 25)) wr.heap.size (encF ⟨xr, xa, xl, xh, xf, xs⟩) 25 := Blk.new wr _ _
      have HPX := Lib.hid (HPS.out.grow ((Below.refl _ wr).alloc (Nat.le_refl _) (.cells #[.int .i64 xr, .int .i64 xa, .int .i64 xl, .int .i64 xh, .int .i64 xf, .bool xs] 25)))
      refine (CH.out _ hbx).mono ?_
      rintro e w2 ⟨rfl, hb2⟩
      have HP2 := Lib.hid (HPX.out.grow hb2)
      have HK2 := Lib.hid (hkx.below hb2 hkx.lt)
      have HLT : Hid (w.heap.size + 1 + 1 + 1 < wr.heap.size) := HPS.out.map.lt
      have HRB : Hid (some wr.heap.size ≠ vf.ownBlock) := fun e => by
        obtain ⟨_, cur, hc⟩ := row_type HPS.out.row e.symm
        have := (Array.getElem?_eq_some_iff.1 hc).1
        omega
      clear hbx hkx HPX hb2 CH p0 p1 p2 p3 p4 p5 HPS
      cases C with
      | false =>
        have KEY : Hid (RPa1 w house vF vO ch l (.int .i64 ((k : Int) + 1)) w2) := ⟨k + 1, vf, by omega, by go_num, by rw [TK.out]; simpa using HP2.out⟩
        clear hcf'
        go_wp2_with fail
        refine ⟨KEY.out, ?_⟩
        simp [intOf]; omega
      | true =>
        have c1 := HP2.out.r.cellD 1 _ rfl
        have q0 := HK2.out.cellD 0 _ rfl
        have q1 := HK2.out.cellD 1 _ rfl
        have q2 := HK2.out.cellD 2 _ rfl
        have q3 := HK2.out.cellD 3 _ rfl
        have q4 := HK2.out.cellD 4 _ rfl
        have q5 := HK2.out.cellD 5 _ rfl
        obtain ⟨i0, hi0, hz0, hz1, hz2⟩ := info_parts infoFc
        have HI := Lib.hid hi0
        have HZ0 := Lib.hid hz0
        have HZ1 := Lib.hid hz1
        have HZ2 := Lib.hid hz2
        clear hi0 hz0 hz1 hz2
        have HPA := Lib.hid (HP2.out.grow ((Below.refl _ w2).alloc (Nat.le_refl _) (.cells #[.int .i64 xr, .int .i64 xa, .int .i64 xl, .int .i64 xh, .int .i64 xf, .bool xs] 25)))
        have HKA := Lib.hid (HK2.out.alloc (.cells #[.int .i64 xr, .int .i64 xa, .int .i64 xl, .int .i64 xh, .int .i64 xf, .bool xs] 25))
        have SLX : Hid (SL (w2.alloc (.cells #[.int .i64 xr, .int .i64 xa, .int .i64 xl, .int .i64 xh, .int .i64 xf, .bool xs] 25)) 6 encF (some ⟨w2.heap.size, 0, none⟩) [⟨xr, xa, xl, xh, xf, xs⟩]) := sl_of_cells encFc_len (new_at rfl) (fun j u hu => by simpa [encF] using hu)
        go_wp2_with (at_builtin; refine wpList_append_list (ec := encF) rfl (.tmp 26) (.tmp 28) 22 rfl w.heap.size 25 i0 _ 48 Tryd.underlying22 HI.out HZ0.out HZ1.out HZ2.out rfl (by decide) encFc_len encFc_one _ _ _ rfl HPA.out.row (some ⟨w2.heap.size, 0, none⟩) 1 [⟨xr, xa, xl, xh, xf, xs⟩] rfl SLX.out (by have : maxLen = 9223372036854775807 := rfl; simp only [List.length_cons, List.length_nil]; omega) (by simp only [List.length_cons, List.length_nil]; omega) (by have := HPA.out.bl.size; exact this) ?_)
        intro v5 w5 hown5 hg5 _
        obtain ⟨A5, cc5, rfl⟩ := row_form hown5
        have HP5 := Lib.hid (HPA.out.appF hg5 hown5)
        have HK5 := Lib.hid (HKA.out.keepB (hg5.block _ HKA.out.lt (HRB.out)))
        have c5 := HP5.out.r.cellD 1 _ rfl
        have f5 := HP5.out.r.frozen 1
        clear hown5 hg5 HPA HKA SLX c1 q0 q1 q2 q3 q4 q5 HK2 HP2
        have hkey : (w5.setCell ⟨w.heap.size + 1 + 1, 1, none⟩ (.slice A5 (fs.length + 1) cc5)).cell? ⟨wr.heap.size, 0, none⟩ = some (.int .i64 xr) := (HK5.out.set_ne (a := ⟨w.heap.size + 1 + 1, 1, none⟩) (by show w.heap.size + 1 + 1 ≠ wr.heap.size; have := HLT.out; omega) _).cellD 0 _ rfl
        have HP6 := Lib.hid (HP5.out.setR 1 (.slice A5 (fs.length + 1) cc5) (rf' := .slice A5 (fs.length + 1) cc5) (ro' := .slice none 0 0) rfl)
        go_wp2_with (refine Mq.wpList_store (b := w.heap.size + 1 + 1 + 1) rfl (.tmp 31) (.tmp 33) (.const (.bool true)) rfl HP6.out.map Tryd.underlying119 Tryd.underlying3 xr (.bool true) rfl rfl rfl ?_)
        intro w7 hm7 hg7
        have KEY : Hid (RPa1 w house vF vO ch l (.int .i64 ((k : Int) + 1)) w7) := ⟨k + 1, _, by omega, by go_num, by rw [TK.out]; exact HP6.out.mapS (x := ⟨xr, xa, xl, xh, xf, xs⟩) hm7 hg7⟩
        clear hm7 hg7 HP5 HK5 HP6 hkey c5 f5
        go_wp2_with fail
        refine ⟨KEY.out, ?_⟩
        simp [intOf]; omega
    · obtain rfl : k = l.length := by omega
      rw [List.take_length] at hps
      have HPS := Lib.hid hps
      have hfl : (l.filter ch).length ≤ 4000 := Nat.le_trans (List.length_filter_le _ _) hl
      obtain ⟨fs, efs⟩ : ∃ fs, fs = l.filter ch := ⟨_, rfl⟩
      have eR := ER.out
      rw [← efs] at HPS hfl eR
      have FIN : Hid (∀ wz vf vo, PS w wz house vF vO vf vo vf vo fs (os.filter (ordOk fs)) fs → ∀ w', w'.heap[w.heap.size + 1]? = wz.heap[w.heap.size + 1]? ∨ True → (∀ g, g ≠ w.heap.size + 1 → w'.heap[g]? = wz.heap[g]?) → Below w.heap.size w w' → R (.returned (.agg #[.int .i64 house, vf, vo])) w') := by
        intro wz vf vo h w' _ hk hb
        have hne : ∀ (g : Nat) {e : TypeId} {n sz : Nat} {v : Value} {xs : List Value}, wz.ownsRow w.heap.size e sz v n xs → e ≠ 63 → v.ownBlock = some g → g ≠ w.heap.size + 1 := by
          rintro g e n sz v xs hr he hg rfl
          obtain ⟨cs, hc, _⟩ := h.res
          exact row_off hr hc he hg
        have h1 := row_kept h.row (w' := w') (fun g e => hk g (hne g h.row (by decide) e))
        have h2 := row_kept h.rowo (w' := w') (fun g e => hk g (hne g h.rowo (by decide) e))
        obtain ⟨A', c', e1, hc1, s1⟩ := own_list encFc_len (by decide) h1
        obtain ⟨B', d', e2, hc2, s2⟩ := own_list encBf_len (by decide) h2
        rw [eR]
        exact ⟨⟨A', c', B', d', by rw [e1, e2], hc1, hc2, s1, s2⟩, hb⟩
      have HST2 : Hid (RPa2 w house vF vO vf fs os (.int .i64 0) wr) := ⟨0, .slice none 0 0, Nat.zero_le _, rfl, HPS.out⟩
      have EVO := Lib.hid evO
      have c2 := HPS.out.arg.cellD 2 _ rfl
      rw [evO] at c2
      clear hps HPS HCH hcf efs eR ER evF evO
      go_wp2_with fail
      clear c2
      go_loopw [38] (fun i wr => RPa2 w house vF vO vf fs os i wr) (fun i _ => os.length - (intOf i).toNat)
      case atStart => exact HST2.out
      case round =>
        clear HST2
        obtain ⟨k, vo, hk, rfl, hps⟩ := hrel
        by_cases hlt : k < os.length
        · obtain ⟨x, hx⟩ : ∃ x, os[k]? = some x := ⟨_, List.getElem?_eq_getElem hlt⟩
          obtain ⟨b, off, rfl, hc⟩ := (HS2.out.below hps.bl (Nat.le_refl _)).at_ hx
          have p0 := hc 0 _ rfl
          have p1 := hc 1 _ rfl
          simp only [← Nat.add_assoc, Nat.add_zero] at p0 p1
          have ki1 : (k : Int) < (os.length : Int) := by omega
          have k00 : (0 : Int) ≤ (k : Int) := by omega
          have HPS := Lib.hid hps
          have TK : Hid ((os.take (k + 1)).filter (ordOk fs) = (os.take k).filter (ordOk fs) ++ (if ordOk fs x then [x] else [])) := by
            show _ = _
            rw [take_snoc hx, List.filter_append]
            congr 1
            by_cases h : ordOk fs x = true
            · rw [if_pos h]; simp [h]
            · rw [if_neg h]; simp [h]
          have hol : ((os.take k).filter (ordOk fs)).length ≤ k := Nat.le_trans (List.length_filter_le _ _) (by rw [List.length_take]; omega)
          obtain ⟨ol, eol⟩ : ∃ ol, ol = (os.take k).filter (ordOk fs) := ⟨_, rfl⟩
          rw [← eol] at TK HPS hol
          obtain ⟨x0, x1⟩ := x
          have HPX := Lib.hid (HPS.out.grow ((Below.refl _ wr).alloc (Nat.le_refl _) (.cells #[.int .i64 x0, .int .i64 x1] 121)))
          have lk0 := HPX.out.map.look_plain (P := Tryd.prog) (t := 119) Tryd.underlying119 Tryd.underlying3 (zeroB _) x0
          have lk1 := HPX.out.map.look_plain (P := Tryd.prog) (t := 119) Tryd.underlying119 Tryd.underlying3 (zeroB _) x1
          rw [refs_look] at lk0 lk1
          obtain ⟨L0, eL0⟩ : ∃ L0, L0 = fs.any (fun x => decide (x.ref = x0)) := ⟨_, rfl⟩
          obtain ⟨L1, eL1⟩ : ∃ L1, L1 = fs.any (fun x => decide (x.ref = x1)) := ⟨_, rfl⟩
          have EO : Hid (ordOk fs (x0, x1) = (L0 && L1)) := by show _ = _; rw [eL0, eL1]; rfl
          rw [← eL0] at lk0
          rw [← eL1] at lk1
          have HLT : Hid (w.heap.size + 1 + 1 + 1 < wr.heap.size) := HPS.out.map.lt
          clear hx hc hps eol eL0 eL1 HPS
          cases L0 with
          | false =>
            have KEY : Hid (RPa2 w house vF vO vf fs os (.int .i64 ((k : Int) + 1)) (wr.alloc (.cells #[.int .i64 x0, .int .i64 x1] 121))) := ⟨k + 1, vo, by omega, by go_num, by rw [TK.out, EO.out]; simpa using HPX.out⟩
            clear lk1 EO TK
            go_wp2_with fail
            refine ⟨KEY.out, ?_⟩
            simp [intOf]; omega
          | true =>
          cases L1 with
          | false =>
            have KEY : Hid (RPa2 w house vF vO vf fs os (.int .i64 ((k : Int) + 1)) (wr.alloc (.cells #[.int .i64 x0, .int .i64 x1] 121))) := ⟨k + 1, vo, by omega, by go_num, by rw [TK.out, EO.out]; simpa using HPX.out⟩
            clear EO TK
            go_wp2_with fail
            refine ⟨KEY.out, ?_⟩
            simp [intOf]; omega
          | true =>
            obtain ⟨i0, hi0, hz0, hz1, hz2⟩ := info_parts infoBf
            have HI := Lib.hid hi0
            have HZ0 := Lib.hid hz0
            have HZ1 := Lib.hid hz1
            have HZ2 := Lib.hid hz2
            clear hi0 hz0 hz1 hz2
            have c2 := HPX.out.r.cellD 2 _ rfl
            have HPA := Lib.hid (HPX.out.grow ((Below.refl _ _).alloc (Nat.le_refl _) (.cells #[.int .i64 x0, .int .i64 x1] 121)))
            obtain ⟨W1, eW1⟩ : ∃ W1, W1 = wr.alloc (.cells #[.int .i64 x0, .int .i64 x1] 121) := ⟨_, rfl⟩
            have SLX : Hid (SL (W1.alloc (.cells #[.int .i64 x0, .int .i64 x1] 121)) 2 encBf (some ⟨W1.heap.size, 0, none⟩) [(x0, x1)]) := sl_of_cells encBf_len (new_at rfl) (fun j u hu => by simpa [encBf] using hu)
            have hzW : W1.heap.size = wr.heap.size + 1 := by rw [eW1]; simp
            rw [hzW, eW1] at SLX
            clear eW1 hzW
            go_wp2_with (at_builtin; refine wpList_append_list (ec := encBf) rfl (.tmp 53) (.tmp 55) 61 rfl w.heap.size 121 i0 _ 16 Tryd.underlying61 HI.out HZ0.out HZ1.out HZ2.out rfl (by decide) encBf_len encBf_one _ _ _ rfl HPA.out.rowo (some ⟨wr.heap.size + 1, 0, none⟩) 1 [(x0, x1)] rfl SLX.out (by have : maxLen = 9223372036854775807 := rfl; simp only [List.length_cons, List.length_nil]; omega) (by simp only [List.length_cons, List.length_nil]; omega) (by have := HPA.out.bl.size; exact this) ?_)
            intro v5 w5 hown5 hg5 _
            obtain ⟨A5, cc5, rfl⟩ := row_form hown5
            have HP5 := Lib.hid (HPA.out.appO hg5 hown5)
            have c5 := HP5.out.r.cellD 2 _ rfl
            have f5 := HP5.out.r.frozen 2
            clear hown5 hg5 HPA SLX c2 lk0 lk1
            have HP6 := Lib.hid (HP5.out.setR 2 (.slice A5 (ol.length + 1) cc5) (rf' := vf) (ro' := .slice A5 (ol.length + 1) cc5) rfl)
            have KEY : Hid (RPa2 w house vF vO vf fs os (.int .i64 ((k : Int) + 1)) (w5.setCell ⟨w.heap.size + 1 + 1, 2, none⟩ (.slice A5 (ol.length + 1) cc5))) := ⟨k + 1, _, by omega, by go_num, by rw [TK.out, EO.out]; exact HP6.out⟩
            clear HP5 HP6 TK EO
            go_wp2_with fail
            refine ⟨KEY.out, ?_⟩
            simp [intOf]; omega
        · obtain rfl : k = os.length := by omega
          rw [List.take_length] at hps
          have HPS := Lib.hid hps
          have c0 := hps.r.cellD 0 _ rfl
          have c1 := hps.r.cellD 1 _ rfl
          have c2 := hps.r.cellD 2 _ rfl
          obtain ⟨cs, hcs, hcl⟩ := hps.res
          obtain ⟨A1, k1, rfl⟩ := row_form hps.row
          obtain ⟨A2, k2, rfl⟩ := row_form hps.rowo
          have HCS := Lib.hid hcs
          have HCL := Lib.hid hcl
          clear hps hcs hcl
          obtain ⟨fsl, efl⟩ : ∃ fsl, fsl = (os.filter (ordOk fs)).length := ⟨_, rfl⟩
          rw [← efl] at c2
          have h1 : (#[Value.int .i64 house, .slice A1 fs.length k1, .slice A2 fsl k2].all (·.oneCell')) = true := by simp [Value.oneCell']
          have h2 : (Tryd.prog.info? 63).map (·.size) = some (#[Value.int .i64 house, .slice A1 fs.length k1, .slice A2 fsl k2] : Array Value).size := by kernel_rfl
          have h3 : cs.toArray.size = (#[Value.int .i64 house, .slice A1 fs.length k1, .slice A2 fsl k2] : Array Value).size := by rw [List.size_toArray, HCL.out]; rfl
          have H1 := Lib.hid h1
          have H2 := Lib.hid h2
          have H3 := Lib.hid h3
          have H4 := Lib.hid efl
          clear h1 h2 h3 efl
          go_wp2_with (refine wpList_store_row rfl 63 (.tmp 4) (.tmp 59) rfl (w.heap.size + 1) #[.int .i64 house, .slice A1 fs.length k1, .slice A2 fsl k2] rfl rfl 63 cs.toArray HCS.out H2.out H3.out H1.out ?_)
          have hset := setRow_heap wr (w.heap.size + 1) cs.toArray #[.int .i64 house, .slice A1 fs.length k1, .slice A2 fsl k2] 63 (0, 0) HCS.out
          refine bodyPost_ret (v := .agg #[.int .i64 house, .slice A1 fs.length k1, .slice A2 fsl k2]) (results_cell_row (fn := Tryd.f60) (p := 4) (ty := 63) rfl _ _ (w.heap.size + 1) 63 #[.int .i64 house, .slice A1 fs.length k1, .slice A2 fsl k2] (0, 0) _ rfl hset Tryd.underlying63 rfl (by kernel_rfl)) rfl ?_
          have hoth : ∀ g, g ≠ w.heap.size + 1 → (wr.setRow (w.heap.size + 1) #[.int .i64 house, .slice A1 fs.length k1, .slice A2 fsl k2]).heap[g]? = wr.heap[g]? := fun g hg => by
            simp only [World.setRow, Array.getElem?_modify]; rw [if_neg (Ne.symm hg)]
          have hbl : Below w.heap.size w (wr.setRow (w.heap.size + 1) #[.int .i64 house, .slice A1 fs.length k1, .slice A2 fsl k2]) :=
            HPS.out.bl.grown (row := some (w.heap.size + 1)) ⟨rfl, rfl, rfl, by simp [World.setRow], fun g _ hg => hoth g (fun e => hg (by rw [e]))⟩ HPS.out.bl.size (fun j e => by cases e; omega)
          have := FIN.out wr (.slice A1 fs.length k1) (.slice A2 fsl k2) (by rw [H4.out]; rw [← H4.out]; have h := HPS.out; rw [← H4.out] at h; exact h) _ (.inr trivial) hoth hbl
          exact this
end Go.Proofs.YtamiaalfjmppaaaDoor
