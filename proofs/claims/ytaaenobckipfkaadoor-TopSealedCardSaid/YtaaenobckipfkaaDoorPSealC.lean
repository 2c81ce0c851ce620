/- The law TopSealed: true for every input; its card. No condition. -/
import Derived.Test.YtaaenobckipfkaaDoorCards
import Derived.Test.YtaaenobckipfkaaDoorTie
import Derived.Test.YtaaenobckipfkaaDoorPost
import Derived.Test.YtaaenobckipfkaaDoorTsK
import Derived.ProofKit
import Derived.OpenShut
import Derived.Lib.SmallJoins
import Derived.Deep.DeepHandedRow
import Derived.Lib.LaidTab
import Derived.LaidSub
import Derived.Stop.LaidErr
import Derived.Shelf.Vars
namespace Go.Proofs.YtaaenobckipfkaaDoor.topSealed
open Go.ChangeShapes Go.WideShapes Go.ChangeAt Go.RowKit
open Go.ChangeMaps (open_string shut_string)
open Go.Proofs (cell_of_shapedOpen_int)

theorem own : ownKnob Tryd.prog.godebug = none := by kernel_rfl
theorem gTab : Tryd.prog.globalNamed "estoppel/digest.constants" = some 2 := by kernel_rfl
theorem gTabType : (Tryd.prog.globals[2]?).map (·.type) = some 128 := by kernel_rfl
theorem cellsT : Tryd.prog.cellsOf 128 = 64 := by kernel_rfl
theorem cellsE : Tryd.prog.cellsOf 99 = 1 := by kernel_rfl
theorem onlyK : Rows.topSealedRow.laid.filter (fun x => x.1 == "estoppel/digest.constants") = [("estoppel/digest.constants", Rows.laid_estoppel_digest_constants)] := by kernel_rfl
theorem tableK {W : World} (h : laidMetH Tryd.prog Rows.topSealedRow.laid W) : HasK W := by
  have h0 : laidMet Tryd.prog Rows.topSealedRow.laid W := h
  have h1 := h0.filter (fun x => x.1 == "estoppel/digest.constants")
  rw [onlyK] at h1
  have ht : Lib.TabIs Tryd.prog W "estoppel/digest.constants" .u32 (KC.map fun x => (x.toNat : Int)) :=
    Lib.tabIs_of_head (rest := []) gTab gTabType Tryd.underlying128 Tryd.underlying99 cellsE cellsT h1
  intro i hi
  have := ht.cell gTab i (by simpa [KC] using hi)
  rw [this]
  congr 2
  rw [List.getD_eq_getElem?_getD, List.getD_eq_getElem?_getD, List.getElem?_map]
  have hk : i < KC.length := by simpa [KC] using hi
  rw [List.getElem?_eq_getElem hk]; rfl
theorem gPow : Tryd.prog.globalNamed "internal/strconv.uint64pow10" = some 4 := by kernel_rfl
theorem gPowType : (Tryd.prog.globals[4]?).map (·.type) = some 138 := by kernel_rfl
theorem cellsPT : Tryd.prog.cellsOf 138 = 20 := by kernel_rfl
theorem cellsPE : Tryd.prog.cellsOf 100 = 1 := by kernel_rfl
theorem onlyP : Rows.topSealedRow.laid.filter (fun x => x.1 == "internal/strconv.uint64pow10") = [("internal/strconv.uint64pow10", Lib.tabData .u64 Lib.pow10Tab)] := by kernel_rfl
theorem table {W : World} (h : laidMetH Tryd.prog Rows.topSealedRow.laid W) : HasT W := by
  have h0 : laidMet Tryd.prog Rows.topSealedRow.laid W := h
  have h1 := h0.filter (fun x => x.1 == "internal/strconv.uint64pow10")
  rw [onlyP] at h1
  exact ⟨tableK h, Lib.tabIs_of_head (rest := []) gPow gPowType Tryd.underlying138 Tryd.underlying100 cellsPE cellsPT h1⟩
theorem star : "*" ++ "errors.errorString" = "*errors.errorString" := by decide
theorem rowPE (u : TypeId) (h : Tryd.prog.typeName? 3 u = some "*errors.errorString") : u = 134 :=
  typeName_ptr_named (nm := "errors.errorString") (by rw [star]; kernel_rfl) (by kernel_rfl) (by decide) u (by rw [star]; exact h)
theorem cellsES : Tryd.prog.cellsOf 136 = 1 := by kernel_rfl
theorem cellsStr : Tryd.prog.cellsOf 9 = 1 := by kernel_rfl
theorem hasMax {W : World} (h : W.ShapedOpen Tryd.prog) : ∃ m, W.cell? ⟨3, 0, none⟩ = some (.int .i64 m) :=
  cell_of_shapedOpen_int (t := 3) (zero := #[.int .i64 0]) h (of_decide_eq_true (by kernel_rfl)) (by kernel_rfl) rfl (by kernel_rfl) (by kernel_rfl) Tryd.underlying3
theorem gEr0N : Tryd.prog.globalNamed "strconv.ErrRange" = some 1 := by kernel_rfl
theorem gEr0T : (Tryd.prog.globals[1]?).map (·.type) = some 68 := by kernel_rfl
theorem onlyE0 : Rows.topSealedRow.laid.filter (fun x => x.1 == "strconv.ErrRange") = [("strconv.ErrRange", Rows.laid_strconv_ErrRange)] := by kernel_rfl
theorem hasEr0 {W : World} (h : laidMetH Tryd.prog Rows.topSealedRow.laid W) : ∃ v, W.cell? ⟨1, 0, none⟩ = some v ∧ isErr v := by
  have h0 : laidMet Tryd.prog Rows.topSealedRow.laid W := h
  have h1 := h0.filter (fun x => x.1 == "strconv.ErrRange")
  rw [onlyE0] at h1
  obtain ⟨a, s, hv, _⟩ := laid_sentinel (r := []) h1 gEr0N gEr0T Tryd.underlying68 rowPE Tryd.underlying134 Tryd.underlying136 rfl rfl Tryd.underlying9 cellsES cellsStr
  exact ⟨_, by have := World.var?_cell gEr0N hv 0; simpa using this, .inr ⟨_, _, rfl⟩⟩
theorem gEr1N : Tryd.prog.globalNamed "strconv.ErrSyntax" = some 0 := by kernel_rfl
theorem gEr1T : (Tryd.prog.globals[0]?).map (·.type) = some 68 := by kernel_rfl
theorem onlyE1 : Rows.topSealedRow.laid.filter (fun x => x.1 == "strconv.ErrSyntax") = [("strconv.ErrSyntax", Rows.laid_strconv_ErrSyntax)] := by kernel_rfl
theorem hasEr1 {W : World} (h : laidMetH Tryd.prog Rows.topSealedRow.laid W) : ∃ v, W.cell? ⟨0, 0, none⟩ = some v ∧ isErr v := by
  have h0 : laidMet Tryd.prog Rows.topSealedRow.laid W := h
  have h1 := h0.filter (fun x => x.1 == "strconv.ErrSyntax")
  rw [onlyE1] at h1
  obtain ⟨a, s, hv, _⟩ := laid_sentinel (r := []) h1 gEr1N gEr1T Tryd.underlying68 rowPE Tryd.underlying134 Tryd.underlying136 rfl rfl Tryd.underlying9 cellsES cellsStr
  exact ⟨_, by have := World.var?_cell gEr1N hv 0; simpa using this, .inr ⟨_, _, rfl⟩⟩
theorem hasE {W : World} (h : laidMetH Tryd.prog Rows.topSealedRow.laid W) (hs : W.ShapedOpen Tryd.prog) : HasE W := ⟨hasMax hs, hasEr1 h, hasEr0 h⟩

set_option maxRecDepth 100000 in
theorem contract (H : Type) (enc : TypeId × Value → H) (W : World) (base : Nat) (args : Array Value) (ds gs : List (DataW H)) (before : List MemPlace)
    (hval : ∀ (j : Nat) t v, Tryd.f3.params[j]? = some t → args[j]? = some v → Value.okWide Tryd.prog W .any base t v)
    (hW : DataW.Whole enc Tryd.prog Tryd.f3.params.toList Rows.topSealedSpec.vars false W args.toList ds gs before) (hL : laidMetH Tryd.prog Rows.topSealedRow.laid W) (hsh : W.ShapedOpen Tryd.prog) :
    Calls Tryd.prog 3 args W fun e W' => ∃ v, e = .returned v ∧ Rows.topSealedSpec.post enc Tryd.prog Tryd.f3 false true false false W args v W' := by
  have hW' := hW
  obtain ⟨p, q, hA0, hV, rfl, hfz, hnd⟩ := hW
  have hA : DataW.TrodAll enc Tryd.prog W 0 (fun _ => true) true Tryd.f3.params.toList args.toList ds p := hA0
  rw [Tryd.params3] at hA hval
  obtain ⟨v0, vs0, d0, ds0, p0, q0, hargs, rfl, rfl, h0, r0⟩ := trodAll_cons hA
  obtain ⟨v1, vs1, d1, ds1, p1, q1, rfl, rfl, rfl, h1, r1⟩ := trodAll_cons r0
  obtain ⟨v2, vs2, d2, ds2, p2, q2, rfl, rfl, rfl, h2, r2⟩ := trodAll_cons r1
  obtain ⟨v3, vs3, d3, ds3, p3, q3, rfl, rfl, rfl, h3, r3⟩ := trodAll_cons r2
  obtain ⟨rfl, rfl, rfl⟩ := trodAll_nil r3
  obtain rfl : args = #[v0, v1, v2, v3] := by cases args; simp_all
  obtain ⟨rfl, rfl⟩ := trodVars_none hV
  obtain ⟨A0, c0, l0, rfl, n0, m0, s0, o0⟩ := open_facts (hval 0 22 v0 rfl rfl) h0
  obtain ⟨x1, rfl, rfl, rfl, wx1⟩ := open_int Tryd.underlying3 (hval 1 3 v1 rfl rfl) h1
  obtain ⟨x2, rfl, rfl, rfl, wx2⟩ := open_int Tryd.underlying5 (hval 2 5 v2 rfl rfl) h2
  obtain ⟨x3, rfl, wx3⟩ := open_fact (hval 3 24 v3 rfl rfl) h3
  clear hA0
  simp only [List.append_nil] at hW'
  refine (sealed_u8 A0 c0 l0 x1 x2 x3 W s0 n0 o0 wx3 wx2 (table hL) (hasE hL hsh)).mono fun e W' ⟨he, hg⟩ => ?_
  subst he
  exact ⟨_, rfl, PostB.post_true (tb := 4) (by kernel_rfl) (by kernel_rfl) rfl Tryd.underlying4 hW' rfl rfl rfl rfl hg⟩

def cellsOfData : DataW Unit → Array Value
  | .agg l => (l.map fun | .lit (.int k n) => Value.int k n | .lit (.bool b) => Value.bool b | _ => undef).toArray
  | _ => #[]
def setCells (d : DataW Unit) : Obj → Obj
  | .cells _ t frozen => .cells (cellsOfData d) t frozen
  | o => o
def setErr (n : Nat) : Obj → Obj
  | .cells _ t frozen => .cells #[.iface 134 (.pointer (some ⟨n, 0, none⟩))] t frozen
  | o => o
noncomputable def laidWorld (os : Os) : World := { World.holding Tryd.prog os ⟨#[], #[], []⟩ with heap := (((((((((World.holding Tryd.prog os ⟨#[], #[], []⟩).heap.modify 5 (setCells Rows.laid_math_bits_deBruijn32tab)).modify 6 (setCells Rows.laid_math_bits_deBruijn64tab)).modify 4 (setCells Rows.laid_internal_strconv_uint64pow10)).modify 1 (setErr ((World.holding Tryd.prog os ⟨#[], #[], []⟩).heap.size + 0))).modify 0 (setErr ((World.holding Tryd.prog os ⟨#[], #[], []⟩).heap.size + 1))).modify 2 (setCells Rows.laid_estoppel_digest_constants)).push (.cells #[.string ⟨#[118, 97, 108, 117, 101, 32, 111, 117, 116, 32, 111, 102, 32, 114, 97, 110, 103, 101]⟩] 136)).push (.cells #[.string ⟨#[105, 110, 118, 97, 108, 105, 100, 32, 115, 121, 110, 116, 97, 120]⟩] 136)) }
theorem laid_met (os : Os) : laidMet Tryd.prog Rows.topSealedRow.laid ((laidWorld os).forCall (fun _ _ => 0) ⟨#[], #[.slice none 0 0, .int .i64 0, .int .u8 0, .agg #[.int .i64 0, .int .i64 0, .int .i64 0, .int .i64 0, .int .i64 0, .bool false]], []⟩).memory :=
  laidMet_of_run' 8 (by kernel_rfl) (by kernel_rfl)
theorem reads (os : Os) {H : Type} (enc : TypeId × Value → H) : ∃ places, DataW.whole enc Tryd.prog ((laidWorld os).forCall (fun _ _ => 0) ⟨#[], #[.slice none 0 0, .int .i64 0, .int .u8 0, .agg #[.int .i64 0, .int .i64 0, .int .i64 0, .int .i64 0, .int .i64 0, .bool false]], []⟩).memory Tryd.f3.params.toList Rows.topSealedSpec.vars false #[Value.slice none 0 0, Value.int .i64 0, Value.int .u8 0, Value.agg #[.int .i64 0, .int .i64 0, .int .i64 0, .int .i64 0, .int .i64 0, .bool false]].toList 8 = some ([.nil, .lit (.int .i64 0), .lit (.int .u8 0), .agg [.lit (.int .i64 0), .lit (.int .i64 0), .lit (.int .i64 0), .lit (.int .i64 0), .lit (.int .i64 0), .lit (.bool false)]], [], places) :=
  ⟨[], by kernel_rfl⟩

set_option maxRecDepth 100000 in
theorem lifted (os : Os) (started : os.Started) (H : Type) (enc : TypeId × Value → H) (F : Stop.Interp) :
    ReturnsInHanded {} Tryd.checked os 3 .any ((OpenSpec.ofChange Rows.topSealedSpec).preRow enc Tryd.prog Tryd.f3 Rows.topSealedRow.domain false Rows.topSealedRow.laid) (((OpenSpec.ofChange Rows.topSealedSpec).at F).post enc Tryd.prog Tryd.f3 false true false false) := by
  obtain ⟨places, hx⟩ := reads os enc
  refine returnsInHanded_of_row (C := Tryd.checked) (s := OpenSpec.ofChange Rows.topSealedSpec) own started (by kernel_rfl) Tryd.func3
    (witness_row_at (enc := enc) (C := Tryd.checked) false (laidWorld os) #[.slice none 0 0, .int .i64 0, .int .u8 0, .agg #[.int .i64 0, .int .i64 0, .int .i64 0, .int .i64 0, .int .i64 0, .bool false]] rfl (by kernel_rfl) (by kernel_rfl) (by kernel_rfl)
      (OpenSpec.preRow_of_cond 8 hx (by kernel_rfl) (fun k hk => by cases hk) (by kernel_rfl) (laid_met os))) ?_
  intro W base args ds gs before hval hW _ _ _ hL hsh _
  exact contract H enc W base args ds gs before hval hW hL hsh

theorem said : Rows.TopSealedSaid :=
  OpenClaim.holds_of_cond 3 Tryd.f3 rfl rfl rfl rfl rfl rfl rfl ⟨rfl, rfl, rfl, rfl, rfl⟩ rfl rfl rfl rfl rfl (by kernel_rfl) Tryd.func3 (by kernel_rfl)
    (of_decide_eq_true (by kernel_rfl)) (by unfold Func.isWrapper; first | (rw [if_pos (by decide +kernel)]; kernel_rfl) | (rw [if_neg (by decide +kernel)]; exact ⟨rfl, rfl⟩))
    (fun os started H enc _ F => by rw [OpenClaim.pre_eq_preRow]; exact lifted os started H enc F)
set_option maxRecDepth 100000 in
theorem plain (f : FuncId) (fn : Func) (hf : Tryd.pinned.checked.prog.funcNamed "estoppel/estoppeltop.TopSealed" = some f) (hfn : Tryd.pinned.checked.prog.funcs[f]? = some fn) :
    true = Tryd.pinned.checked.prog.looks [] ∧ ∀ (j : Nat) t, fn.params[j]? = some t → Tryd.pinned.checked.prog.wantsStandIn t = false := by
  obtain rfl : f = 3 := Option.some.inj ((show Tryd.prog.funcNamed "estoppel/estoppeltop.TopSealed" = some 3 by kernel_rfl).symm.trans hf) |>.symm
  obtain rfl : fn = Tryd.f3 := (Option.some.inj (Tryd.func3.symm.trans hfn)).symm
  refine ⟨by kernel_rfl, fun j t ht => ?_⟩
  rw [Tryd.params3] at ht
  have hm := Array.mem_of_getElem? ht
  simp only [List.mem_toArray, List.mem_cons, List.not_mem_nil, or_false] at hm
  rcases hm with rfl | rfl | rfl | rfl
  all_goals first | exact (show Tryd.prog.wantsStandIn 24 = false by kernel_rfl) | exact (show Tryd.prog.wantsStandIn 22 = false by kernel_rfl) | exact (show Tryd.prog.wantsStandIn 3 = false by kernel_rfl) | exact (show Tryd.prog.wantsStandIn 5 = false by kernel_rfl)
end Go.Proofs.YtaaenobckipfkaaDoor.topSealed
namespace Go.Proofs.YtaaenobckipfkaaDoor
theorem topSealed_card : Rows.TopSealedCardSaid :=
  Claim7.holds_tied_plain_at .later [] _ _ _ _ topSealed.said (fun _ h => by cases h) (by kernel_rfl) (fun _ h => by cases h) topSealed_row_tie rfl ⟨rfl, rfl⟩ (by kernel_rfl) rfl topSealed.plain (by kernel_rfl)
end Go.Proofs.YtaaenobckipfkaaDoor

