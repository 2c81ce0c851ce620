/- The law ConsentAll: true for every input; its card. No condition. -/
import Derived.Test.YtekfoaenomgjgaaDoorCards
import Derived.Test.YtekfoaenomgjgaaDoorTie
import Derived.Test.YtekfoaenomgjgaaDoorPost
import Derived.Test.YtekfoaenomgjgaaDoorZLAll
import Derived.ProofKit
import Derived.OpenShut
import Derived.Lib.SmallJoins
import Derived.Deep.DeepHandedRow
import Derived.Lib.LaidTab
import Derived.LaidSub
namespace Go.Proofs.YtekfoaenomgjgaaDoor.consentAll
open Go.ChangeShapes Go.WideShapes Go.ChangeAt Go.RowKit
open Go.ChangeMaps (open_string shut_string)

theorem own : ownKnob Tryd.prog.godebug = none := by kernel_rfl
theorem gTab : Tryd.prog.globalNamed "estoppel/digest.constants" = some 0 := by kernel_rfl
theorem gTabType : (Tryd.prog.globals[0]?).map (·.type) = some 119 := by kernel_rfl
theorem cellsT : Tryd.prog.cellsOf 119 = 64 := by kernel_rfl
theorem cellsE : Tryd.prog.cellsOf 98 = 1 := by kernel_rfl
theorem onlyK : Rows.consentAllRow.laid.filter (fun x => x.1 == "estoppel/digest.constants") = [("estoppel/digest.constants", Rows.laid_estoppel_digest_constants)] := by kernel_rfl
theorem tableK {W : World} (h : laidMetH Tryd.prog Rows.consentAllRow.laid W) : HasK W := by
  have h0 : laidMet Tryd.prog Rows.consentAllRow.laid W := h
  have h1 := h0.filter (fun x => x.1 == "estoppel/digest.constants")
  rw [onlyK] at h1
  have ht : Lib.TabIs Tryd.prog W "estoppel/digest.constants" .u32 (KC.map fun x => (x.toNat : Int)) :=
    Lib.tabIs_of_head (rest := []) gTab gTabType Tryd.underlying119 Tryd.underlying98 cellsE cellsT h1
  intro i hi
  have := ht.cell gTab i (by simpa [KC] using hi)
  rw [this]
  congr 2
  rw [List.getD_eq_getElem?_getD, List.getD_eq_getElem?_getD, List.getElem?_map]
  have hk : i < KC.length := by simpa [KC] using hi
  rw [List.getElem?_eq_getElem hk]; rfl
theorem gPow : Tryd.prog.globalNamed "internal/strconv.uint64pow10" = some 1 := by kernel_rfl
theorem gPowType : (Tryd.prog.globals[1]?).map (·.type) = some 150 := by kernel_rfl
theorem cellsPT : Tryd.prog.cellsOf 150 = 20 := by kernel_rfl
theorem cellsPE : Tryd.prog.cellsOf 117 = 1 := by kernel_rfl
theorem onlyP : Rows.consentAllRow.laid.filter (fun x => x.1 == "internal/strconv.uint64pow10") = [("internal/strconv.uint64pow10", Lib.tabData .u64 Lib.pow10Tab)] := by kernel_rfl
theorem table {W : World} (h : laidMetH Tryd.prog Rows.consentAllRow.laid W) : HasT W := by
  have h0 : laidMet Tryd.prog Rows.consentAllRow.laid W := h
  have h1 := h0.filter (fun x => x.1 == "internal/strconv.uint64pow10")
  rw [onlyP] at h1
  exact ⟨tableK h, Lib.tabIs_of_head (rest := []) gPow gPowType Tryd.underlying150 Tryd.underlying117 cellsPE cellsPT h1⟩

set_option maxRecDepth 100000 in
theorem contract (H : Type) (enc : TypeId × Value → H) (W : World) (base : Nat) (args : Array Value) (ds gs : List (DataW H)) (before : List MemPlace)
    (hval : ∀ (j : Nat) t v, Tryd.f4.params[j]? = some t → args[j]? = some v → Value.okWide Tryd.prog W .any base t v)
    (hW : DataW.Whole enc Tryd.prog Tryd.f4.params.toList Rows.consentAllSpec.vars false W args.toList ds gs before) (hL : laidMetH Tryd.prog Rows.consentAllRow.laid W) :
    Calls Tryd.prog 4 args W fun e W' => ∃ v, e = .returned v ∧ Rows.consentAllSpec.post enc Tryd.prog Tryd.f4 false true false false W args v W' := by
  have hW' := hW
  obtain ⟨p, q, hA0, hV, rfl, hfz, hnd⟩ := hW
  have hA : DataW.TrodAll enc Tryd.prog W 0 (fun _ => true) true Tryd.f4.params.toList args.toList ds p := hA0
  rw [Tryd.params4] at hA hval
  obtain ⟨v0, vs0, d0, ds0, p0, q0, hargs, rfl, rfl, h0, r0⟩ := trodAll_cons hA
  obtain ⟨v1, vs1, d1, ds1, p1, q1, rfl, rfl, rfl, h1, r1⟩ := trodAll_cons r0
  obtain ⟨v2, vs2, d2, ds2, p2, q2, rfl, rfl, rfl, h2, r2⟩ := trodAll_cons r1
  obtain ⟨rfl, rfl, rfl⟩ := trodAll_nil r2
  obtain rfl : args = #[v0, v1, v2] := by cases args; simp_all
  obtain ⟨rfl, rfl⟩ := trodVars_none hV
  obtain ⟨x0, rfl, rfl, rfl, wx0⟩ := open_int Tryd.underlying3 (hval 0 3 v0 rfl rfl) h0
  obtain ⟨A1, c1, l1, rfl, n1, m1, s1, o1⟩ := open_letters (hval 1 22 v1 rfl rfl) h1
  obtain ⟨x2, rfl, rfl, rfl, wx2⟩ := open_int Tryd.underlying5 (hval 2 5 v2 rfl rfl) h2
  clear hA0
  simp only [List.append_nil] at hW'
  refine (all30_any x0 A1 c1 l1 x2 W (table hL) ⟨s1, o1⟩ n1 (bounds_u8 wx2).1 (bounds_u8 wx2).2 (bounds_i64 wx0).2).mono fun e W' ⟨he, hg⟩ => ?_
  subst he
  exact ⟨_, rfl, PostB.post_true (tb := 4) (by kernel_rfl) (by kernel_rfl) rfl Tryd.underlying4 hW' rfl rfl rfl rfl hg⟩

def cellsOfData : DataW Unit → Array Value
  | .agg l => (l.map fun | .lit (.int k n) => Value.int k n | .lit (.bool b) => Value.bool b | _ => undef).toArray
  | _ => #[]
def setCells (d : DataW Unit) : Obj → Obj
  | .cells _ t frozen => .cells (cellsOfData d) t frozen
  | o => o
noncomputable def laidWorld (os : Os) : World := { World.holding Tryd.prog os ⟨#[], #[], []⟩ with heap := (((((World.holding Tryd.prog os ⟨#[], #[], []⟩).heap.modify 2 (setCells Rows.laid_math_bits_deBruijn32tab)).modify 3 (setCells Rows.laid_math_bits_deBruijn64tab)).modify 1 (setCells Rows.laid_internal_strconv_uint64pow10)).modify 0 (setCells Rows.laid_estoppel_digest_constants)) }
theorem laid_met (os : Os) : laidMet Tryd.prog Rows.consentAllRow.laid ((laidWorld os).forCall (fun _ _ => 0) ⟨#[], #[.int .i64 0, .slice none 0 0, .int .u8 0], []⟩).memory :=
  laidMet_of_run' 8 (by kernel_rfl) (by kernel_rfl)
theorem reads (os : Os) {H : Type} (enc : TypeId × Value → H) : ∃ places, DataW.whole enc Tryd.prog ((laidWorld os).forCall (fun _ _ => 0) ⟨#[], #[.int .i64 0, .slice none 0 0, .int .u8 0], []⟩).memory Tryd.f4.params.toList Rows.consentAllSpec.vars false #[Value.int .i64 0, Value.slice none 0 0, Value.int .u8 0].toList 8 = some ([.lit (.int .i64 0), .nil, .lit (.int .u8 0)], [], places) :=
  ⟨[], by kernel_rfl⟩

set_option maxRecDepth 100000 in
theorem lifted (os : Os) (started : os.Started) (H : Type) (enc : TypeId × Value → H) (F : Stop.Interp) :
    ReturnsInHanded {} Tryd.checked os 4 .any ((OpenSpec.ofChange Rows.consentAllSpec).preRow enc Tryd.prog Tryd.f4 Rows.consentAllRow.domain false Rows.consentAllRow.laid) (((OpenSpec.ofChange Rows.consentAllSpec).at F).post enc Tryd.prog Tryd.f4 false true false false) := by
  obtain ⟨places, hx⟩ := reads os enc
  refine returnsInHanded_of_row (C := Tryd.checked) (s := OpenSpec.ofChange Rows.consentAllSpec) own started (by kernel_rfl) Tryd.func4
    (witness_row_at (enc := enc) (C := Tryd.checked) false (laidWorld os) #[.int .i64 0, .slice none 0 0, .int .u8 0] rfl (by kernel_rfl) (by kernel_rfl) (by kernel_rfl)
      (OpenSpec.preRow_of_cond 8 hx (by kernel_rfl) (fun k hk => by cases hk) (by kernel_rfl) (laid_met os))) ?_
  intro W base args ds gs before hval hW _ _ _ hL _ _
  exact contract H enc W base args ds gs before hval hW hL

theorem said : Rows.ConsentAllSaid :=
  OpenClaim.holds_of_cond 4 Tryd.f4 rfl rfl rfl rfl rfl rfl rfl ⟨rfl, rfl, rfl, rfl, rfl⟩ rfl rfl rfl rfl rfl (by kernel_rfl) Tryd.func4 (by kernel_rfl)
    (of_decide_eq_true (by kernel_rfl)) (by unfold Func.isWrapper; first | (rw [if_pos (by decide +kernel)]; kernel_rfl) | (rw [if_neg (by decide +kernel)]; exact ⟨rfl, rfl⟩))
    (fun os started H enc _ F => by rw [OpenClaim.pre_eq_preRow]; exact lifted os started H enc F)
set_option maxRecDepth 100000 in
theorem plain (f : FuncId) (fn : Func) (hf : Tryd.pinned.checked.prog.funcNamed "estoppel/estoppellaw30.ConsentAll" = some f) (hfn : Tryd.pinned.checked.prog.funcs[f]? = some fn) :
    false = Tryd.pinned.checked.prog.looks [] ∧ ∀ (j : Nat) t, fn.params[j]? = some t → Tryd.pinned.checked.prog.wantsStandIn t = false := by
  obtain rfl : f = 4 := Option.some.inj ((show Tryd.prog.funcNamed "estoppel/estoppellaw30.ConsentAll" = some 4 by kernel_rfl).symm.trans hf) |>.symm
  obtain rfl : fn = Tryd.f4 := (Option.some.inj (Tryd.func4.symm.trans hfn)).symm
  refine ⟨by kernel_rfl, fun j t ht => ?_⟩
  rw [Tryd.params4] at ht
  have hm := Array.mem_of_getElem? ht
  simp only [List.mem_toArray, List.mem_cons, List.not_mem_nil, or_false] at hm
  rcases hm with rfl | rfl | rfl
  all_goals first | exact (show Tryd.prog.wantsStandIn 3 = false by kernel_rfl) | exact (show Tryd.prog.wantsStandIn 22 = false by kernel_rfl) | exact (show Tryd.prog.wantsStandIn 5 = false by kernel_rfl)
end Go.Proofs.YtekfoaenomgjgaaDoor.consentAll
namespace Go.Proofs.YtekfoaenomgjgaaDoor
theorem consentAll_card : Rows.ConsentAllCardSaid :=
  Claim7.holds_tied_plain_at .later [] _ _ _ _ consentAll.said (fun _ h => by cases h) (by kernel_rfl) (fun _ h => by cases h) consentAll_row_tie rfl ⟨rfl, rfl⟩ (by kernel_rfl) rfl consentAll.plain (by kernel_rfl)
end Go.Proofs.YtekfoaenomgjgaaDoor

