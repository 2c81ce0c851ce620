/- The law TopAgreedPatches: true for every input; its card. No condition. -/
import Derived.Test.YtekfoaenomgjgaaGreatDoorCards
import Derived.Test.YtekfoaenomgjgaaGreatDoorTie
import Derived.Test.YtekfoaenomgjgaaGreatDoorPost
import Derived.Test.YtekfoaenomgjgaaGreatDoorZF
import Derived.ProofKit
import Derived.OpenShut
import Derived.Lib.SmallJoins
import Derived.Deep.DeepHandedRow
import Derived.Lib.LaidTab
import Derived.LaidSub
set_option maxRecDepth 100000
set_option linter.all false
namespace Go.Proofs.YtekfoaenomgjgaaGreatDoor.topAgreedPatches
open Go.ChangeShapes Go.WideShapes Go.ChangeAt Go.RowKit
open Go.ChangeMaps (open_string shut_string)

theorem own:ownKnob Tryz.prog.godebug=none:=by kernel_rfl
theorem gTab : Tryz.prog.globalNamed "estoppel/digest.constants" = some 0 := by kernel_rfl
theorem gTabType:(Tryz.prog.globals[0]?).map (·.type)=some 186:=by kernel_rfl
theorem cellsT:Tryz.prog.cellsOf 186=64:=by kernel_rfl
theorem cellsE:Tryz.prog.cellsOf 149=1:=by kernel_rfl
theorem onlyK : Rows.topAgreedPatchesRow.laid.filter (fun x => x.1 == "estoppel/digest.constants") = [("estoppel/digest.constants", Rows.laid_estoppel_digest_constants)] := by kernel_rfl
theorem tableK{W:World}(h:laidMetH Tryz.prog Rows.topAgreedPatchesRow.laid W):HasK W:=by
 have h0:laidMet Tryz.prog Rows.topAgreedPatchesRow.laid W:=h
 have h1 := h0.filter (fun x => x.1 == "estoppel/digest.constants")
 rw[onlyK]at h1
 have ht : Lib.TabIs Tryz.prog W "estoppel/digest.constants" .u32 (KC.map fun x => (x.toNat : Int)) :=
  Lib.tabIs_of_head (rest:= []) gTab gTabType Tryz.underlying186 Tryz.underlying149 cellsE cellsT h1
 intro i hi
 have:=ht.cell gTab i (by simpa[KC]using hi)
 rw[this]
 congr 2
 rw[List.getD_eq_getElem?_getD,List.getD_eq_getElem?_getD,List.getElem?_map]
 have hk:i<KC.length:=by simpa[KC]using hi
 rw[List.getElem?_eq_getElem hk];rfl
theorem gPow : Tryz.prog.globalNamed "internal/strconv.uint64pow10" = some 1 := by kernel_rfl
theorem gPowType:(Tryz.prog.globals[1]?).map (·.type)=some 246:=by kernel_rfl
theorem cellsPT:Tryz.prog.cellsOf 246=20:=by kernel_rfl
theorem cellsPE:Tryz.prog.cellsOf 184=1:=by kernel_rfl
theorem onlyP : Rows.topAgreedPatchesRow.laid.filter (fun x => x.1 == "internal/strconv.uint64pow10") = [("internal/strconv.uint64pow10", Lib.tabData .u64 Lib.pow10Tab)] := by kernel_rfl
theorem table{W:World}(h:laidMetH Tryz.prog Rows.topAgreedPatchesRow.laid W):HasT W:=by
 have h0:laidMet Tryz.prog Rows.topAgreedPatchesRow.laid W:=h
 have h1 := h0.filter (fun x => x.1 == "internal/strconv.uint64pow10")
 rw[onlyP]at h1
 exact⟨tableK h,Lib.tabIs_of_head (rest:= []) gPow gPowType Tryz.underlying246 Tryz.underlying184 cellsPE cellsPT h1⟩

theorem au(H:Type)(enc:TypeId×Value->H)(W:World)(base:Nat)(args:Array Value)(ds gs:List (DataW H))(before:List MemPlace)
  (hval:∀(j:Nat) t v,Tryz.f5.params[j]? =some t->args[j]? =some v->Value.okWide Tryz.prog W .any base t v)
  (hW:DataW.Whole enc Tryz.prog Tryz.f5.params.toList Rows.topAgreedPatchesSpec.vars false W args.toList ds gs before) (hL:laidMetH Tryz.prog Rows.topAgreedPatchesRow.laid W):
  Calls Tryz.prog 5 args W fun e W'=> ∃v,e= .returned v/\Rows.topAgreedPatchesSpec.post enc Tryz.prog Tryz.f5 false true false false W args v W':=by
 have hW':=hW
 obtain⟨p,q,hA0,hV,rfl,hfz,hnd⟩:=hW
 have hA:DataW.TrodAll enc Tryz.prog W 0 (fun _=>true) true Tryz.f5.params.toList args.toList ds p:=hA0
 rw[Tryz.params5]at hA hval
 obtain⟨v0,vs0,d0,ds0,p0,q0,hargs,rfl,rfl,h0,r0⟩:=trodAll_cons hA
 obtain⟨v1,vs1,d1,ds1,p1,q1,rfl,rfl,rfl,h1,r1⟩:=trodAll_cons r0
 obtain⟨v2,vs2,d2,ds2,p2,q2,rfl,rfl,rfl,h2,r2⟩:=trodAll_cons r1
 obtain⟨rfl,rfl,rfl⟩:=trodAll_nil r2
 obtain rfl:args= #[v0,v1,v2]:=by cases args;simp_all
 obtain⟨rfl,rfl⟩:=trodVars_none hV
 obtain⟨c0,rfl,ca0,cz0⟩:=open_con (hval 0 27 v0 rfl rfl) h0
 obtain⟨A1,c1,l1,rfl,n1,m1,s1,o1⟩:=open_letters (hval 1 28 v1 rfl rfl) h1
 obtain⟨s2,rfl,sa2⟩:=open_sta (hval 2 56 v2 rfl rfl) h2
 clear hA0
 simp only[List.append_nil]at hW'
 refine(toppatches_any c0 A1 c1 l1 s2 W (table hL) ca0 cz0 ⟨s1,o1⟩ n1 sa2).mono fun e W' ⟨he,hg⟩=> ?_
 subst he
 exact⟨_,rfl,PostB.post_true (tb:=4) (by kernel_rfl) (by kernel_rfl) rfl Tryz.underlying4 hW' rfl rfl rfl rfl hg⟩

def cellsOfData:DataW Unit->Array Value
 | .agg l=>(l.map fun| .lit (.int k n)=>Value.int k n| .lit (.bool b)=>Value.bool b|_=>undef).toArray
 |_=> #[]
def setCells(d:DataW Unit):Obj->Obj
 | .cells _ t frozen=> .cells (cellsOfData d) t frozen
 |o=>o
noncomputable def laidWorld (os:Os):World:= {World.holding Tryz.prog os ⟨#[], #[],[]⟩with heap:=(((((World.holding Tryz.prog os ⟨#[], #[],[]⟩).heap.modify 2 (setCells Rows.laid_math_bits_deBruijn32tab)).modify 3 (setCells Rows.laid_math_bits_deBruijn64tab)).modify 1 (setCells Rows.laid_internal_strconv_uint64pow10)).modify 0 (setCells Rows.laid_estoppel_digest_constants))}
theorem laid_met(os:Os):laidMet Tryz.prog Rows.topAgreedPatchesRow.laid ((laidWorld os).forCall (fun _ _=>0) ⟨#[], #[.agg #[.int .i64 0, .slice none 0 0, .slice none 0 0, .slice none 0 0, .slice none 0 0, .int .i64 0, .slice none 0 0], .slice none 0 0, .agg #[.int .i64 0, .slice none 0 0, .slice none 0 0, .slice none 0 0]],[]⟩).memory:=
 laidMet_of_run' 8 (by kernel_rfl) (by kernel_rfl)
theorem reads(os:Os){H:Type}(enc:TypeId×Value->H):∃places,DataW.whole enc Tryz.prog ((laidWorld os).forCall (fun _ _=>0) ⟨#[], #[.agg #[.int .i64 0, .slice none 0 0, .slice none 0 0, .slice none 0 0, .slice none 0 0, .int .i64 0, .slice none 0 0], .slice none 0 0, .agg #[.int .i64 0, .slice none 0 0, .slice none 0 0, .slice none 0 0]],[]⟩).memory Tryz.f5.params.toList Rows.topAgreedPatchesSpec.vars false #[Value.agg #[.int .i64 0, .slice none 0 0, .slice none 0 0, .slice none 0 0, .slice none 0 0, .int .i64 0, .slice none 0 0],Value.slice none 0 0,Value.agg #[.int .i64 0, .slice none 0 0, .slice none 0 0, .slice none 0 0]].toList 8=some ([.agg [.lit (.int .i64 0), .nil, .nil, .nil, .nil, .lit (.int .i64 0), .nil], .nil, .agg [.lit (.int .i64 0), .nil, .nil, .nil]],[],places):=
 ⟨[],by kernel_rfl⟩

theorem lifted(os:Os)(started:os.Started)(H:Type)(enc:TypeId×Value->H)(F:Stop.Interp):
  ReturnsInHanded {} Tryz.checked os 5 .any ((OpenSpec.ofChange Rows.topAgreedPatchesSpec).preRow enc Tryz.prog Tryz.f5 Rows.topAgreedPatchesRow.domain false Rows.topAgreedPatchesRow.laid) (((OpenSpec.ofChange Rows.topAgreedPatchesSpec).at F).post enc Tryz.prog Tryz.f5 false true false false):=by
 obtain⟨places,hx⟩:=reads os enc
 refine returnsInHanded_of_row (C:=Tryz.checked) (s:=OpenSpec.ofChange Rows.topAgreedPatchesSpec) own started (by kernel_rfl) Tryz.func5
  (witness_row_at (enc:=enc) (C:=Tryz.checked) false (laidWorld os) #[.agg #[.int .i64 0, .slice none 0 0, .slice none 0 0, .slice none 0 0, .slice none 0 0, .int .i64 0, .slice none 0 0], .slice none 0 0, .agg #[.int .i64 0, .slice none 0 0, .slice none 0 0, .slice none 0 0]] rfl (by kernel_rfl) (by kernel_rfl) (by kernel_rfl)
   (OpenSpec.preRow_of_cond 8 hx (by kernel_rfl) (fun k hk=>by cases hk) (by kernel_rfl) (laid_met os))) ?_
 intro W base args ds gs before hval hW _ _ _ hL _ _
 exact au H enc W base args ds gs before hval hW hL

theorem said:Rows.TopAgreedPatchesSaid:=
 OpenClaim.holds_of_cond 5 Tryz.f5 rfl rfl rfl rfl rfl rfl rfl ⟨rfl,rfl,rfl,rfl,rfl⟩ rfl rfl rfl rfl rfl (by kernel_rfl) Tryz.func5 (by kernel_rfl)
  (of_decide_eq_true (by kernel_rfl)) (by unfold Func.isWrapper;first|(rw[if_pos (by decide+kernel)];kernel_rfl)|(rw[if_neg (by decide+kernel)];exact⟨rfl,rfl⟩))
  (fun os started H enc _ F=>by rw[OpenClaim.pre_eq_preRow];exact lifted os started H enc F)
theorem plain(f : FuncId)(fn : Func)(hf : Tryz.pinned.checked.prog.funcNamed "estoppel/estoppeltop.TopAgreedPatches" = some f)(hfn : Tryz.pinned.checked.prog.funcs[f]? = some fn) :
  false=Tryz.pinned.checked.prog.looks []/\∀(j:Nat) t,fn.params[j]? =some t->Tryz.pinned.checked.prog.wantsStandIn t=false:=by
 obtain rfl : f = 5 := Option.some.inj ((show Tryz.prog.funcNamed "estoppel/estoppeltop.TopAgreedPatches" = some 5 by kernel_rfl).symm.trans hf) |>.symm
 obtain rfl:fn=Tryz.f5:=(Option.some.inj (Tryz.func5.symm.trans hfn)).symm
 refine⟨by kernel_rfl,fun j t ht=> ?_⟩
 rw[Tryz.params5]at ht
 have hm:=Array.mem_of_getElem? ht
 simp only[List.mem_toArray,List.mem_cons,List.not_mem_nil,or_false]at hm
 rcases hm with rfl|rfl|rfl
 all_goals first|exact(show Tryz.prog.wantsStandIn 27=false by kernel_rfl)|exact(show Tryz.prog.wantsStandIn 28=false by kernel_rfl)|exact(show Tryz.prog.wantsStandIn 56=false by kernel_rfl)
end Go.Proofs.YtekfoaenomgjgaaGreatDoor.topAgreedPatches
namespace Go.Proofs.YtekfoaenomgjgaaGreatDoor
theorem topAgreedPatches_card:Rows.TopAgreedPatchesCardSaid:=
 Claim7.holds_tied_plain_at .later [] _ _ _ _ topAgreedPatches.said (fun _ h=>by cases h) (by kernel_rfl) (fun _ h=>by cases h) topAgreedPatches_row_tie rfl ⟨rfl,rfl⟩ (by kernel_rfl) rfl topAgreedPatches.plain (by kernel_rfl)
end Go.Proofs.YtekfoaenomgjgaaGreatDoor

