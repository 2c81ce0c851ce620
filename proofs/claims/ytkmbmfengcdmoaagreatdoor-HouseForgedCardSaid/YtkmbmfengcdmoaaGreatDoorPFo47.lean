/- The law HouseForged: true for every input; its card. No condition. -/
import Derived.Test.YtkmbmfengcdmoaaGreatDoorCards
import Derived.Test.YtkmbmfengcdmoaaGreatDoorTie
import Derived.Test.YtkmbmfengcdmoaaGreatDoorZBO
import Derived.ProofKit
import Derived.OpenShut
import Derived.Lib.SmallJoins
import Derived.Deep.DeepHandedRow
import Derived.Lib.LaidTab
import Derived.LaidSub
import Derived.Stop.LaidErr
import Derived.Shelf.Vars
import Derived.SizedLaws
set_option maxRecDepth 100000
set_option linter.all false
namespace Go.Proofs.YtkmbmfengcdmoaaGreatDoor.houseForged
open Go.ChangeShapes Go.WideShapes Go.ChangeAt Go.RowKit
open Go.ChangeMaps (open_string shut_string)
open Go.Proofs (cell_of_shapedOpen_int)

theorem own:ownKnob Tryz.prog.godebug=none:=by kernel_rfl
theorem QL : Tryz.prog.globalNamed "estoppel/digest.constants" = some 0 := by kernel_rfl
theorem IE:(Tryz.prog.globals[0]?).map (·.type)=some 331:=by kernel_rfl
theorem Oq:Tryz.prog.cellsOf 331=64:=by kernel_rfl
theorem Oo:Tryz.prog.cellsOf 226=1:=by kernel_rfl
theorem Ru : Rows.houseForgedRow.laid.filter (λx => x.1 == "estoppel/digest.constants") = [("estoppel/digest.constants", Rows.laid_estoppel_digest_constants)] := by kernel_rfl
theorem Pj{W:World}(h:laidMetH Tryz.prog Rows.houseForgedRow.laid W):GV W:=by
 have h0:laidMet Tryz.prog Rows.houseForgedRow.laid W:=h;have h1 := h0.filter (λx => x.1 == "estoppel/digest.constants");rw[Ru]at h1;have ht : Lib.TabIs Tryz.prog W "estoppel/digest.constants" .u32 (KC.map λx => (x.toNat : Int)) :=
  Lib.tabIs_of_head (rest:= []) QL IE Tryz.underlying331 Tryz.underlying226 Oo Oq h1
 intro i hi
 have:=ht.cell QL i (by simpa[KC]using hi);rw[this];congr 2;rw[BX,BX,mx];have hk:i<KC.length:=by simpa[KC]using hi
 rw[eH hk];rfl
theorem S7 : Tryz.prog.globalNamed "internal/strconv.uint64pow10" = some 1 := by kernel_rfl
theorem ID:(Tryz.prog.globals[1]?).map (·.type)=some 334:=by kernel_rfl
theorem Lg:Tryz.prog.cellsOf 334=20:=by kernel_rfl
theorem Lf:Tryz.prog.cellsOf 228=1:=by kernel_rfl
theorem Rv : Rows.houseForgedRow.laid.filter (λx => x.1 == "internal/strconv.uint64pow10") = [("internal/strconv.uint64pow10", Lib.tabData .u64 Lib.pow10Tab)] := by kernel_rfl
theorem table{W:World}(h:laidMetH Tryz.prog Rows.houseForgedRow.laid W):cB W:=by have h0:laidMet Tryz.prog Rows.houseForgedRow.laid W:=h;have h1 := h0.filter (λx => x.1 == "internal/strconv.uint64pow10");rw[Rv]at h1;exact⟨Pj h,Lib.tabIs_of_head (rest:= []) S7 ID Tryz.underlying334 Tryz.underlying228 Lf Lg h1⟩
theorem star : "*" ++ "errors.errorString" = "*errors.errorString" := by decide
theorem NH(u : TypeId)(h : Tryz.prog.typeName? 3 u = some "*errors.errorString") : u = 369 :=
 typeName_ptr_named (nm := "errors.errorString") (by rw [star]; kernel_rfl) (by kernel_rfl) (by decide) u (by rw [star]; exact h)
theorem Cn:Tryz.prog.cellsOf 371=1:=by kernel_rfl
theorem x9:Tryz.prog.cellsOf 9=1:=by kernel_rfl
theorem ON{W:World}(h:W.ShapedOpen Tryz.prog):∃m,W.cell? ⟨2,0,none⟩=some (.int .i64 m):=
 cell_of_shapedOpen_int (t:=3) (zero:= #[.int .i64 0]) h (Sc (by kernel_rfl)) (by kernel_rfl) rfl (by kernel_rfl) (by kernel_rfl) Tryz.underlying3
theorem Np : Tryz.prog.globalNamed "strconv.ErrRange" = some 4 := by kernel_rfl
theorem QJ:(Tryz.prog.globals[4]?).map (·.type)=some 121:=by kernel_rfl
theorem OZ : Rows.houseForgedRow.laid.filter (λx => x.1 == "strconv.ErrRange") = [("strconv.ErrRange", Rows.laid_strconv_ErrRange)] := by kernel_rfl
theorem OL{W:World}(h:laidMetH Tryz.prog Rows.houseForgedRow.laid W):∃v,W.cell? ⟨4,0,none⟩=some v/\Df v:=by have h0:laidMet Tryz.prog Rows.houseForgedRow.laid W:=h;have h1 := h0.filter (λx => x.1 == "strconv.ErrRange");rw[OZ]at h1;obtain⟨a,s,hv,_⟩:=laid_sentinel (r:= []) h1 Np QJ Tryz.underlying121 NH Tryz.underlying369 Tryz.underlying371 rfl rfl Tryz.underlying9 Cn x9;exact⟨_,by have:=World.var?_cell Np hv 0;simpa using this, .inr ⟨_,_,rfl⟩⟩
theorem Nq : Tryz.prog.globalNamed "strconv.ErrSyntax" = some 3 := by kernel_rfl
theorem QK:(Tryz.prog.globals[3]?).map (·.type)=some 121:=by kernel_rfl
theorem O0 : Rows.houseForgedRow.laid.filter (λx => x.1 == "strconv.ErrSyntax") = [("strconv.ErrSyntax", Rows.laid_strconv_ErrSyntax)] := by kernel_rfl
theorem OM{W:World}(h:laidMetH Tryz.prog Rows.houseForgedRow.laid W):∃v,W.cell? ⟨3,0,none⟩=some v/\Df v:=by have h0:laidMet Tryz.prog Rows.houseForgedRow.laid W:=h;have h1 := h0.filter (λx => x.1 == "strconv.ErrSyntax");rw[O0]at h1;obtain⟨a,s,hv,_⟩:=laid_sentinel (r:= []) h1 Nq QK Tryz.underlying121 NH Tryz.underlying369 Tryz.underlying371 rfl rfl Tryz.underlying9 Cn x9;exact⟨_,by have:=World.var?_cell Nq hv 0;simpa using this, .inr ⟨_,_,rfl⟩⟩
theorem Tc{W:World}(h:laidMetH Tryz.prog Rows.houseForgedRow.laid W)(hs:W.ShapedOpen Tryz.prog):gK W:=⟨ON hs,OM h,OL h⟩

theorem Hy(H:Type)(enc:TypeId×Value->H)(W:World)(base:Nat)(args:Array Value)(ds gs:List (DataW H))(before:List MemPlace)
  (hval:∀(j:Nat) t v,Tryz.f3.params[j]? =some t->args[j]? =some v->Value.okWide Tryz.prog W .any base t v)
  (hW:DataW.Whole enc Tryz.prog Tryz.f3.params.toList Rows.houseForgedSpec.vars false W args.toList ds gs before) (hL:laidMetH Tryz.prog Rows.houseForgedRow.laid W) (hsh:W.ShapedOpen Tryz.prog) (hwt:(DataW.weightsEach Tryz.prog (Tryz.f3.params.toList++(OpenSpec.ofChange Rows.houseForgedSpec).bare.plain.varTypes Tryz.prog) (ds++gs)).all (· <=reachBytes)=true):
  Calls Tryz.prog 3 args W λe W'=> ∃v,e= .returned v/\Rows.houseForgedSpec.post enc Tryz.prog Tryz.f3 false true false false W args v W':=by
 have hW':=hW;obtain⟨p,q,hA0,hV,rfl,hfz,hnd⟩:=hW;have hA:DataW.TrodAll enc Tryz.prog W 0 (λ_=>true) true Tryz.f3.params.toList args.toList ds p:=hA0;rw[Tryz.params3]at hA hval hwt;obtain⟨v0,vs0,d0,ds0,p0,q0,hargs,rfl,rfl,h0,r0⟩:=trodAll_cons hA;obtain⟨v1,vs1,d1,ds1,p1,q1,rfl,rfl,rfl,h1,r1⟩:=trodAll_cons r0;obtain⟨v2,vs2,d2,ds2,p2,q2,rfl,rfl,rfl,h2,r2⟩:=trodAll_cons r1;obtain⟨v3,vs3,d3,ds3,p3,q3,rfl,rfl,rfl,h3,r3⟩:=trodAll_cons r2;obtain⟨v4,vs4,d4,ds4,p4,q4,rfl,rfl,rfl,h4,r4⟩:=trodAll_cons r3;obtain⟨v5,vs5,d5,ds5,p5,q5,rfl,rfl,rfl,h5,r5⟩:=trodAll_cons r4;obtain⟨v6,vs6,d6,ds6,p6,q6,rfl,rfl,rfl,h6,r6⟩:=trodAll_cons r5;obtain⟨rfl,rfl,rfl⟩:=trodAll_nil r6;obtain rfl:args= #[v0,v1,v2,v3,v4,v5,v6]:=by cases args;simp_all
 obtain⟨rfl,rfl⟩:=trodVars_none hV;obtain⟨c0,rfl,ca0,cz0⟩:=Jw (hval 0 27 v0 rfl rfl) h0;obtain⟨x1,rfl,rfl,rfl,wx1⟩:=open_int Tryz.underlying5 (hval 1 5 v1 rfl rfl) h1;obtain⟨x2,rfl,rfl,rfl,wx2⟩:=open_int Tryz.underlying5 (hval 2 5 v2 rfl rfl) h2;obtain⟨A3,c3,l3,rfl,n3,m3,s3,z03⟩:=open_ints (hval 3 22 v3 rfl rfl) h3;have z3:l3.length*8<=140737488355328:=fO (z03 reachBytes (λelems spare e=>sized_slice hwt (j:=3) (t:=22) (e:=3) rfl (congrArg some e) Tryz.underlying22)) (by decide);obtain⟨x4,rfl,wx4⟩:=yY (hval 4 44 v4 rfl rfl) h4;obtain⟨x5,rfl,wx5⟩:=yY (hval 5 44 v5 rfl rfl) h5;obtain⟨x6,rfl,wx6⟩:=Bd (hval 6 42 v6 rfl rfl) h6;clear hA0;simp only[DS]at hW';refine(ru c0 x1 x2 A3 c3 l3 x4 x5 x6 W (table hL) (Tc hL hsh) ca0 cz0 s3 z3 wx1 wx2 wx4 wx5 wx6).mono λe W' ⟨he,hg⟩=> ?_
 subst he;exact⟨_,rfl,PostB.FL (tb:=4) (by kernel_rfl) (by kernel_rfl) rfl Tryz.underlying4 hW' rfl rfl rfl rfl hg⟩

def xZ:DataW Unit->Array Value
 | .agg l=>(l.map fun| .lit (.int k n)=>Value.int k n| .lit (.bool b)=>Value.bool b|_=>undef).toArray
 |_=> #[]
def setCells(d:DataW Unit):Obj->Obj
 | .cells _ t frozen=> .cells (xZ d) t frozen
 |o=>o
def JW(n:Nat):Obj->Obj
 | .cells _ t frozen=> .cells #[.iface 369 (.pointer (some ⟨n,0,none⟩))] t frozen
 |o=>o
noncomputable def qk (os:Os):World:= {World.holding Tryz.prog os ⟨#[], #[],[]⟩with heap:=(((((((((World.holding Tryz.prog os ⟨#[], #[],[]⟩).heap.modify 5 (setCells Rows.laid_math_bits_deBruijn32tab)).modify 6 (setCells Rows.laid_math_bits_deBruijn64tab)).modify 1 (setCells Rows.laid_internal_strconv_uint64pow10)).modify 4 (JW ((World.holding Tryz.prog os ⟨#[], #[],[]⟩).heap.size+0))).modify 3 (JW ((World.holding Tryz.prog os ⟨#[], #[],[]⟩).heap.size+1))).modify 0 (setCells Rows.laid_estoppel_digest_constants)).push (.cells #[.string ⟨#[118,97,108,117,101,32,111,117,116,32,111,102,32,114,97,110,103,101]⟩] 371)).push (.cells #[.string ⟨#[105,110,118,97,108,105,100,32,115,121,110,116,97,120]⟩] 371))}
theorem IZ(os:Os):laidMet Tryz.prog Rows.houseForgedRow.laid ((qk os).forCall (λ_ _=>0) ⟨#[], #[.agg #[.int .i64 0, .slice none 0 0, .slice none 0 0, .slice none 0 0, .slice none 0 0, .int .i64 0, .slice none 0 0], .int .u8 0, .int .u8 0, .slice none 0 0, .agg (cM (yW ⟨0,0,0,⟨#[]⟩,⟨#[]⟩,0,0⟩)).toArray, .agg (cM (yW ⟨0,0,0,⟨#[]⟩,⟨#[]⟩,0,0⟩)).toArray, .agg #[.int .i64 0, .int .i64 0, .int .i64 0, .string ⟨#[]⟩, .string ⟨#[]⟩, .int .i64 0, .int .i64 0]],[]⟩).memory:=
 laidMet_of_run' 8 (by kernel_rfl) (by kernel_rfl)
theorem reads(os:Os){H:Type}(enc:TypeId×Value->H):∃places,DataW.whole enc Tryz.prog ((qk os).forCall (λ_ _=>0) ⟨#[], #[.agg #[.int .i64 0, .slice none 0 0, .slice none 0 0, .slice none 0 0, .slice none 0 0, .int .i64 0, .slice none 0 0], .int .u8 0, .int .u8 0, .slice none 0 0, .agg (cM (yW ⟨0,0,0,⟨#[]⟩,⟨#[]⟩,0,0⟩)).toArray, .agg (cM (yW ⟨0,0,0,⟨#[]⟩,⟨#[]⟩,0,0⟩)).toArray, .agg #[.int .i64 0, .int .i64 0, .int .i64 0, .string ⟨#[]⟩, .string ⟨#[]⟩, .int .i64 0, .int .i64 0]],[]⟩).memory Tryz.f3.params.toList Rows.houseForgedSpec.vars false #[Value.agg #[.int .i64 0, .slice none 0 0, .slice none 0 0, .slice none 0 0, .slice none 0 0, .int .i64 0, .slice none 0 0],Value.int .u8 0,Value.int .u8 0,Value.slice none 0 0,Value.agg (cM (yW ⟨0,0,0,⟨#[]⟩,⟨#[]⟩,0,0⟩)).toArray,Value.agg (cM (yW ⟨0,0,0,⟨#[]⟩,⟨#[]⟩,0,0⟩)).toArray,Value.agg #[.int .i64 0, .int .i64 0, .int .i64 0, .string ⟨#[]⟩, .string ⟨#[]⟩, .int .i64 0, .int .i64 0]].toList 8=some ([.agg [.lit (.int .i64 0), .nil, .nil, .nil, .nil, .lit (.int .i64 0), .nil], .lit (.int .u8 0), .lit (.int .u8 0), .nil, .agg [.lit (.int .i64 0), .agg [.lit (.int .i64 0), .lit (.int .i64 0), .lit (.int .i64 0), .lit (.int .i64 0), .lit (.int .i64 0), .lit (.bool false)], .agg [.lit (.int .i64 0), .lit (.int .i64 0), .lit (.int .i64 0), .lit (.int .i64 0), .lit (.int .i64 0), .agg [.lit (.int .i64 0), .nil, .agg [.lit (.int .i64 0), .lit (.int .i64 0), .lit (.int .i64 0), .lit (.int .i64 0), .nil, .lit (.int .i64 0), .lit (.int .i64 0), .lit (.bool false), .lit (.bool false), .lit (.int .i64 0), .lit (.int .i64 0), .agg [.lit (.int .i64 0), .lit (.int .i64 0)], .lit (.int .i64 0), .lit (.int .i64 0), .lit (.bool false)], .lit (.int .i64 0)], .lit (.string [])], .agg [.lit (.int .i64 0), .lit (.int .i64 0), .lit (.int .i64 0), .lit (.string []), .lit (.string []), .agg [.lit (.int .i64 0), .lit (.int .i64 0)]], .lit (.int .i64 0), .lit (.int .i64 0), .lit (.int .i64 0)], .agg [.lit (.int .i64 0), .agg [.lit (.int .i64 0), .lit (.int .i64 0), .lit (.int .i64 0), .lit (.int .i64 0), .lit (.int .i64 0), .lit (.bool false)], .agg [.lit (.int .i64 0), .lit (.int .i64 0), .lit (.int .i64 0), .lit (.int .i64 0), .lit (.int .i64 0), .agg [.lit (.int .i64 0), .nil, .agg [.lit (.int .i64 0), .lit (.int .i64 0), .lit (.int .i64 0), .lit (.int .i64 0), .nil, .lit (.int .i64 0), .lit (.int .i64 0), .lit (.bool false), .lit (.bool false), .lit (.int .i64 0), .lit (.int .i64 0), .agg [.lit (.int .i64 0), .lit (.int .i64 0)], .lit (.int .i64 0), .lit (.int .i64 0), .lit (.bool false)], .lit (.int .i64 0)], .lit (.string [])], .agg [.lit (.int .i64 0), .lit (.int .i64 0), .lit (.int .i64 0), .lit (.string []), .lit (.string []), .agg [.lit (.int .i64 0), .lit (.int .i64 0)]], .lit (.int .i64 0), .lit (.int .i64 0), .lit (.int .i64 0)], .agg [.lit (.int .i64 0), .lit (.int .i64 0), .lit (.int .i64 0), .lit (.string []), .lit (.string []), .agg [.lit (.int .i64 0), .lit (.int .i64 0)]]],[],places):=
 ⟨[],by kernel_rfl⟩

theorem lifted(os:Os)(started:os.Started)(H:Type)(enc:TypeId×Value->H)(F:Stop.Interp):
  ReturnsInHanded {} Tryz.checked os 3 .any ((OpenSpec.ofChange Rows.houseForgedSpec).preRow enc Tryz.prog Tryz.f3 Rows.houseForgedRow.domain false Rows.houseForgedRow.laid) (((OpenSpec.ofChange Rows.houseForgedSpec).at F).post enc Tryz.prog Tryz.f3 false true false false):=by
 obtain⟨places,hx⟩:=reads os enc;refine returnsInHanded_of_row (C:=Tryz.checked) (s:=OpenSpec.ofChange Rows.houseForgedSpec) own started (by kernel_rfl) Tryz.func3
  (witness_row_at (enc:=enc) (C:=Tryz.checked) false (qk os) #[.agg #[.int .i64 0, .slice none 0 0, .slice none 0 0, .slice none 0 0, .slice none 0 0, .int .i64 0, .slice none 0 0], .int .u8 0, .int .u8 0, .slice none 0 0, .agg (cM (yW ⟨0,0,0,⟨#[]⟩,⟨#[]⟩,0,0⟩)).toArray, .agg (cM (yW ⟨0,0,0,⟨#[]⟩,⟨#[]⟩,0,0⟩)).toArray, .agg #[.int .i64 0, .int .i64 0, .int .i64 0, .string ⟨#[]⟩, .string ⟨#[]⟩, .int .i64 0, .int .i64 0]] rfl (by kernel_rfl) (by kernel_rfl) (by kernel_rfl)
   (OpenSpec.preRow_of_cond 8 hx (by kernel_rfl) (λk hk=>by cases hk) (by kernel_rfl) (IZ os))) ?_
 intro W base args ds gs before hval hW _ _ hwt hL hsh _;exact Hy H enc W base args ds gs before hval hW hL hsh hwt

theorem SQ{a b:Bool}(h:a=true)(k:b=true):(a&&b)=true:=by rw[h,k];rfl
set_option maxHeartbeats 8000000 in
theorem closed:joinedFacts Tryz.prog 3 Tryz.f3 (OpenSpec.ofChange Rows.houseForgedSpec).bare Rows.houseForgedRow=true:=by
 unfold joinedFacts
 repeat' (with_reducible refine SQ ?_ ?_)
 all_goals as_aux_lemma=>kernel_rfl
theorem said:Rows.HouseForgedSaid:=
 OpenClaim.holds_of_cond 3 Tryz.f3 rfl rfl rfl rfl rfl rfl rfl ⟨rfl,rfl,rfl,rfl,rfl⟩ rfl rfl rfl rfl rfl (by kernel_rfl) Tryz.func3 closed
  (Sc (by kernel_rfl)) (by unfold Func.isWrapper;first|(rw[if_pos (by decide+kernel)];kernel_rfl)|(rw[if_neg (by decide+kernel)];exact⟨rfl,rfl⟩))
  (λos started H enc _ F=>by rw[OpenClaim.pre_eq_preRow];exact lifted os started H enc F)
theorem plain(f : FuncId)(fn : Func)(hf : Tryz.pinned.checked.prog.funcNamed "estoppel/estoppellaw47.HouseForged" = some f)(hfn : Tryz.pinned.checked.prog.funcs[f]? = some fn) :
  true=Tryz.pinned.checked.prog.looks []/\∀(j:Nat) t,fn.params[j]? =some t->Tryz.pinned.checked.prog.wantsStandIn t=false:=by
 obtain rfl : f = 3 := PU ((show Tryz.prog.funcNamed "estoppel/estoppellaw47.HouseForged" = some 3 by kernel_rfl).symm.trans hf) |>.symm;obtain rfl:fn=Tryz.f3:=(PU (Tryz.func3.symm.trans hfn)).symm;refine⟨by kernel_rfl,λj t ht=> ?_⟩;rw[Tryz.params3]at ht;have hm:=Array.mem_of_getElem? ht;simp only[List.mem_toArray,lC,DR,DW]at hm;rcases hm with rfl|rfl|rfl|rfl|rfl|rfl|rfl;all_goals first|exact(show Tryz.prog.wantsStandIn 44=false by kernel_rfl)|exact(show Tryz.prog.wantsStandIn 27=false by kernel_rfl)|exact(show Tryz.prog.wantsStandIn 42=false by kernel_rfl)|exact(show Tryz.prog.wantsStandIn 22=false by kernel_rfl)|exact(show Tryz.prog.wantsStandIn 5=false by kernel_rfl)
end Go.Proofs.YtkmbmfengcdmoaaGreatDoor.houseForged
namespace Go.Proofs.YtkmbmfengcdmoaaGreatDoor
theorem houseForged_card:Rows.HouseForgedCardSaid:=
 Claim7.holds_tied_plain_at .later [] _ _ _ _ houseForged.said (λ_ h=>by cases h) (by kernel_rfl) (λ_ h=>by cases h) houseForged_row_tie rfl ⟨rfl,rfl⟩ (by kernel_rfl) rfl houseForged.plain (by kernel_rfl)
end Go.Proofs.YtkmbmfengcdmoaaGreatDoor

