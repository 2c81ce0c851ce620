/- The law TopPower: true for every input; its card. No condition. -/
import Derived.Test.YtkmbmfengcdmoaaGreatDoorCards
import Derived.Test.YtkmbmfengcdmoaaGreatDoorTie
import Derived.Test.YtkmbmfengcdmoaaGreatDoorZBN
import Derived.Test.YtkmbmfengcdmoaaGreatDoorWpU
import Derived.ProofKit
import Derived.OpenShut
import Derived.Lib.SmallJoins
import Derived.Deep.DeepHandedRow
import Derived.Lib.LaidTab
import Derived.LaidSub
import Derived.Stop.LaidErr
import Derived.Shelf.Vars
import Derived.SizedLaws
set_option maxRecDepth 100000
set_option linter.all false
namespace Go.Proofs.YtkmbmfengcdmoaaGreatDoor.topPower
open Go.ChangeShapes Go.WideShapes Go.ChangeAt Go.RowKit
open Go.ChangeMaps (open_string shut_string)
open Go.Proofs (cell_of_shapedOpen_int)

theorem own:ownKnob Tryz.prog.godebug=none:=by kernel_rfl
theorem QL : Tryz.prog.globalNamed "estoppel/digest.constants" = some 0 := by kernel_rfl
theorem IE:(Tryz.prog.globals[0]?).map (·.type)=some 331:=by kernel_rfl
theorem Oq:Tryz.prog.cellsOf 331=64:=by kernel_rfl
theorem Oo:Tryz.prog.cellsOf 226=1:=by kernel_rfl
theorem Ru : Rows.topPowerRow.laid.filter (λx => x.1 == "estoppel/digest.constants") = [("estoppel/digest.constants", Rows.laid_estoppel_digest_constants)] := by kernel_rfl
theorem Pj{W:World}(h:laidMetH Tryz.prog Rows.topPowerRow.laid W):GV W:=by
 have c:laidMet Tryz.prog Rows.topPowerRow.laid W:=h;have a := c.filter (λx => x.1 == "estoppel/digest.constants");rw[Ru]at a;have e : Lib.TabIs Tryz.prog W "estoppel/digest.constants" .u32 (KC.map λx => (x.toNat : Int)) :=
  Lib.tabIs_of_head (rest:= []) QL IE Tryz.underlying331 Tryz.underlying226 Oo Oq a
 intro i b
 have:=e.cell QL i (by simpa[KC]using b);rw[this];congr 2;rw[BX,BX,mx];have d:i<KC.length:=by simpa[KC]using b
 rw[eH d];rfl
theorem S7 : Tryz.prog.globalNamed "internal/strconv.uint64pow10" = some 1 := by kernel_rfl
theorem ID:(Tryz.prog.globals[1]?).map (·.type)=some 334:=by kernel_rfl
theorem Lg:Tryz.prog.cellsOf 334=20:=by kernel_rfl
theorem Lf:Tryz.prog.cellsOf 228=1:=by kernel_rfl
theorem Rv : Rows.topPowerRow.laid.filter (λx => x.1 == "internal/strconv.uint64pow10") = [("internal/strconv.uint64pow10", Lib.tabData .u64 Lib.pow10Tab)] := by kernel_rfl
theorem table{W:World}(h:laidMetH Tryz.prog Rows.topPowerRow.laid W):cB W:=by have b:laidMet Tryz.prog Rows.topPowerRow.laid W:=h;have a := b.filter (λx => x.1 == "internal/strconv.uint64pow10");rw[Rv]at a;exact⟨Pj h,Lib.tabIs_of_head (rest:= []) S7 ID Tryz.underlying334 Tryz.underlying228 Lf Lg a⟩
theorem star : "*" ++ "errors.errorString" = "*errors.errorString" := by decide
theorem NH(u : TypeId)(h : Tryz.prog.typeName? 3 u = some "*errors.errorString") : u = 369 :=
 typeName_ptr_named (nm := "errors.errorString") (by rw [star]; kernel_rfl) (by kernel_rfl) (by decide) u (by rw [star]; exact h)
theorem Cn:Tryz.prog.cellsOf 371=1:=by kernel_rfl
theorem x9:Tryz.prog.cellsOf 9=1:=by kernel_rfl
theorem ON{W:World}(h:W.ShapedOpen Tryz.prog):∃m,W.cell? ⟨2,0,none⟩=some (.int .i64 m):=
 cell_of_shapedOpen_int (t:=3) (zero:= #[.int .i64 0]) h (Sc (by kernel_rfl)) (by kernel_rfl) rfl (by kernel_rfl) (by kernel_rfl) Tryz.underlying3
theorem Np : Tryz.prog.globalNamed "strconv.ErrRange" = some 4 := by kernel_rfl
theorem QJ:(Tryz.prog.globals[4]?).map (·.type)=some 121:=by kernel_rfl
theorem OZ : Rows.topPowerRow.laid.filter (λx => x.1 == "strconv.ErrRange") = [("strconv.ErrRange", Rows.laid_strconv_ErrRange)] := by kernel_rfl
theorem OL{W:World}(h:laidMetH Tryz.prog Rows.topPowerRow.laid W):∃v,W.cell? ⟨4,0,none⟩=some v/\Df v:=by have c:laidMet Tryz.prog Rows.topPowerRow.laid W:=h;have b := c.filter (λx => x.1 == "strconv.ErrRange");rw[OZ]at b;obtain⟨a,s,hv,_⟩:=laid_sentinel (r:= []) b Np QJ Tryz.underlying121 NH Tryz.underlying369 Tryz.underlying371 rfl rfl Tryz.underlying9 Cn x9;exact⟨_,by have:=World.var?_cell Np hv 0;simpa using this, .inr ⟨_,_,rfl⟩⟩
theorem Nq : Tryz.prog.globalNamed "strconv.ErrSyntax" = some 3 := by kernel_rfl
theorem QK:(Tryz.prog.globals[3]?).map (·.type)=some 121:=by kernel_rfl
theorem O0 : Rows.topPowerRow.laid.filter (λx => x.1 == "strconv.ErrSyntax") = [("strconv.ErrSyntax", Rows.laid_strconv_ErrSyntax)] := by kernel_rfl
theorem OM{W:World}(h:laidMetH Tryz.prog Rows.topPowerRow.laid W):∃v,W.cell? ⟨3,0,none⟩=some v/\Df v:=by have c:laidMet Tryz.prog Rows.topPowerRow.laid W:=h;have b := c.filter (λx => x.1 == "strconv.ErrSyntax");rw[O0]at b;obtain⟨a,s,hv,_⟩:=laid_sentinel (r:= []) b Nq QK Tryz.underlying121 NH Tryz.underlying369 Tryz.underlying371 rfl rfl Tryz.underlying9 Cn x9;exact⟨_,by have:=World.var?_cell Nq hv 0;simpa using this, .inr ⟨_,_,rfl⟩⟩
theorem Tc{W:World}(h:laidMetH Tryz.prog Rows.topPowerRow.laid W)(a:W.ShapedOpen Tryz.prog):gK W:=⟨ON a,OM h,OL h⟩

theorem Hy(H:Type)(enc:TypeId×Value->H)(W:World)(base:Nat)(args:Array Value)(i w:List (DataW H))(b:List MemPlace)
  (a:∀(j:Nat) t v,Tryz.f7.params[j]? =some t->args[j]? =some v->Value.okWide Tryz.prog W .any base t v)
  (z:DataW.Whole enc Tryz.prog Tryz.f7.params.toList Rows.topPowerSpec.vars false W args.toList i w b) (y:laidMetH Tryz.prog Rows.topPowerRow.laid W) (m:W.ShapedOpen Tryz.prog) (f:(DataW.weightsEach Tryz.prog (Tryz.f7.params.toList++(OpenSpec.ofChange Rows.topPowerSpec).bare.plain.varTypes Tryz.prog) (i++w)).all (· <=reachBytes)=true):
  Calls Tryz.prog 7 args W λe u=> ∃v,e= .returned v/\Rows.topPowerSpec.post enc Tryz.prog Tryz.f7 false true false false W args v u:=by
 have d:=z;obtain⟨p,q,c,X,rfl,Z,an⟩:=z;have x:DataW.TrodAll enc Tryz.prog W 0 (λ_=>true) true Tryz.f7.params.toList args.toList i p:=c;rw[Tryz.params7]at x a f;obtain⟨B,bi,d0,M,p0,q0,l,rfl,rfl,R,r0⟩:=trodAll_cons x;obtain⟨C,ci,d1,N,p1,q1,rfl,rfl,rfl,S,r1⟩:=trodAll_cons r0;obtain⟨D,co,d2,O,p2,q2,rfl,rfl,rfl,T,r2⟩:=trodAll_cons r1;obtain⟨E,dl,d3,P,p3,q3,rfl,rfl,rfl,U,r3⟩:=trodAll_cons r2;obtain⟨F,d6,d4,Q,p4,q4,rfl,rfl,rfl,V,r4⟩:=trodAll_cons r3;obtain⟨rfl,rfl,rfl⟩:=trodAll_nil r4;obtain rfl:args= #[B,C,D,E,F]:=by cases args;simp_all
 obtain⟨rfl,rfl⟩:=trodVars_none X;obtain⟨J,rfl,g,h⟩:=Jw (a 0 27 B rfl rfl) R;obtain⟨x1,rfl,rfl,rfl,o⟩:=open_int Tryz.underlying5 (a 1 5 C rfl rfl) S;obtain⟨G,K,A,rfl,n2,m2,s2,s⟩:=open_ints (a 2 22 D rfl rfl) T;have z2:A.length*8<=140737488355328:=fO (s reachBytes (λk n e=>sized_slice f (j:=2) (t:=22) (e:=3) rfl (congrArg some e) Tryz.underlying22)) (by decide);obtain⟨I,L,l3,rfl,n3,m3,s3,o3⟩:=sG (a 3 84 E rfl rfl) U;obtain⟨x4,rfl,rfl,rfl,r⟩:=open_int Tryz.underlying85 (a 4 85 F rfl rfl) V;clear c;simp only[DS]at d;refine(pG J x1 G K A I L l3 x4 W (table y) (Tc y m) g h s2 z2 s3 n3 o3 o r).mono λe u ⟨Y,hg⟩=> ?_
 subst Y;exact⟨_,rfl,PostB.FL (tb:=4) (by kernel_rfl) (by kernel_rfl) rfl Tryz.underlying4 d rfl rfl rfl rfl hg⟩

def xZ:DataW Unit->Array Value
 | .agg l=>(l.map fun| .lit (.int k n)=>Value.int k n| .lit (.bool b)=>Value.bool b|_=>undef).toArray
 |_=> #[]
def setCells(d:DataW Unit):Obj->Obj
 | .cells _ t frozen=> .cells (xZ d) t frozen
 |o=>o
def JW(n:Nat):Obj->Obj
 | .cells _ t frozen=> .cells #[.iface 369 (.pointer (some ⟨n,0,none⟩))] t frozen
 |o=>o
noncomputable def qk (os:Os):World:= {World.holding Tryz.prog os ⟨#[], #[],[]⟩with heap:=(((((((((World.holding Tryz.prog os ⟨#[], #[],[]⟩).heap.modify 5 (setCells Rows.laid_math_bits_deBruijn32tab)).modify 6 (setCells Rows.laid_math_bits_deBruijn64tab)).modify 1 (setCells Rows.laid_internal_strconv_uint64pow10)).modify 4 (JW ((World.holding Tryz.prog os ⟨#[], #[],[]⟩).heap.size+0))).modify 3 (JW ((World.holding Tryz.prog os ⟨#[], #[],[]⟩).heap.size+1))).modify 0 (setCells Rows.laid_estoppel_digest_constants)).push (.cells #[.string ⟨#[118,97,108,117,101,32,111,117,116,32,111,102,32,114,97,110,103,101]⟩] 371)).push (.cells #[.string ⟨#[105,110,118,97,108,105,100,32,115,121,110,116,97,120]⟩] 371))}
theorem IZ(a:Os):laidMet Tryz.prog Rows.topPowerRow.laid ((qk a).forCall (λ_ _=>0) ⟨#[], #[.agg #[.int .i64 0, .slice none 0 0, .slice none 0 0, .slice none 0 0, .slice none 0 0, .int .i64 0, .slice none 0 0], .int .u8 0, .slice none 0 0, .slice none 0 0, .int .u16 0],[]⟩).memory:=
 laidMet_of_run' 8 (by kernel_rfl) (by kernel_rfl)
theorem reads(b:Os){H:Type}(enc:TypeId×Value->H):∃a,DataW.whole enc Tryz.prog ((qk b).forCall (λ_ _=>0) ⟨#[], #[.agg #[.int .i64 0, .slice none 0 0, .slice none 0 0, .slice none 0 0, .slice none 0 0, .int .i64 0, .slice none 0 0], .int .u8 0, .slice none 0 0, .slice none 0 0, .int .u16 0],[]⟩).memory Tryz.f7.params.toList Rows.topPowerSpec.vars false #[Value.agg #[.int .i64 0, .slice none 0 0, .slice none 0 0, .slice none 0 0, .slice none 0 0, .int .i64 0, .slice none 0 0],Value.int .u8 0,Value.slice none 0 0,Value.slice none 0 0,Value.int .u16 0].toList 8=some ([.agg [.lit (.int .i64 0), .nil, .nil, .nil, .nil, .lit (.int .i64 0), .nil], .lit (.int .u8 0), .nil, .nil, .lit (.int .u16 0)],[],a):=
 ⟨[],by kernel_rfl⟩

theorem lifted(d:Os)(a:d.Started)(H:Type)(enc:TypeId×Value->H)(F:Stop.Interp):
  ReturnsInHanded {} Tryz.checked d 7 .any ((OpenSpec.ofChange Rows.topPowerSpec).preRow enc Tryz.prog Tryz.f7 Rows.topPowerRow.domain false Rows.topPowerRow.laid) (((OpenSpec.ofChange Rows.topPowerSpec).at F).post enc Tryz.prog Tryz.f7 false true false false):=by
 obtain⟨e,n⟩:=reads d enc;refine returnsInHanded_of_row (C:=Tryz.checked) (s:=OpenSpec.ofChange Rows.topPowerSpec) own a (by kernel_rfl) Tryz.func7
  (witness_row_at (enc:=enc) (C:=Tryz.checked) false (qk d) #[.agg #[.int .i64 0, .slice none 0 0, .slice none 0 0, .slice none 0 0, .slice none 0 0, .int .i64 0, .slice none 0 0], .int .u8 0, .slice none 0 0, .slice none 0 0, .int .u16 0] rfl (by kernel_rfl) (by kernel_rfl) (by kernel_rfl)
   (OpenSpec.preRow_of_cond 8 n (by kernel_rfl) (λk m=>by cases m) (by kernel_rfl) (IZ d))) ?_
 intro W base args h i b c l _ _ g j f _;exact Hy H enc W base args h i b c l j f g

theorem SQ{a b:Bool}(h:a=true)(k:b=true):(a&&b)=true:=by rw[h,k];rfl
set_option maxHeartbeats 8000000 in
theorem closed:joinedFacts Tryz.prog 7 Tryz.f7 (OpenSpec.ofChange Rows.topPowerSpec).bare Rows.topPowerRow=true:=by
 unfold joinedFacts
 repeat' (with_reducible refine SQ ?_ ?_)
 all_goals as_aux_lemma=>kernel_rfl
theorem said:Rows.TopPowerSaid:=
 OpenClaim.holds_of_cond 7 Tryz.f7 rfl rfl rfl rfl rfl rfl rfl ⟨rfl,rfl,rfl,rfl,rfl⟩ rfl rfl rfl rfl rfl (by kernel_rfl) Tryz.func7 closed
  (Sc (by kernel_rfl)) (by unfold Func.isWrapper;first|(rw[if_pos (by decide+kernel)];kernel_rfl)|(rw[if_neg (by decide+kernel)];exact⟨rfl,rfl⟩))
  (λc a H b _ F=>by rw[OpenClaim.pre_eq_preRow];exact lifted c a H b F)
theorem plain(f : FuncId)(fn : Func)(c : Tryz.pinned.checked.prog.funcNamed "estoppel/estoppeltop.TopPower" = some f)(a : Tryz.pinned.checked.prog.funcs[f]? = some fn) :
  true=Tryz.pinned.checked.prog.looks []/\∀(j:Nat) t,fn.params[j]? =some t->Tryz.pinned.checked.prog.wantsStandIn t=false:=by
 obtain rfl : f = 7 := PU ((show Tryz.prog.funcNamed "estoppel/estoppeltop.TopPower" = some 7 by kernel_rfl).symm.trans c) |>.symm;obtain rfl:fn=Tryz.f7:=(PU (Tryz.func7.symm.trans a)).symm;refine⟨by kernel_rfl,λj t b=> ?_⟩;rw[Tryz.params7]at b;have hm:=Array.mem_of_getElem? b;simp only[List.mem_toArray,lC,DR,DW]at hm;rcases hm with rfl|rfl|rfl|rfl|rfl;all_goals first|exact(show Tryz.prog.wantsStandIn 27=false by kernel_rfl)|exact(show Tryz.prog.wantsStandIn 22=false by kernel_rfl)|exact(show Tryz.prog.wantsStandIn 85=false by kernel_rfl)|exact(show Tryz.prog.wantsStandIn 5=false by kernel_rfl)|exact(show Tryz.prog.wantsStandIn 84=false by kernel_rfl)
end Go.Proofs.YtkmbmfengcdmoaaGreatDoor.topPower
namespace Go.Proofs.YtkmbmfengcdmoaaGreatDoor
theorem topPower_card:Rows.TopPowerCardSaid:=
 Claim7.holds_tied_plain_at .later [] _ _ _ _ topPower.said (λ_ h=>by cases h) (by kernel_rfl) (λ_ h=>by cases h) topPower_row_tie rfl ⟨rfl,rfl⟩ (by kernel_rfl) rfl topPower.plain (by kernel_rfl)
end Go.Proofs.YtkmbmfengcdmoaaGreatDoor

