/- Package file: the words of a text, as an iterator. Condition: the library's variable MaxLen holds an integer. -/
import Derived.Test.YtkmbmfengcdmoaaGreatDoorZAR
import Derived.Test.YtkmbmfengcdmoaaGreatDoorZAB
import Derived.Lib.IndexMore
import Derived.Lib.IndexBytes
import Derived.Lib.CutLaws
import Derived.Lib.AtoiAll
import Derived.Lib.AtoiAllCases
import Derived.Shelf.Strings.Builder1
import Derived.Shelf.Strings.Builder2
import Derived.Shelf.Small.Bits
import Derived.Shelf.Small.Strs
import Derived.Shelf.Strings.BuilderF
import Derived.Shelf.Strings.BuilderK
import Derived.Shelf.Strconv.Atoi
import Derived.Shelf.Strconv.Itoa0
import Derived.Shelf.Strconv.Itoa1
import Derived.Shelf.LaysM
import Derived.Shelf.Strconv.Itoa2
import Derived.Shelf.Strconv.Itoa3
import Derived.Shelf.Strconv.AtoiErrFast
import Derived.Shelf.Strconv.ParseIntEmpty
import Derived.Shelf.Strconv.AtoiFail
import Derived.Shelf.Strconv.Clone
import Derived.Shelf.Strconv.SyntaxError
import Derived.Shelf.LaysC
import Derived.Shelf.Strconv.ToError
import Derived.Shelf.Strconv.Lower
import Derived.Shelf.Strconv.ParseUint10
import Derived.Shelf.Strconv.ParseUint10Empty
import Derived.Shelf.Strconv.ParseUint10Any
import Derived.Shelf.Strconv.ParseInt10
import Derived.Shelf.Strconv.AtoiLong
import Derived.Shelf.Strconv.AtoiInnerAll
import Derived.Shelf.Strconv.RangeError
import Derived.Shelf.Strconv.ToErrorRange
import Derived.Shelf.Strconv.AtoiAll
import Derived.Shelf.Strconv.ErrVarAll
import Derived.Shelf.Strings.Search1
import Derived.Shelf.Strings.Search2
import Derived.Shelf.Strings.Cut
import Derived.Shelf.Strings.Shaped
import Derived.Shelf.Strconv.AppendUint10
import Derived.Shelf.Strconv.AppendInt10
import Derived.Shelf.Strconv.AppendIntPublic10
import Derived.Shelf.Strings.Prefix
import Derived.Shelf.Bits.Mul64
import Derived.Shelf.Strings.Repeat
import Derived.Ground.Names2Prog
import Derived.Shelf.Slices.Clone
import Derived.Ground.SlgnProg
import Derived.Shelf.SlicesE.Clone
import Derived.Ground.SlgfProg
import Derived.Shelf.SlicesE.IndexFunc
import Derived.Ground.SlsfProg
import Derived.Shelf.SlSortCmp.Insertion
import Derived.Test.YtkmbmfengcdmoaaGreatDoorProg
import Derived.Test.YtkmbmfengcdmoaaGreatDoorZAV
set_option linter.all false
set_option maxRecDepth 100000
namespace Go.Pa
open Go

theorem jf(n:Int):(∃u:Nat,n=(u:Int))\/∃u:Nat,1<=u/\n= -(u:Int):=by
 by_cases h:0<=n
 ·exact .inl ⟨n.toNat,by omega⟩
 ·exact .inr ⟨(-n).toNat,by omega,by omega⟩
theorem cN(n:Int):(32:UInt8)∉Lib.itoa n:=by
 intro h;rcases jf n with⟨u,rfl⟩|⟨u,hu,rfl⟩
 ·rw[Lib.itoa_nonneg]at h;exact absurd ((jV u).2.1 32 h).1 (by decide)
 ·rw[Lib.itoa_neg u hu]at h;rcases lC.1 h with h|h
  ·exact absurd h (by decide)
  ·exact absurd ((jV u).2.1 32 h).1 (by decide)
theorem Iz(l:List UInt8):∀a:Nat,a<=l.foldl (λa d=>a*10+(d.toNat-48)) a:=by
 induction l with
 |nil=>exact λa=>aL a
 |cons d l ih=>intro a;exact fO (show a<=a*10+(d.toNat-48) by omega) (ih _)
theorem tn:∀(l:List UInt8) (a:Nat),(∀b∈l,48<=b.toNat/\b.toNat<=57)->l.foldl (λa d=>a*10+(d.toNat-48)) a<18446744073709551616->Lib.parseUint10 a l= .ok (l.foldl (λa d=>a*10+(d.toNat-48)) a)
 | [],a,_,_=>rfl
 |c::r,a,h,hs=>by
  have hc:=h c (by simp);have hs':r.foldl (λa d=>a*10+(d.toNat-48)) (a*10+(c.toNat-48))<18446744073709551616:=hs;have hg:=Iz r (a*10+(c.toNat-48));have h1: ¬18446744073709551616<=a*10+(c.toNat-48):=by omega
  have h2: ¬1844674407370955162<=a:=by omega
  unfold Lib.parseUint10;rw[if_pos hc,if_neg h2,if_neg h1];exact tn r _ (λb hb=>h b (by simp[hb])) hs'
theorem yL(u:Nat)(h:u<18446744073709551616):Lib.parseMag (Lib.decDigits u)= .ok u:=by obtain⟨h1,h2,h3⟩:=jV u;unfold Lib.parseMag;rw[if_neg h3,tn _ 0 h2 (by show rp _<_;rw[h1];exact h)];show Lib.NumEnd.ok (rp _)=_;rw[h1]
theorem uJ(n:Int)(h0: -9223372036854775808<=n)(h1:n<=9223372036854775807):Lib.atoiAll (Lib.itoa n)= .ok n:=by
 rcases jf n with⟨u,rfl⟩|⟨u,hu,rfl⟩
 ·rw[Lib.itoa_nonneg];have hm:=yL u (by omega);obtain⟨_,h2,h3⟩:=jV u;cases hd:Lib.decDigits u with
  |nil=>exact absurd hd h3
  |cons c r=>rw[hd]at hm h2;have hc:=h2 c (by simp);unfold Lib.atoiAll;simp only;rw[if_neg (by omega),hm];simp only;rw[if_neg (by omega),if_neg (by omega),if_neg (by omega)]
 ·rw[Lib.itoa_neg u hu];have hm:=yL u (by omega);unfold Lib.atoiAll;simp only;rw[if_pos (by decide),hm];simp only;rw[if_neg (by simp),if_neg (by omega),if_pos (by decide)]
def jz:List UInt8->List (List UInt8)
 | []=> [[]]
 |c::r=>if c=32 then []::jz r else match jz r with
  | []=> [[c]]
  |p::ps=>(c::p)::ps
theorem mv:∀(p:List UInt8),(32:UInt8)∉p->jz p= [p]
 | [],_=>rfl
 |c::r,h=>by
  have hc:c≠32:=λe=>h (by simp[e])
  unfold jz;rw[if_neg hc,mv r (λe=>h (by simp[e]))]
theorem rU:∀(p r:List UInt8),(32:UInt8)∉p->jz (p++32::r)=p::jz r
 | [],r,_=>by rw[xK,jz,if_pos rfl]
 |c::p,r,h=>by
  have hc:c≠32:=λe=>h (by simp[e])
  rw[xC,jz,if_neg hc,rU p r (λe=>h (by simp[e]))]
theorem qi:∀l:List UInt8,(Lib.index l [32]= -1/\(32:UInt8)∉l)\/∃p r:List UInt8,l=p++32::r/\(32:UInt8)∉p/\Lib.index l [32]=p.length
 | []=> .inl ⟨rfl,by simp⟩
 |c::l=>by
  by_cases hc:c=32
  ·subst hc;exact .inr ⟨[],l,rfl,by simp,by simp[Lib.index]⟩
  ·have hp:([32]:List UInt8).isPrefixOf (c::l)=false:=by simp only[List.isPrefixOf,Bool.and_true];simpa using λe=>hc e.symm
   rcases qi l with⟨h1,h2⟩|⟨p,r,h1,h2,h3⟩
   ·refine .inl ⟨?_, ?_⟩
    ·rw[Lib.index,hp,h1];rfl
    ·intro h;rcases lC.1 h with h|h
     ·exact hc h.symm
     ·exact h2 h
   ·refine .inr ⟨c::p,r,by rw[h1];rfl, ?_, ?_⟩
    ·intro h;rcases lC.1 h with h|h
     ·exact hc h.symm
     ·exact h2 h
    ·rw[Lib.index,hp,h3]
     have:((p.length:Int)== -1)=false:=R7.2 (by omega);simp only[GA,B6,this];simp
theorem El(l:List UInt8):(Lib.cut l [32]=(l,[],false)/\jz l= [l])\/∃p r:List UInt8,Lib.cut l [32]=(p,r,true)/\jz l=p::jz r/\r.length<l.length/\p.length<=l.length:=by
 rcases qi l with⟨h1,h2⟩|⟨p,r,h1,h2,h3⟩
 ·refine .inl ⟨?_,mv l h2⟩;unfold Lib.cut;rw[h1];rfl
 ·refine .inr ⟨p,r, ?_,by rw[h1];exact rU p r h2,by rw[h1];simp;omega,by rw[h1];simp⟩;unfold Lib.cut;rw[h3,if_pos (by omega)];have e1:((p.length:Int)).toNat=p.length:=by omega
  rw[e1,h1];simp
def iX(s:Option (Bool×List Int))(x:List UInt8):Option (Bool×List Int):=match s with
 |none=>none
 |some (true,_)=>if x= [102,97,99,116]then some (false,[])else none
 |some (false,ns)=>match Lib.atoiAll x with
  | .ok v=>if ns.length=6 then none else some (false,ns++ [v])
  |_=>none
def oZ(pre:List (List UInt8)):Option (Bool×List Int):=pre.foldl iX (some (true,[]))
theorem vD(pre:List (List UInt8))(x:List UInt8):oZ (pre++ [x])=iX (oZ pre) x:=by simp[oZ]
theorem Gd(l:List (List UInt8)):l.foldl iX none=none:=by
 induction l with
 |nil=>rfl
 |cons x l ih=>exact ih
theorem zo{a b:List (List UInt8)}(h:a <+:b)(hn:oZ a=none):oZ b=none:=by obtain⟨c,rfl⟩:=h;unfold oZ at*;rw[PA,hn,Gd]
theorem Dy:∀(l:List (List UInt8)) (s:Option (Bool×List Int)),(∀f ns,s=some (f,ns)->(f=true->ns= [])/\ns.length<=6/\∀v∈ns, -9223372036854775808<=v/\v<=9223372036854775807)->
  ∀f ns,l.foldl iX s=some (f,ns)->(f=true->ns= [])/\ns.length<=6/\∀v∈ns, -9223372036854775808<=v/\v<=9223372036854775807
 | [],s,h,f,ns,e=>h f ns e
 |x::l,s,h,f,ns,e=>by
  refine Dy l (iX s x) ?_ f ns e;intro g ms eg;cases s with
  |none=>cases eg
  |some p=>
   obtain⟨f0,n0⟩:=p;obtain⟨h1,h2,h3⟩:=h f0 n0 rfl;cases f0 with
   |true=>
    unfold iX at eg;simp only at eg;split at eg
    ·cases eg;exact⟨(λe=>by cases e),by simp,by simp⟩
    ·cases eg
   |false=>
    unfold iX at eg;simp only at eg;split at eg
    ·rename_i v hv;split at eg
     ·cases eg
     ·cases eg
      refine⟨(λe=>by cases e),by simp;omega, ?_⟩;intro u hu;rcases zT.1 hu with hu|hu
      ·exact h3 u hu
      ·rw[vU]at hu;subst hu;exact Lib.atoiAll_bounds hv
    ·cases eg
theorem tF{pre:List (List UInt8)}{f:Bool}{ns:List Int}(h:oZ pre=some (f,ns)):(f=true->ns= [])/\ns.length<=6/\∀v∈ns, -9223372036854775808<=v/\v<=9223372036854775807:=
 Dy pre _ (λf ns e=>by cases e;exact⟨λ_=>rfl,by simp,by simp⟩) f ns h
end Go.Pa
namespace Go.Proofs.YtkmbmfengcdmoaaGreatDoor
open Go.Pa
theorem MY(x:ei)(k:Nat)(r:List UInt8):jz ((pE x k).data.toList++32::r)=jz (pE x k).data.toList++jz r:=by
 suffices h:∀k,∃q p:List UInt8,(32:UInt8)∉p/\(pE x k).data.toList=q++p/\∀s,jz (q++s)=(jz (pE x k).data.toList).dropLast++jz s by
  obtain⟨q,p,hp,e,hs⟩:=h k;rw[e,List.append_assoc,hs,hs,rU p r hp,mv p hp];simp
 intro k;induction k with
 |zero=>exact⟨[],[102,97,99,116],by decide,rfl,λs=>rfl⟩
 |succ k ih=>
  obtain⟨q,p,hp,e,hs⟩:=ih;have e2:(pE x (k+1)).data.toList=(q++p++ [32])++Lib.itoa (l8 x k):=by show(pE x k++(⟨#[32]⟩++dec (l8 x k))).data.toList=_;rw[R6,R6,R8,R8,e];simp[dec]
  refine⟨q++p++ [32],Lib.itoa (l8 x k),cN _,e2,λs=> ?_⟩;have ew:∀t,jz (q++p++ [32]++t)=(jz (pE x k).data.toList).dropLast++(p::jz t):=by intro t;rw[List.append_assoc,List.append_assoc,hs];show _++jz (p++32::t)=_;rw[rU p t hp]
  rw[e2,ew,ew,mv _ (cN _)];rw[List.dropLast_append_of_ne_nil (by simp)];simp
theorem xu(x:ei)(k:Nat):jz (pE x (k+1)).data.toList=jz (pE x k).data.toList++ [Lib.itoa (l8 x k)]:=by
 have e2:(pE x (k+1)).data.toList=(pE x k).data.toList++32::Lib.itoa (l8 x k):=by show(pE x k++(⟨#[32]⟩++dec (l8 x k))).data.toList=_;rw[R6,R6,R8,R8];simp[dec]
 rw[e2,MY,mv _ (cN _)]
theorem DE{x:ei}(h:x.Ok):∀k,k<=6->oZ (jz (pE x k).data.toList)=some (false,(List.range k).map (l8 x))
 |0,_=>rfl
 |k+1,hk=>by
  rw[xu,vD,DE h k (by omega)];unfold iX;simp only;rw[uJ _ (oM h k).1 (oM h k).2];simp only;rw[if_neg (by simp;omega),RX,uE];rfl
theorem o6{x:ei}(h:x.Ok):oZ (jz (iT x).data.toList)=some (false,[x.ref,x.act,x.low,x.high,x.cJ,Bt x.secret]):=DE h 6 (aL _)
def QE(a b c d e f:Int):ei:=⟨a,b,c,d,e,decide (f=1)⟩
theorem nC(x:ei):QE x.ref x.act x.low x.high x.cJ (Bt x.secret)=x:=by
 cases x with
 |mk a b c d e f=>cases f<;>rfl
theorem La{x y:ei}(hx:x.Ok)(hy:y.Ok)(h:iT x=iT y):x=y:=by have h1:=o6 hx;rw[h,o6 hy]at h1;simp only[NS,NO,true_and,List.cons.injEq,and_true]at h1;obtain⟨h1,h2,h3,h4,h5,h6⟩:=h1;rw[<-nC x, <-nC y,h1,h2,h3,h4,h5,h6]
end Go.Proofs.YtkmbmfengcdmoaaGreatDoor
namespace Go.Proofs
open Go.Shelf
def Tryz.wI:Go.Shelf.Ren:=⟨fun|172=>110|244=>172|245=>173|247=>226|279=>227|280=>228|281=>229|282=>230|287=>269|316=>270|171=>59|205=>271|321=>286|322=>287|243=>94|246=>140|283=>203|284=>204|285=>205|286=>206|129=>137|317=>242|318=>243|319=>244|320=>245|337=>275|338=>276|n=>n,fun|9=>9|3=>3|75=>121|76=>122|4=>4|5=>5|167=>317|37=>117|0=>0|85=>318|2=>2|168=>320|53=>228|175=>349|46=>172|210=>352|127=>174|145=>371|143=>369|21=>21|171=>295|173=>297|212=>334|51=>226|20=>20|213=>335|232=>201|233=>372|80=>127|n=>n,fun|15=>3|16=>4|17=>1|18=>5|19=>6|n=>n⟩
theorem Tryz.sR:Go.Proofs.LaysC.n172 Tryz.prog Tryz.wI:= {
 mixed:=by kernel_rfl
 f129:=Tryz.func137.trans (congrArg some (by kernel_rfl))
 f171:=Tryz.func59.trans (congrArg some (by kernel_rfl))
 f172:=Tryz.func110.trans (congrArg some (by kernel_rfl))
 f205:=Tryz.func271.trans (congrArg some (by kernel_rfl))
 f243:=Tryz.func94.trans (congrArg some (by kernel_rfl))
 f244:=Tryz.func172.trans (congrArg some (by kernel_rfl))
 f245:=Tryz.func173.trans (congrArg some (by kernel_rfl))
 f246:=Tryz.func140.trans (congrArg some (by kernel_rfl))
 f247:=Tryz.func226.trans (congrArg some (by kernel_rfl))
 f279:=Tryz.func227.trans (congrArg some (by kernel_rfl))
 f280:=Tryz.func228.trans (congrArg some (by kernel_rfl))
 f281:=Tryz.func229.trans (congrArg some (by kernel_rfl))
 f282:=Tryz.func230.trans (congrArg some (by kernel_rfl))
 f283:=Tryz.func203.trans (congrArg some (by kernel_rfl))
 f284:=Tryz.func204.trans (congrArg some (by kernel_rfl))
 f285:=Tryz.func205.trans (congrArg some (by kernel_rfl))
 f286:=Tryz.func206.trans (congrArg some (by kernel_rfl))
 f287:=Tryz.func269.trans (congrArg some (by kernel_rfl))
 f316:=Tryz.func270.trans (congrArg some (by kernel_rfl))
 f317:=Tryz.func242.trans (congrArg some (by kernel_rfl))
 f318:=Tryz.func243.trans (congrArg some (by kernel_rfl))
 f319:=Tryz.func244.trans (congrArg some (by kernel_rfl))
 f320:=Tryz.func245.trans (congrArg some (by kernel_rfl))
 f321:=Tryz.func286.trans (congrArg some (by kernel_rfl))
 f322:=Tryz.func287.trans (congrArg some (by kernel_rfl))
 f337:=Tryz.func275.trans (congrArg some (by kernel_rfl))
 f338:=Tryz.func276.trans (congrArg some (by kernel_rfl))
 t0:=Tryz.underlying0
 a0:=Tryz.isAgg0
 z0:=Tryz.sizeOf0
 v0:=Tryz.zeroValue0
 t2:=Tryz.underlying2
 a2:=Tryz.isAgg2
 z2:=Tryz.sizeOf2
 v2:=Tryz.zeroValue2
 t3:=Tryz.underlying3
 a3:=Tryz.isAgg3
 z3:=Tryz.sizeOf3
 v3:=Tryz.zeroValue3
 t4:=Tryz.underlying4
 a4:=Tryz.isAgg4
 z4:=Tryz.sizeOf4
 v4:=Tryz.zeroValue4
 t5:=Tryz.underlying5
 a5:=Tryz.isAgg5
 z5:=Tryz.sizeOf5
 v5:=Tryz.zeroValue5
 t9:=Tryz.underlying9
 a9:=Tryz.isAgg9
 z9:=Tryz.sizeOf9
 v9:=Tryz.zeroValue9
 t20:=Tryz.underlying20
 a20:=Tryz.isAgg20
 z20:=Tryz.sizeOf20
 v20:=Tryz.zeroValue20
 t21:=Tryz.underlying21
 a21:=Tryz.isAgg21
 z21:=Tryz.sizeOf21
 v21:=Tryz.zeroValue21
 t37:=Tryz.underlying117
 a37:=Tryz.isAgg117
 z37:=Tryz.sizeOf117
 v37:=Tryz.zeroValue117
 t46:=Tryz.underlying172
 a46:=Tryz.isAgg172
 z46:=Tryz.sizeOf172
 v46:=Tryz.zeroValue172
 t51:=Tryz.underlying226
 a51:=Tryz.isAgg226
 z51:=Tryz.sizeOf226
 v51:=Tryz.zeroValue226
 t53:=Tryz.underlying228
 a53:=Tryz.isAgg228
 z53:=Tryz.sizeOf228
 v53:=Tryz.zeroValue228
 t75:=Tryz.underlying121
 a75:=Tryz.isAgg121
 z75:=Tryz.sizeOf121
 v75:=Tryz.zeroValue121
 t76:=Tryz.underlying122
 a76:=Tryz.isAgg122
 z76:=Tryz.sizeOf122
 v76:=Tryz.zeroValue122
 t85:=Tryz.underlying318
 a85:=Tryz.isAgg318
 z85:=Tryz.sizeOf318
 v85:=Tryz.zeroValue318
 t127:=Tryz.underlying174
 a127:=Tryz.isAgg174
 z127:=Tryz.sizeOf174
 v127:=Tryz.zeroValue174
 t143:=Tryz.underlying369
 a143:=Tryz.isAgg369
 z143:=Tryz.sizeOf369
 v143:=Tryz.zeroValue369
 t145:=Tryz.underlying371
 a145:=Tryz.isAgg371
 z145:=Tryz.sizeOf371
 v145:=Tryz.zeroValue371
 t167:=Tryz.underlying317
 a167:=Tryz.isAgg317
 z167:=Tryz.sizeOf317
 v167:=Tryz.zeroValue317
 t168:=Tryz.underlying320
 a168:=Tryz.isAgg320
 z168:=Tryz.sizeOf320
 v168:=Tryz.zeroValue320
 t171:=Tryz.underlying295
 a171:=Tryz.isAgg295
 z171:=Tryz.sizeOf295
 v171:=Tryz.zeroValue295
 t173:=Tryz.underlying297
 a173:=Tryz.isAgg297
 z173:=Tryz.sizeOf297
 v173:=Tryz.zeroValue297
 t175:=Tryz.underlying349
 a175:=Tryz.isAgg349
 z175:=Tryz.sizeOf349
 v175:=Tryz.zeroValue349
 t210:=Tryz.underlying352
 a210:=Tryz.isAgg352
 z210:=Tryz.sizeOf352
 v210:=Tryz.zeroValue352
 t212:=Tryz.underlying334
 a212:=Tryz.isAgg334
 z212:=Tryz.sizeOf334
 v212:=Tryz.zeroValue334
 t213:=Tryz.underlying335
 a213:=Tryz.isAgg335
 z213:=Tryz.sizeOf335
 t232:=Tryz.underlying201
 a232:=Tryz.isAgg201
 z232:=Tryz.sizeOf201
 v232:=Tryz.zeroValue201
 t233:=Tryz.underlying372
 a233:=Tryz.isAgg372
 z233:=Tryz.sizeOf372
 v233:=Tryz.zeroValue372
 g15:=by kernel_rfl
 g16:=by kernel_rfl
 g17:=by kernel_rfl
 g18:=by kernel_rfl
 g19:=by kernel_rfl
 t80:=Tryz.underlying127
 a80:=Tryz.isAgg127
 z80:=Tryz.sizeOf127
 v80:=Tryz.zeroValue127
 i0:=by kernel_rfl
 i2:=by kernel_rfl
 i3:=by kernel_rfl
 i4:=by kernel_rfl
 i5:=by kernel_rfl
 i9:=by kernel_rfl
 i20:=by kernel_rfl
 i21:=by kernel_rfl
 i37:=by kernel_rfl
 i46:=by kernel_rfl
 i51:=by kernel_rfl
 i53:=by kernel_rfl
 i75:=by kernel_rfl
 i76:=by kernel_rfl
 i80:=by kernel_rfl
 i85:=by kernel_rfl
 i127:=by kernel_rfl
 i143:=by kernel_rfl
 i145:=by kernel_rfl
 i167:=by kernel_rfl
 i168:=by kernel_rfl
 i171:=by kernel_rfl
 i173:=by kernel_rfl
 i175:=by kernel_rfl
 i210:=by kernel_rfl
 i212:=by kernel_rfl
 i232:=by kernel_rfl
 i233:=by kernel_rfl
 m15:=by kernel_rfl
 m16:=by kernel_rfl
 m17:=by kernel_rfl
 m18:=by kernel_rfl
 m19:=by kernel_rfl
 c0:=by kernel_rfl
 c2:=by kernel_rfl
 c3:=by kernel_rfl
 c4:=by kernel_rfl
 c5:=by kernel_rfl
 c9:=by kernel_rfl
 c20:=by kernel_rfl
 c21:=by kernel_rfl
 c37:=by kernel_rfl
 c46:=by kernel_rfl
 c51:=by kernel_rfl
 c53:=by kernel_rfl
 c75:=by kernel_rfl
 c76:=by kernel_rfl
 c80:=by kernel_rfl
 c85:=by kernel_rfl
 c127:=by kernel_rfl
 c143:=by kernel_rfl
 c145:=by kernel_rfl
 c167:=by kernel_rfl
 c168:=by kernel_rfl
 c171:=by kernel_rfl
 c173:=by kernel_rfl
 c175:=by kernel_rfl
 c210:=by kernel_rfl
 c212:=by kernel_rfl
 c213:=by kernel_rfl
 c232:=by kernel_rfl
 c233:=by kernel_rfl}
open Go.RowKit in
theorem Tryz.strconv_Atoi_ok(s:ByteArray)(hmax:s.size<=9223372036854775806)(v:Int)(h:Lib.atoiAll s.data.toList= .ok v)(w:World):
  Calls Tryz.prog 110 #[.string s] w λe w'=>e= .returned (.tuple #[.int .i64 v, .nilIface])/\(w'=w\/∃t,w'=Lib.bytesWorld w 5 t):=Any.strconv_Atoi_ok Tryz.sR s hmax v h w
open Go.RowKit in
theorem Tryz.strconv_Atoi_syntax(s:ByteArray)(hlim:s.size<=281474976710656)(h:Lib.atoiAll s.data.toList=Lib.NumEnd.syntax)(ev:Value)(w:World)(hv:w.cell? ⟨3,0,none⟩=some ev)(hev:ev= .nilIface\/∃te pe,ev= .iface te pe):
  Calls Tryz.prog 110 #[.string s] w λe w'=> ∃N,e= .returned (.tuple #[.int .i64 (0), .iface 320 (.pointer (some ⟨N,0,none⟩))])/\w.heap.size<=N/\w'.heap[N]? =some (.cells #[.string ⟨#[65,116,111,105]⟩, .string s,ev] 352 (0,0))/\Below w.heap.size w w':=Any.strconv_Atoi_syntax Tryz.sR s hlim h ev w hv hev
open Go.RowKit in
theorem Tryz.strconv_Atoi_range(s:ByteArray)(hlim:s.size<=281474976710656)(h:Lib.atoiAll s.data.toList= .range)(ev:Value)(w:World)(hv:w.cell? ⟨4,0,none⟩=some ev)(hev:ev= .nilIface\/∃te pe,ev= .iface te pe):
  Calls Tryz.prog 110 #[.string s] w λe w'=> ∃N,e= .returned (.tuple #[.int .i64 (Lib.atoiSat s.data.toList), .iface 320 (.pointer (some ⟨N,0,none⟩))])/\w.heap.size<=N/\w'.heap[N]? =some (.cells #[.string ⟨#[65,116,111,105]⟩, .string s,ev] 352 (0,0))/\Below w.heap.size w w':=Any.strconv_Atoi_range Tryz.sR s hlim h ev w hv hev
def Tryz.yJ:Go.Shelf.Ren:=⟨fun|145=>109|220=>171|219=>225|217=>265|225=>266|224=>267|267=>268|266=>284|314=>285|n=>n,fun|9=>9|4=>4|59=>194|3=>3|5=>5|46=>172|146=>363|51=>226|n=>n,fun|1=>2|n=>n⟩
theorem Tryz.LR:Go.Proofs.Lays.n145 Tryz.prog Tryz.yJ:= {
 mixed:=by kernel_rfl
 f145:=Tryz.func109.trans (congrArg some (by kernel_rfl))
 f217:=Tryz.func265.trans (congrArg some (by kernel_rfl))
 f219:=Tryz.func225.trans (congrArg some (by kernel_rfl))
 f220:=Tryz.func171.trans (congrArg some (by kernel_rfl))
 f224:=Tryz.func267.trans (congrArg some (by kernel_rfl))
 f225:=Tryz.func266.trans (congrArg some (by kernel_rfl))
 f266:=Tryz.func284.trans (congrArg some (by kernel_rfl))
 f267:=Tryz.func268.trans (congrArg some (by kernel_rfl))
 f314:=Tryz.func285.trans (congrArg some (by kernel_rfl))
 t3:=Tryz.underlying3
 a3:=Tryz.isAgg3
 z3:=Tryz.sizeOf3
 v3:=Tryz.zeroValue3
 t4:=Tryz.underlying4
 a4:=Tryz.isAgg4
 z4:=Tryz.sizeOf4
 v4:=Tryz.zeroValue4
 t5:=Tryz.underlying5
 a5:=Tryz.isAgg5
 z5:=Tryz.sizeOf5
 v5:=Tryz.zeroValue5
 t9:=Tryz.underlying9
 a9:=Tryz.isAgg9
 z9:=Tryz.sizeOf9
 v9:=Tryz.zeroValue9
 t46:=Tryz.underlying172
 a46:=Tryz.isAgg172
 z46:=Tryz.sizeOf172
 v46:=Tryz.zeroValue172
 t51:=Tryz.underlying226
 a51:=Tryz.isAgg226
 z51:=Tryz.sizeOf226
 v51:=Tryz.zeroValue226
 t59:=Tryz.underlying194
 a59:=Tryz.isAgg194
 z59:=Tryz.sizeOf194
 v59:=Tryz.zeroValue194
 t146:=Tryz.underlying363
 a146:=Tryz.isAgg363
 z146:=Tryz.sizeOf363
 v146:=Tryz.zeroValue363
 g1:=by kernel_rfl}
open Go.RowKit Go.Lib in
theorem Tryz.strings_Cut(s sep:ByteArray)(m:Int)(w:World)(hs:s.size<4294967281)(hm:w.cell? ⟨2,0,none⟩=some (.int .i64 m)):
  Calls Tryz.prog 109 #[.string s, .string sep] w λe w'=>e= .returned (.tuple #[.string ⟨(Lib.cut s.data.toList sep.data.toList).1.toArray⟩, .string ⟨(Lib.cut s.data.toList sep.data.toList).2.1.toArray⟩, .bool (Lib.cut s.data.toList sep.data.toList).2.2])/\∃n,w'=w.drewN n:=Any.strings_Cut Tryz.LR s sep m w hs hm
end Go.Proofs
namespace Go.Proofs.YtkmbmfengcdmoaaGreatDoor
open Go.RowKit Go.ay Go.Shelf Go.Pa Go.Rf
attribute [local go_sem] Oper.semAt_some

def Df(v:Value):Prop:=v= .nilIface\/∃te pe,v= .iface te pe
structure gK (w:World):Prop where
 m:∃m,w.cell? ⟨2,0,none⟩=some (.int .i64 m)
 s:∃v,w.cell? ⟨3,0,none⟩=some v/\Df v
 r:∃v,w.cell? ⟨4,0,none⟩=some v/\Df v
theorem gv{w:World}{a:Addr}{v:Value}(h:w.cell? a=some v):a.block<w.heap.size:=by
 rcases PQ a.block w.heap.size with h'|h'
 ·exact h'
 ·unfold World.cell? at h;rw[Array.getElem?_eq_none h']at h;simp at h
theorem lN{w w':World}{B:Nat}{a:Addr}{v:Value}(h:w.cell? a=some v)(hb:Below B w w')(hB:a.block<B):w'.cell? a=some v:=by rw[World.cell?_of_block (hb.block a.block hB)];exact h
def LJ(B:Nat):Prop:=2<B/\3<B/\4<B
theorem gK.lt{w:World}(h:gK w):LJ w.heap.size:=by obtain⟨⟨m,h1⟩,⟨v,h2,_⟩,⟨u,h3,_⟩⟩:=h;exact⟨gv h1,gv h2,gv h3⟩
theorem gK.toK{w w':World}{B:Nat}(h:gK w)(hb:Below B w w')(hB:LJ B):gK w':=by obtain⟨⟨m,h1⟩,⟨v,h2,h2'⟩,⟨u,h3,h3'⟩⟩:=h;exact⟨⟨m,lN h1 hb hB.1⟩,⟨v,lN h2 hb hB.2.1,h2'⟩,⟨u,lN h3 hb hB.2.2,h3'⟩⟩
theorem gK.below{w w':World}{B:Nat}(h:gK w)(hb:Below B w w')(hB:w.heap.size<=B):gK w':=
 h.toK hb ⟨nX h.lt.1 hB,nX h.lt.2.1 hB,nX h.lt.2.2 hB⟩
abbrev Pc:= {l:List UInt8 // l.length<4294967281}
def nb(l:List Pc):List (List UInt8):=l.map (·.1)
theorem mS(l:List Pc)(p:List UInt8)(hp:p.length<4294967281):nb (l++ [⟨p,hp⟩])=nb l++ [p]:=by simp[nb]
abbrev Ly (x:Pc):Array Value:= #[.string ⟨x.1.toArray⟩]
theorem Ct(l:List UInt8)(w:World)(hl:l.length<4294967281)(hE:gK w):
  Calls Tryz.prog 109 #[.string ⟨l.toArray⟩, .string ⟨#[32]⟩] w λe w'=>e= .returned (.tuple #[.string ⟨(Lib.cut l [32]).1.toArray⟩, .string ⟨(Lib.cut l [32]).2.1.toArray⟩, .bool (Lib.cut l [32]).2.2])/\Below w.heap.size w w':=by
 obtain⟨m,hm⟩:=hE.m;refine(Tryz.strings_Cut ⟨l.toArray⟩ ⟨#[32]⟩ m w (by show l.toArray.size<_;simpa using hl) hm).mono ?_;rintro e w' ⟨rfl,n,rfl⟩;exact⟨rfl,gj _ _⟩
def I6(r m:Value):Nat:=match r,m with
 | .string s, .bool true=>1+s.size
 |_,_=>0
set_option maxHeartbeats 1000000 in
theorem Gz(n:Nat)(hn:1<=n)(l Bn n0:Nat)(hg:LJ n0)(t:List UInt8)(ht:t.length<4294967281)(J Jx:List Pc->World->Prop)(B:Nat)(hJ:AbidesFrom B J)
  (hY:∀pre x W,J pre W->pre.length<(jz t).length->YieldAt Fence.wide (n-1) Tryz.prog l (Ly x) W λe W'=>
   (e= .returned (.bool true)/\J (pre++ [x]) W'/\Below n0 W W')\/(e= .returned (.bool false)/\Jx (pre++ [x]) W'))
  (W:World) (hBn:W.cell? ⟨Bn,0,none⟩=some (.string ⟨t.toArray⟩)) (hE:gK W) (h0:J [] W):
  CallsIn Fence.wide n Tryz.prog 187 #[.func (.yield l) #[] #[], .pointer (some ⟨Bn,0,none⟩)] W λe W'=>(∃v,e= .returned v)/\
   ((∃ys:List Pc,nb ys=jz t/\J ys W')\/(∃pre:List Pc,nb pre <+:jz t/\Jx pre W')):=by
 have HE:=h_ hE;have H0:=h_ h0;have HY:=h_ hY;clear hE h0 hY;refine callsIn_of_wp Tryz.func187 rfl trivial ?_ rfl;simp only[Tryz.ntmps187,tY,kq,qA,Nat.reduceAdd,Nat.reduceSub,M0,MZ,M7,M6,xK,xC]
 gi_wp2
 clear hBn
 gi_loopw [3,4] (λr m wr=> ∃(pre:List Pc) (q:List UInt8) (b:Bool),r= .string ⟨q.toArray⟩/\m= .bool b/\q.length<4294967281/\gK wr/\J pre wr/\(b=true->nb pre++jz q=jz t)/\(b=false->nb pre=jz t))
  (λr m _=>I6 r m)
 case atStart=>
  exact⟨[],t,true,rfl,rfl,ht,HE.out,H0.out,λ_=>rfl,λe=>by cases e⟩
 case round=>
  clear HE H0;obtain⟨pre,q,b,rfl,rfl,hq,hE,hJs,hb1,hb2⟩:=hrel;cases b with
  |false=>
   have e:=h_ (hb2 rfl);have HJ:=h_ hJs;clear hb1 hb2 hE hJs
   gi_wp2
   go_end0
   exact⟨⟨_,rfl⟩, .inl ⟨pre,e.out,HJ.out⟩⟩
  |true=>
   have e:=h_ (hb1 rfl);have HE:=h_ hE;have HJ:=h_ hJs;have HC:=h_ (λw hE=>Ct q w hq hE);clear hb1 hb2 hE hJs;obtain⟨p,r,m,hc,hw,hp,hr,hlen,hlt⟩:∃(p r:List UInt8) (m:Bool),Lib.cut q [32]=(p,r,m)/\jz q=p::(if m then jz r else [])/\p.length<4294967281/\r.length<4294967281/\(pre.length<(jz t).length)/\(m=true->r.length<q.length):=by
    rcases El q with⟨h1,h2⟩|⟨p,r,h1,h2,h3,h4⟩
    ·exact⟨q,[],false,h1,h2,hq,by simp,by rw[<-e.out,h2];simp[nb],λe=>by cases e⟩
    ·exact⟨p,r,true,h1,h2,by omega,by omega,by rw[<-e.out,h2];simp[nb],λ_=>h3⟩
   rw[hc]at HC;have HW:=h_ hw;clear hw hc
   gi_wp2
   refine⟨trivial, ?_⟩;refine(callsIn_wide.2 (HC.out _ HE.out)).mono ?_;rintro e2 w2 ⟨rfl,hb⟩;have HJ2:=h_ (r8 hJ HJ.out hb);have HE2:=h_ (HE.out.below hb (aL _));obtain⟨fn,tmps,assign,body,hy,hR⟩:=HY.out pre ⟨p,hp⟩ w2 HJ2.out hlen;dsimp only[Ly]at hy;have HR:=h_ hR;clear hR hb HC HE HJ HJ2
   gi_wp2
   refine HR.out.mono ?_;rintro e3 w3 (⟨rfl,hJ3,hk3⟩|⟨rfl,hJx3⟩)
   ·have HE3:=h_ (HE2.out.toK hk3 hg);have HJ3:=h_ hJ3;have E3:Hid ((m=true->nb (pre++ [⟨p,hp⟩])++jz r=jz t)/\(m=false->nb (pre++ [⟨p,hp⟩])=jz t)):=by
     refine⟨λem=> ?_,λem=> ?_⟩
     ·rw[mS, <-e.out,HW.out,em];simp
     ·rw[mS, <-e.out,HW.out,em];simp
    have HL:Hid (m=true->r.length<q.length):=hlt;clear hk3 hJ3 HR e HW hlt hlen HE2
    gi_wp2
    go_roundw
    case rel=>exact⟨pre++ [⟨p,hp⟩],r,m,rfl,rfl,hr,HE3.out,HJ3.out,E3.out.1,E3.out.2⟩
    case measure=>
     have:=HL.out;cases m with
     |true=>have:=this rfl;simp[I6,ByteArray.size];omega
     |false=>simp[I6];omega
   ·have HX:Hid (nb (pre++ [⟨p,hp⟩]) <+:jz t):=by rw[mS, <-e.out,HW.out];exact⟨if m=true then jz r else [],by simp⟩
    have HJX:=h_ hJx3;clear hJx3 HR e HW hlt hlen HE2
    gi_wp2
    refine bodyPost_ret (results_none rfl _ _ _) rfl ?_;exact⟨⟨_,rfl⟩, .inr ⟨pre++ [⟨p,hp⟩],HX.out,HJX.out⟩⟩
set_option maxHeartbeats 1000000 in
theorem AK(t:ByteArray)(w:World):
  Calls Tryz.prog 125 #[.string t] w λe w'=>e= .returned (.func (.func 187) #[] #[.pointer (some ⟨w.heap.size,0,none⟩)])/\w'=w.alloc (.cells #[.string t] 9):=by
 go_enter Tryz.func125,Tryz.ntmps125;go_wp2_with fail;go_ret;exact⟨rfl,rfl⟩
theorem zQ(n:Nat)(hn:1<=n)(Bn n0:Nat)(t:List UInt8)(ht:t.length<4294967281)(w:World)(hBn:Bn<w.heap.size)(hg:LJ n0)
  (hc:w.cell? ⟨Bn,0,none⟩=some (.string ⟨t.toArray⟩)) (hE:gK w):
  SeqStopsK Fence.wide n Tryz.prog 187 #[.pointer (some ⟨Bn,0,none⟩)] Ly (Below n0) (λys=>nb ys=jz t) (λpre=>nb pre <+:jz t) (jz t).length w:=λl J Jx W hW hJ _ hY h0=>
 Gz n hn l Bn n0 hg t ht J Jx _ hJ hY W (lN hc hW hBn) (hE.below hW (aL _)) h0
end Go.Proofs.YtkmbmfengcdmoaaGreatDoor
