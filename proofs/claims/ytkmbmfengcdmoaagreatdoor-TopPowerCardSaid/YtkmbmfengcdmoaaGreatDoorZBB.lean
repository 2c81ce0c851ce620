/- Package file: the words of a text, as an iterator. Condition: the library's variable MaxLen holds an integer. -/
import Derived.Test.YtkmbmfengcdmoaaGreatDoorZAS
import Derived.Test.YtkmbmfengcdmoaaGreatDoorZAA
import Derived.Lib.IndexMore
import Derived.Lib.IndexBytes
import Derived.Lib.CutLaws
import Derived.Lib.AtoiAll
import Derived.Lib.AtoiAllCases
import Derived.Shelf.Strings.Builder1
import Derived.Shelf.Strings.Builder2
import Derived.Shelf.Small.Bits
import Derived.Shelf.Small.Strs
import Derived.Shelf.Strings.BuilderF
import Derived.Shelf.Strings.BuilderK
import Derived.Shelf.Strconv.Atoi
import Derived.Shelf.Strconv.Itoa0
import Derived.Shelf.Strconv.Itoa1
import Derived.Shelf.LaysM
import Derived.Shelf.Strconv.Itoa2
import Derived.Shelf.Strconv.Itoa3
import Derived.Shelf.Strconv.AtoiErrFast
import Derived.Shelf.Strconv.ParseIntEmpty
import Derived.Shelf.Strconv.AtoiFail
import Derived.Shelf.Strconv.Clone
import Derived.Shelf.Strconv.SyntaxError
import Derived.Shelf.LaysC
import Derived.Shelf.Strconv.ToError
import Derived.Shelf.Strconv.Lower
import Derived.Shelf.Strconv.ParseUint10
import Derived.Shelf.Strconv.ParseUint10Empty
import Derived.Shelf.Strconv.ParseUint10Any
import Derived.Shelf.Strconv.ParseInt10
import Derived.Shelf.Strconv.AtoiLong
import Derived.Shelf.Strconv.AtoiInnerAll
import Derived.Shelf.Strconv.RangeError
import Derived.Shelf.Strconv.ToErrorRange
import Derived.Shelf.Strconv.AtoiAll
import Derived.Shelf.Strconv.ErrVarAll
import Derived.Shelf.Strings.Search1
import Derived.Shelf.Strings.Search2
import Derived.Shelf.Strings.Cut
import Derived.Shelf.Strings.Shaped
import Derived.Shelf.Strconv.AppendUint10
import Derived.Shelf.Strconv.AppendInt10
import Derived.Shelf.Strconv.AppendIntPublic10
import Derived.Shelf.Strings.Prefix
import Derived.Shelf.Bits.Mul64
import Derived.Shelf.Strings.Repeat
import Derived.Ground.Names2Prog
import Derived.Shelf.Slices.Clone
import Derived.Ground.SlgnProg
import Derived.Shelf.SlicesE.Clone
import Derived.Ground.SlgfProg
import Derived.Shelf.SlicesE.IndexFunc
import Derived.Ground.SlsfProg
import Derived.Shelf.SlSortCmp.Insertion
import Derived.Test.YtkmbmfengcdmoaaGreatDoorProg
import Derived.Test.YtkmbmfengcdmoaaGreatDoorZAW
set_option linter.all false
set_option maxRecDepth 100000
namespace Go.Pa
open Go

theorem jf(n:Int):(∃u:Nat,n=(u:Int))\/∃u:Nat,1<=u/\n= -(u:Int):=by
 by_cases h:0<=n
 ·exact .inl ⟨n.toNat,by omega⟩
 ·exact .inr ⟨(-n).toNat,by omega,by omega⟩
theorem cN(n:Int):(32:UInt8)∉Lib.itoa n:=by
 intro h;rcases jf n with⟨u,rfl⟩|⟨u,a,rfl⟩
 ·rw[Lib.itoa_nonneg]at h;exact absurd ((jV u).2.1 32 h).1 (by decide)
 ·rw[Lib.itoa_neg u a]at h;rcases lC.1 h with h|h
  ·exact absurd h (by decide)
  ·exact absurd ((jV u).2.1 32 h).1 (by decide)
theorem Iz(l:List UInt8):∀a:Nat,a<=l.foldl (λa d=>a*10+(d.toNat-48)) a:=by
 induction l with
 |nil=>exact λa=>aL a
 |cons d l ih=>intro a;exact fO (show a<=a*10+(d.toNat-48) by omega) (ih _)
theorem tn:∀(l:List UInt8) (a:Nat),(∀b∈l,48<=b.toNat/\b.toNat<=57)->l.foldl (λa d=>a*10+(d.toNat-48)) a<18446744073709551616->Lib.parseUint10 a l= .ok (l.foldl (λa d=>a*10+(d.toNat-48)) a)
 | [],a,_,_=>rfl
 |c::r,a,h,hs=>by
  have j:=h c (by simp);have e:r.foldl (λa d=>a*10+(d.toNat-48)) (a*10+(c.toNat-48))<18446744073709551616:=hs;have k:=Iz r (a*10+(c.toNat-48));have f: ¬18446744073709551616<=a*10+(c.toNat-48):=by omega
  have g: ¬1844674407370955162<=a:=by omega
  unfold Lib.parseUint10;rw[if_pos j,if_neg g,if_neg f];exact tn r _ (λb i=>h b (by simp[i])) e
theorem yL(u:Nat)(h:u<18446744073709551616):Lib.parseMag (Lib.decDigits u)= .ok u:=by obtain⟨a,b,c⟩:=jV u;unfold Lib.parseMag;rw[if_neg c,tn _ 0 b (by show rp _<_;rw[a];exact h)];show Lib.NumEnd.ok (rp _)=_;rw[a]
theorem uJ(n:Int)(e: -9223372036854775808<=n)(f:n<=9223372036854775807):Lib.atoiAll (Lib.itoa n)= .ok n:=by
 rcases jf n with⟨u,rfl⟩|⟨u,d,rfl⟩
 ·rw[Lib.itoa_nonneg];have hm:=yL u (by omega);obtain⟨_,a,b⟩:=jV u;cases hd:Lib.decDigits u with
  |nil=>exact absurd hd b
  |cons c r=>rw[hd]at hm a;have g:=a c (by simp);unfold Lib.atoiAll;simp only;rw[if_neg (by omega),hm];simp only;rw[if_neg (by omega),if_neg (by omega),if_neg (by omega)]
 ·rw[Lib.itoa_neg u d];have hm:=yL u (by omega);unfold Lib.atoiAll;simp only;rw[if_pos (by decide),hm];simp only;rw[if_neg (by simp),if_neg (by omega),if_pos (by decide)]
def jz:List UInt8->List (List UInt8)
 | []=> [[]]
 |c::r=>if c=32 then []::jz r else match jz r with
  | []=> [[c]]
  |p::ps=>(c::p)::ps
theorem mv:∀(p:List UInt8),(32:UInt8)∉p->jz p= [p]
 | [],_=>rfl
 |c::r,h=>by
  have a:c≠32:=λe=>h (by simp[e])
  unfold jz;rw[if_neg a,mv r (λe=>h (by simp[e]))]
theorem rU:∀(p r:List UInt8),(32:UInt8)∉p->jz (p++32::r)=p::jz r
 | [],r,_=>by rw[xK,jz,if_pos rfl]
 |c::p,r,h=>by
  have a:c≠32:=λe=>h (by simp[e])
  rw[xC,jz,if_neg a,rU p r (λe=>h (by simp[e]))]
theorem qi:∀l:List UInt8,(Lib.index l [32]= -1/\(32:UInt8)∉l)\/∃p r:List UInt8,l=p++32::r/\(32:UInt8)∉p/\Lib.index l [32]=p.length
 | []=> .inl ⟨rfl,by simp⟩
 |c::l=>by
  by_cases a:c=32
  ·subst a;exact .inr ⟨[],l,rfl,by simp,by simp[Lib.index]⟩
  ·have f:([32]:List UInt8).isPrefixOf (c::l)=false:=by simp only[List.isPrefixOf,Bool.and_true];simpa using λe=>a e.symm
   rcases qi l with⟨b,d⟩|⟨p,r,b,d,g⟩
   ·refine .inl ⟨?_, ?_⟩
    ·rw[Lib.index,f,b];rfl
    ·intro h;rcases lC.1 h with h|h
     ·exact a h.symm
     ·exact d h
   ·refine .inr ⟨c::p,r,by rw[b];rfl, ?_, ?_⟩
    ·intro h;rcases lC.1 h with h|h
     ·exact a h.symm
     ·exact d h
    ·rw[Lib.index,f,g]
     have:((p.length:Int)== -1)=false:=R7.2 (by omega);simp only[GA,B6,this];simp
theorem El(l:List UInt8):(Lib.cut l [32]=(l,[],false)/\jz l= [l])\/∃p r:List UInt8,Lib.cut l [32]=(p,r,true)/\jz l=p::jz r/\r.length<l.length/\p.length<=l.length:=by
 rcases qi l with⟨a,b⟩|⟨p,r,a,b,d⟩
 ·refine .inl ⟨?_,mv l b⟩;unfold Lib.cut;rw[a];rfl
 ·refine .inr ⟨p,r, ?_,by rw[a];exact rU p r b,by rw[a];simp;omega,by rw[a];simp⟩;unfold Lib.cut;rw[d,if_pos (by omega)];have c:((p.length:Int)).toNat=p.length:=by omega
  rw[c,a];simp
def iX(s:Option (Bool×List Int))(x:List UInt8):Option (Bool×List Int):=match s with
 |none=>none
 |some (true,_)=>if x= [102,97,99,116]then some (false,[])else none
 |some (false,ns)=>match Lib.atoiAll x with
  | .ok v=>if ns.length=6 then none else some (false,ns++ [v])
  |_=>none
def oZ(pre:List (List UInt8)):Option (Bool×List Int):=pre.foldl iX (some (true,[]))
theorem vD(a:List (List UInt8))(x:List UInt8):oZ (a++ [x])=iX (oZ a) x:=by simp[oZ]
theorem Gd(l:List (List UInt8)):l.foldl iX none=none:=by
 induction l with
 |nil=>rfl
 |cons x l ih=>exact ih
theorem zo{a b:List (List UInt8)}(h:a <+:b)(d:oZ a=none):oZ b=none:=by obtain⟨c,rfl⟩:=h;unfold oZ at*;rw[PA,d,Gd]
theorem Dy:∀(l:List (List UInt8)) (s:Option (Bool×List Int)),(∀f b,s=some (f,b)->(f=true->b= [])/\b.length<=6/\∀v∈b, -9223372036854775808<=v/\v<=9223372036854775807)->
  ∀f b,l.foldl iX s=some (f,b)->(f=true->b= [])/\b.length<=6/\∀v∈b, -9223372036854775808<=v/\v<=9223372036854775807
 | [],s,h,f,b,e=>h f b e
 |x::l,s,h,f,b,e=>by
  refine Dy l (iX s x) ?_ f b e;intro g n a;cases s with
  |none=>cases a
  |some p=>
   obtain⟨d,j⟩:=p;obtain⟨k,m,i⟩:=h d j rfl;cases d with
   |true=>
    unfold iX at a;simp only at a;split at a
    ·cases a;exact⟨(λe=>by cases e),by simp,by simp⟩
    ·cases a
   |false=>
    unfold iX at a;simp only at a;split at a
    ·rename_i v hv;split at a
     ·cases a
     ·cases a
      refine⟨(λe=>by cases e),by simp;omega, ?_⟩;intro u c;rcases zT.1 c with c|c
      ·exact i u c
      ·rw[vU]at c;subst c;exact Lib.atoiAll_bounds hv
    ·cases a
theorem tF{b:List (List UInt8)}{f:Bool}{a:List Int}(h:oZ b=some (f,a)):(f=true->a= [])/\a.length<=6/\∀v∈a, -9223372036854775808<=v/\v<=9223372036854775807:=
 Dy b _ (λf a e=>by cases e;exact⟨λ_=>rfl,by simp,by simp⟩) f a h
end Go.Pa
namespace Go.Proofs.YtkmbmfengcdmoaaGreatDoor
open Go.Pa
theorem MY(x:ei)(k:Nat)(r:List UInt8):jz ((pE x k).data.toList++32::r)=jz (pE x k).data.toList++jz r:=by
 suffices h:∀k,∃q p:List UInt8,(32:UInt8)∉p/\(pE x k).data.toList=q++p/\∀s,jz (q++s)=(jz (pE x k).data.toList).dropLast++jz s by
  obtain⟨q,p,a,e,b⟩:=h k;rw[e,List.append_assoc,b,b,rU p r a,mv p a];simp
 intro k;induction k with
 |zero=>exact⟨[],[102,97,99,116],by decide,rfl,λs=>rfl⟩
 |succ k ih=>
  obtain⟨q,p,a,e,b⟩:=ih;have c:(pE x (k+1)).data.toList=(q++p++ [32])++Lib.itoa (l8 x k):=by show(pE x k++(⟨#[32]⟩++dec (l8 x k))).data.toList=_;rw[R6,R6,R8,R8,e];simp[dec]
  refine⟨q++p++ [32],Lib.itoa (l8 x k),cN _,c,λs=> ?_⟩;have d:∀t,jz (q++p++ [32]++t)=(jz (pE x k).data.toList).dropLast++(p::jz t):=by intro t;rw[List.append_assoc,List.append_assoc,b];show _++jz (p++32::t)=_;rw[rU p t a]
  rw[c,d,d,mv _ (cN _)];rw[List.dropLast_append_of_ne_nil (by simp)];simp
theorem xu(x:ei)(k:Nat):jz (pE x (k+1)).data.toList=jz (pE x k).data.toList++ [Lib.itoa (l8 x k)]:=by
 have a:(pE x (k+1)).data.toList=(pE x k).data.toList++32::Lib.itoa (l8 x k):=by show(pE x k++(⟨#[32]⟩++dec (l8 x k))).data.toList=_;rw[R6,R6,R8,R8];simp[dec]
 rw[a,MY,mv _ (cN _)]
theorem DE{x:ei}(h:x.Ok):∀k,k<=6->oZ (jz (pE x k).data.toList)=some (false,(List.range k).map (l8 x))
 |0,_=>rfl
 |k+1,hk=>by
  rw[xu,vD,DE h k (by omega)];unfold iX;simp only;rw[uJ _ (oM h k).1 (oM h k).2];simp only;rw[if_neg (by simp;omega),RX,uE];rfl
theorem o6{x:ei}(h:x.Ok):oZ (jz (iT x).data.toList)=some (false,[x.ref,x.act,x.low,x.high,x.cJ,Bt x.secret]):=DE h 6 (aL _)
def QE(a b c d e f:Int):ei:=⟨a,b,c,d,e,decide (f=1)⟩
theorem nC(x:ei):QE x.ref x.act x.low x.high x.cJ (Bt x.secret)=x:=by
 cases x with
 |mk a b c d e f=>cases f<;>rfl
theorem La{x y:ei}(g:x.Ok)(i:y.Ok)(h:iT x=iT y):x=y:=by have a:=o6 g;rw[h,o6 i]at a;simp only[NS,NO,true_and,List.cons.injEq,and_true]at a;obtain⟨a,b,c,d,e,f⟩:=a;rw[<-nC x, <-nC y,a,b,c,d,e,f]
end Go.Proofs.YtkmbmfengcdmoaaGreatDoor
namespace Go.Proofs
open Go.Shelf
def Tryz.wI:Go.Shelf.Ren:=⟨fun|172=>110|244=>172|245=>173|247=>226|279=>227|280=>228|281=>229|282=>230|287=>269|316=>270|171=>59|205=>271|321=>286|322=>287|243=>94|246=>140|283=>203|284=>204|285=>205|286=>206|129=>137|317=>242|318=>243|319=>244|320=>245|337=>275|338=>276|n=>n,fun|9=>9|3=>3|75=>121|76=>122|4=>4|5=>5|167=>317|37=>117|0=>0|85=>318|2=>2|168=>320|53=>228|175=>349|46=>172|210=>352|127=>174|145=>371|143=>369|21=>21|171=>295|173=>297|212=>334|51=>226|20=>20|213=>335|232=>201|233=>372|80=>127|n=>n,fun|15=>3|16=>4|17=>1|18=>5|19=>6|n=>n⟩
theorem Tryz.sR:Go.Proofs.LaysC.n172 Tryz.prog Tryz.wI:=by repeat' first|kernel_rfl|decide|intro _|constructor
open Go.RowKit in
theorem Tryz.strconv_Atoi_ok(s:ByteArray)(a:s.size<=9223372036854775806)(v:Int)(h:Lib.atoiAll s.data.toList= .ok v)(w:World):
  Calls Tryz.prog 110 #[.string s] w λe w'=>e= .returned (.tuple #[.int .i64 v, .nilIface])/\(w'=w\/∃t,w'=Lib.bytesWorld w 5 t):=Any.strconv_Atoi_ok Tryz.sR s a v h w
open Go.RowKit in
theorem Tryz.strconv_Atoi_syntax(s:ByteArray)(b:s.size<=281474976710656)(h:Lib.atoiAll s.data.toList=Lib.NumEnd.syntax)(a:Value)(w:World)(hv:w.cell? ⟨3,0,none⟩=some a)(c:a= .nilIface\/∃f d,a= .iface f d):
  Calls Tryz.prog 110 #[.string s] w λe w'=> ∃N,e= .returned (.tuple #[.int .i64 (0), .iface 320 (.pointer (some ⟨N,0,none⟩))])/\w.heap.size<=N/\w'.heap[N]? =some (.cells #[.string ⟨#[65,116,111,105]⟩, .string s,a] 352 (0,0))/\Below w.heap.size w w':=Any.strconv_Atoi_syntax Tryz.sR s b h a w hv c
open Go.RowKit in
theorem Tryz.strconv_Atoi_range(s:ByteArray)(b:s.size<=281474976710656)(h:Lib.atoiAll s.data.toList= .range)(a:Value)(w:World)(hv:w.cell? ⟨4,0,none⟩=some a)(c:a= .nilIface\/∃f d,a= .iface f d):
  Calls Tryz.prog 110 #[.string s] w λe w'=> ∃N,e= .returned (.tuple #[.int .i64 (Lib.atoiSat s.data.toList), .iface 320 (.pointer (some ⟨N,0,none⟩))])/\w.heap.size<=N/\w'.heap[N]? =some (.cells #[.string ⟨#[65,116,111,105]⟩, .string s,a] 352 (0,0))/\Below w.heap.size w w':=Any.strconv_Atoi_range Tryz.sR s b h a w hv c
def Tryz.yJ:Go.Shelf.Ren:=⟨fun|145=>109|220=>171|219=>225|217=>265|225=>266|224=>267|267=>268|266=>284|314=>285|n=>n,fun|9=>9|4=>4|59=>194|3=>3|5=>5|46=>172|146=>363|51=>226|n=>n,fun|1=>2|n=>n⟩
theorem Tryz.LR:Go.Proofs.Lays.n145 Tryz.prog Tryz.yJ:=by repeat' first|kernel_rfl|decide|intro _|constructor
open Go.RowKit Go.Lib in
theorem Tryz.strings_Cut(s a:ByteArray)(m:Int)(w:World)(b:s.size<4294967281)(hm:w.cell? ⟨2,0,none⟩=some (.int .i64 m)):
  Calls Tryz.prog 109 #[.string s, .string a] w λe w'=>e= .returned (.tuple #[.string ⟨(Lib.cut s.data.toList a.data.toList).1.toArray⟩, .string ⟨(Lib.cut s.data.toList a.data.toList).2.1.toArray⟩, .bool (Lib.cut s.data.toList a.data.toList).2.2])/\∃n,w'=w.drewN n:=Any.strings_Cut Tryz.LR s a m w b hm
end Go.Proofs
namespace Go.Proofs.YtkmbmfengcdmoaaGreatDoor
open Go.RowKit Go.ay Go.Shelf Go.Pa Go.Rf
attribute [local go_sem] Oper.semAt_some

def Df(v:Value):Prop:=v= .nilIface\/∃te pe,v= .iface te pe
structure gK (w:World):Prop where
 m:∃m,w.cell? ⟨2,0,none⟩=some (.int .i64 m)
 s:∃v,w.cell? ⟨3,0,none⟩=some v/\Df v
 r:∃v,w.cell? ⟨4,0,none⟩=some v/\Df v
theorem gv{w:World}{a:Addr}{v:Value}(h:w.cell? a=some v):a.block<w.heap.size:=by
 rcases PQ a.block w.heap.size with b|b
 ·exact b
 ·unfold World.cell? at h;rw[Array.getElem?_eq_none b]at h;simp at h
theorem lN{w w':World}{B:Nat}{a:Addr}{v:Value}(h:w.cell? a=some v)(c:Below B w w')(b:a.block<B):w'.cell? a=some v:=by rw[World.cell?_of_block (c.block a.block b)];exact h
def LJ(B:Nat):Prop:=2<B/\3<B/\4<B
theorem gK.lt{w:World}(h:gK w):LJ w.heap.size:=by obtain⟨⟨m,a⟩,⟨v,b,_⟩,⟨u,c,_⟩⟩:=h;exact⟨gv a,gv b,gv c⟩
theorem gK.toK{w w':World}{B:Nat}(h:gK w)(d:Below B w w')(c:LJ B):gK w':=by obtain⟨⟨m,e⟩,⟨v,f,a⟩,⟨u,g,b⟩⟩:=h;exact⟨⟨m,lN e d c.1⟩,⟨v,lN f d c.2.1,a⟩,⟨u,lN g d c.2.2,b⟩⟩
theorem gK.below{w w':World}{B:Nat}(h:gK w)(b:Below B w w')(a:w.heap.size<=B):gK w':=
 h.toK b ⟨nX h.lt.1 a,nX h.lt.2.1 a,nX h.lt.2.2 a⟩
abbrev Pc:= {l:List UInt8 // l.length<4294967281}
def nb(l:List Pc):List (List UInt8):=l.map (·.1)
theorem mS(l:List Pc)(p:List UInt8)(a:p.length<4294967281):nb (l++ [⟨p,a⟩])=nb l++ [p]:=by simp[nb]
abbrev Ly (x:Pc):Array Value:= #[.string ⟨x.1.toArray⟩]
theorem Ct(l:List UInt8)(w:World)(b:l.length<4294967281)(a:gK w):
  Calls Tryz.prog 109 #[.string ⟨l.toArray⟩, .string ⟨#[32]⟩] w λe w'=>e= .returned (.tuple #[.string ⟨(Lib.cut l [32]).1.toArray⟩, .string ⟨(Lib.cut l [32]).2.1.toArray⟩, .bool (Lib.cut l [32]).2.2])/\Below w.heap.size w w':=by
 obtain⟨m,hm⟩:=a.m;refine(Tryz.strings_Cut ⟨l.toArray⟩ ⟨#[32]⟩ m w (by show l.toArray.size<_;simpa using b) hm).mono ?_;rintro e w' ⟨rfl,n,rfl⟩;exact⟨rfl,gj _ _⟩
def I6(r m:Value):Nat:=match r,m with
 | .string s, .bool true=>1+s.size
 |_,_=>0
set_option maxHeartbeats 1000000 in
theorem Gz(n:Nat)(hn:1<=n)(l L n0:Nat)(hg:LJ n0)(t:List UInt8)(ht:t.length<4294967281)(J N:List Pc->World->Prop)(B:Nat)(hJ:AbidesFrom B J)
  (R:∀a x W,J a W->a.length<(jz t).length->YieldAt Fence.wide (n-1) Tryz.prog l (Ly x) W λe o=>
   (e= .returned (.bool true)/\J (a++ [x]) o/\Below n0 W o)\/(e= .returned (.bool false)/\N (a++ [x]) o))
  (W:World) (I:W.cell? ⟨L,0,none⟩=some (.string ⟨t.toArray⟩)) (f:gK W) (P:J [] W):
  CallsIn Fence.wide n Tryz.prog 187 #[.func (.yield l) #[] #[], .pointer (some ⟨L,0,none⟩)] W λe o=>(∃v,e= .returned v)/\
   ((∃V:List Pc,nb V=jz t/\J V o)\/(∃a:List Pc,nb a <+:jz t/\N a o)):=by
 have k:=h_ f;have H0:=h_ P;have Z:=h_ R;clear f P R;refine callsIn_of_wp Tryz.func187 rfl trivial ?_ rfl;simp only[Tryz.ntmps187,tY,kq,qA,Nat.reduceAdd,Nat.reduceSub,M0,MZ,M7,M6,xK,xC]
 gi_wp2
 clear I
 gi_loopw [3,4] (λr m wr=> ∃(a:List Pc) (q:List UInt8) (b:Bool),r= .string ⟨q.toArray⟩/\m= .bool b/\q.length<4294967281/\gK wr/\J a wr/\(b=true->nb a++jz q=jz t)/\(b=false->nb a=jz t))
  (λr m _=>I6 r m)
 case atStart=>
  exact⟨[],t,true,rfl,rfl,ht,k.out,H0.out,λ_=>rfl,λe=>by cases e⟩
 case round=>
  clear k H0;obtain⟨a,q,b,rfl,rfl,T,f,d,h,i⟩:=hrel;cases b with
  |false=>
   have e:=h_ (i rfl);have A:=h_ d;clear h i f d
   gi_wp2
   go_end0
   exact⟨⟨_,rfl⟩, .inl ⟨a,e.out,A.out⟩⟩
  |true=>
   have e:=h_ (h rfl);have k:=h_ f;have A:=h_ d;have HC:=h_ (λw f=>Ct q w T f);clear h i f d;obtain⟨p,r,m,S,U,s,hr,c,j⟩:∃(p r:List UInt8) (m:Bool),Lib.cut q [32]=(p,r,m)/\jz q=p::(if m then jz r else [])/\p.length<4294967281/\r.length<4294967281/\(a.length<(jz t).length)/\(m=true->r.length<q.length):=by
    rcases El q with⟨H,z⟩|⟨p,r,H,z,h3,h4⟩
    ·exact⟨q,[],false,H,z,T,by simp,by rw[<-e.out,z];simp[nb],λe=>by cases e⟩
    ·exact⟨p,r,true,H,z,by omega,by omega,by rw[<-e.out,z];simp[nb],λ_=>h3⟩
   rw[S]at HC;have y:=h_ U;clear U S
   gi_wp2
   refine⟨trivial, ?_⟩;refine(callsIn_wide.2 (HC.out _ k.out)).mono ?_;rintro e2 w2 ⟨rfl,K⟩;have u:=h_ (r8 hJ A.out K);have g:=h_ (k.out.below K (aL _));obtain⟨fn,tmps,C,O,hy,Q⟩:=Z.out a ⟨p,s⟩ w2 u.out c;dsimp only[Ly]at hy;have HR:=h_ Q;clear Q K HC k A u
   gi_wp2
   refine HR.out.mono ?_;rintro e3 w3 (⟨rfl,hJ3,hk3⟩|⟨rfl,hJx3⟩)
   ·have D:=h_ (g.out.toK hk3 hg);have E:=h_ hJ3;have M:Hid ((m=true->nb (a++ [⟨p,s⟩])++jz r=jz t)/\(m=false->nb (a++ [⟨p,s⟩])=jz t)):=by
     refine⟨λG=> ?_,λG=> ?_⟩
     ·rw[mS, <-e.out,y.out,G];simp
     ·rw[mS, <-e.out,y.out,G];simp
    have X:Hid (m=true->r.length<q.length):=j;clear hk3 hJ3 HR e y j c g
    gi_wp2
    go_roundw
    case rel=>exact⟨a++ [⟨p,s⟩],r,m,rfl,rfl,hr,D.out,E.out,M.out.1,M.out.2⟩
    case measure=>
     have:=X.out;cases m with
     |true=>have:=this rfl;simp[I6,ByteArray.size];omega
     |false=>simp[I6];omega
   ·have Y:Hid (nb (a++ [⟨p,s⟩]) <+:jz t):=by rw[mS, <-e.out,y.out];exact⟨if m=true then jz r else [],by simp⟩
    have F:=h_ hJx3;clear hJx3 HR e y j c g
    gi_wp2
    refine bodyPost_ret (results_none rfl _ _ _) rfl ?_;exact⟨⟨_,rfl⟩, .inr ⟨a++ [⟨p,s⟩],Y.out,F.out⟩⟩
set_option maxHeartbeats 1000000 in
theorem AK(t:ByteArray)(w:World):
  Calls Tryz.prog 125 #[.string t] w λe w'=>e= .returned (.func (.func 187) #[] #[.pointer (some ⟨w.heap.size,0,none⟩)])/\w'=w.alloc (.cells #[.string t] 9):=by
 go_enter Tryz.func125,Tryz.ntmps125;go_wp2_with fail;go_ret;exact⟨rfl,rfl⟩
theorem zQ(n:Nat)(m:1<=n)(a n0:Nat)(t:List UInt8)(o:t.length<4294967281)(w:World)(b:a<w.heap.size)(k:LJ n0)
  (j:w.cell? ⟨a,0,none⟩=some (.string ⟨t.toArray⟩)) (g:gK w):
  SeqStopsK Fence.wide n Tryz.prog 187 #[.pointer (some ⟨a,0,none⟩)] Ly (Below n0) (λp=>nb p=jz t) (λc=>nb c <+:jz t) (jz t).length w:=λl J e W d h _ i f=>
 Gz n m l a n0 k t o J e _ h i W (lN j d b) (g.below d (aL _)) f
end Go.Proofs.YtkmbmfengcdmoaaGreatDoor
