/- The reference of layer 32: two files with the same facts, without orders, are the same. No condition. -/
import Derived.Test.YtkmbmfengcdmoaaGreatDoorZAK
import Derived.Test.YtkmbmfengcdmoaaGreatDoorZAI
import Derived.Test.YtkmbmfengcdmoaaGreatDoorZAL
import Derived.Test.YtkmbmfengcdmoaaGreatDoorZAP
import Derived.Test.YtkmbmfengcdmoaaGreatDoorZBM
import Derived.Test.YtkmbmfengcdmoaaGreatDoorZAH
import Derived.SizedLaws
import Derived.Test.YtkmbmfengcdmoaaGreatDoorA0
import Derived.ProofKit
import Derived.Below
import Derived.Carry
import Derived.ChangeSame
import Derived.OpenShut
import Derived.Test.YtkmbmfengcdmoaaGreatDoorZAT
import Derived.Test.YtkmbmfengcdmoaaGreatDoorFree
set_option linter.all false
set_option maxRecDepth 100000
namespace Go.Proofs.YtkmbmfengcdmoaaGreatDoor
open Go.RowKit Go.ay Go.Cs Go.Opn Go.ChangeShapes Go.WideShapes Go.Deep Go.OpenShut

theorem fy:Tryz.prog.cellsOf 3=1:=by kernel_rfl
theorem jC:Tryz.prog.cellsOf 214=2:=by kernel_rfl
structure SC (x:Let):Prop where
 jc:cP x.kind/\cP x.j8/\cP x.number/\cP x.na/\cP x.day
 patch:∀n∈x.patch.jc,cP n
structure SD (w:World) (r:Rl):Prop where
 pat:qE w r.1.patch r.2
 nm:SC r.1
theorem Cm(b:Bool):cP (Eb b):=by cases b<;>(unfold cP Eb;decide)
theorem wH{H:Type}{enc:TypeId×Value->H}{w:World}{base:Nat}{b:Nat->Bool}{d:Bool}{c:Nat}{cs:List Value}{x:DataW H×List MemPlace}(h:DataW.trod enc Tryz.prog w base b d c 3 cs=some x):
  ∃a:Int,cP a/\∀(p:Nat) u,(Cs.encI a)[p]? =some u->cs[p]? =some u:=by
 obtain⟨n,e,_,g⟩:=DataW.trod_int Tryz.underlying3 h;refine⟨n,bounds_i64 g,λp u f=> ?_⟩;rw[e];exact f
theorem Cq{H:Type}{enc:TypeId×Value->H}{w:World}{base:Nat}{c:Nat->Bool}{e:Bool}{d:Nat}{cs:List Value}{x:DataW H×List MemPlace}(g:DataW.trod enc Tryz.prog w base c e d 214 cs=some x):
  ∃a:Int×Int,(cP a.1/\cP a.2)/\∀(p:Nat) u,(fX a)[p]? =some u->cs[p]? =some u:=by
 obtain⟨h,j,l⟩:=aG (f:=3) (p:=0) Tryz.underlying3 (by kernel_rfl) g;obtain⟨i,k,m⟩:=aG (f:=3) (p:=1) Tryz.underlying3 (by kernel_rfl) g;refine⟨(h,i),⟨bounds_i64 l,bounds_i64 m⟩,λp u b=> ?_⟩
 match p,b with
 |0,b=>cases b;exact j
 |1,b=>cases b;exact k
 |p+2,b=>simp[fX]at b
instance:Inhabited Rl:=⟨(⟨0,0,0,0,0,kv.zero,⟨#[]⟩⟩,⟨none,0,none,0⟩)⟩
theorem Jo{p:kv}(c:cP p.kind/\cP p.days)(g:p.cl.length<=9223372036854775807)(h:∀a∈p.cl,cP a)(i:p.new.start.length<=9223372036854775807)(d:∀a∈p.new.start,cP a.1/\cP a.2)
  (j:∀n∈p.new.front,cP n) (l:∀n∈p.new.back,cP n):∀n∈p.jc,cP n:=by
 intro n b;have e:∀k:Nat,k<=9223372036854775807->cP (k:Int):=λk m=>by unfold cP;omega
 simp only[kv.jc,mT.jc,zT,lC,DR,DW,PT]at b;rcases b with((rfl|rfl|rfl)|b)|((((b|b)|b)|b)|b)
 ·exact c.1
 ·exact c.2
 ·exact e _ g
 ·exact h n b
 ·exact j n b
 ·rcases b with rfl|rfl<;>exact Cm _
 ·exact l n b
 ·rcases b with rfl|rfl
  ·exact Cm _
  ·exact e _ i
 ·obtain⟨s,f,b⟩:=b;rcases b with rfl|rfl
  ·exact(d s f).1
  ·exact(d s f).2
open Go.W32 Go.Lib Go.Mg Go.Cv
instance:Inhabited Un:=⟨⟨⟨#[]⟩,0,0,0,0⟩⟩
instance:Inhabited Kl:=⟨(mT.zero,none,0)⟩
instance:Inhabited zY:=⟨⟨0,0,0,0,0,0,0⟩⟩
theorem ye:Tryz.prog.cellsOf 262=5:=by kernel_rfl
theorem ya:Tryz.prog.cellsOf 155=7:=by kernel_rfl
theorem yd:Tryz.prog.cellsOf 34=16:=by kernel_rfl
theorem Hs:Tryz.prog.cellsOf 27=7:=by kernel_rfl
theorem RW{H:Type}{enc:TypeId×Value->H}{w:World}{base:Nat}{c:Nat->Bool}{e:Bool}{d:Nat}{cs:List Value}{x:DataW H×List MemPlace}(g:DataW.trod enc Tryz.prog w base c e d 262 cs=some x):∃a:Un,True/\∀(p:Nat) u,(lp a)[p]? =some u->cs[p]? =some u:=by
 obtain⟨h,m,_⟩:=gn (f:=5) (p:=0) Tryz.underlying9 (by kernel_rfl) g;obtain⟨i,n,_⟩:=aG (f:=5) (p:=1) Tryz.underlying3 (by kernel_rfl) g;obtain⟨j,o,_⟩:=aG (f:=5) (p:=2) Tryz.underlying3 (by kernel_rfl) g;obtain⟨k,q,_⟩:=aG (f:=5) (p:=3) Tryz.underlying3 (by kernel_rfl) g;obtain⟨l,r,_⟩:=aG (f:=5) (p:=4) Tryz.underlying3 (by kernel_rfl) g;refine⟨⟨h,i,j,k,l⟩,trivial,λp u b=> ?_⟩
 match p,b with
 |0,b=>cases b;exact m
 |1,b=>cases b;exact n
 |2,b=>cases b;exact o
 |3,b=>cases b;exact q
 |4,b=>cases b;exact r
 |p+5,b=>simp[lp]at b
theorem Qk{H:Type}{enc:TypeId×Value->H}{w:World}{base:Nat}{d:Nat->Bool}{g:Bool}{e:Nat}{cs:List Value}{x:DataW H×List MemPlace}(c:DataW.trod enc Tryz.prog w base d g e 155 cs=some x):∃a:zY,True/\∀(p:Nat) u,(ln a)[p]? =some u->cs[p]? =some u:=by
 obtain⟨h,o,_⟩:=aG (f:=5) (p:=0) Tryz.underlying3 (by kernel_rfl) c;obtain⟨i,q,_⟩:=aG (f:=5) (p:=1) Tryz.underlying3 (by kernel_rfl) c;obtain⟨j,r,_⟩:=aG (f:=5) (p:=2) Tryz.underlying3 (by kernel_rfl) c;obtain⟨k,s,_⟩:=aG (f:=5) (p:=3) Tryz.underlying3 (by kernel_rfl) c;obtain⟨l,t,_⟩:=aG (f:=5) (p:=4) Tryz.underlying3 (by kernel_rfl) c;obtain⟨m,v,_⟩:=aG (f:=5) (p:=5) Tryz.underlying3 (by kernel_rfl) c;obtain⟨n,y,_⟩:=aG (f:=5) (p:=6) Tryz.underlying3 (by kernel_rfl) c;refine⟨⟨h,i,j,k,l,m,n⟩,trivial,λp u b=> ?_⟩
 match p,b with
 |0,b=>cases b;exact o
 |1,b=>cases b;exact q
 |2,b=>cases b;exact r
 |3,b=>cases b;exact s
 |4,b=>cases b;exact t
 |5,b=>cases b;exact v
 |6,b=>cases b;exact y
 |p+7,b=>simp[ln]at b
theorem QX{H:Type}{enc:TypeId×Value->H}{w:World}{base:Nat}{e:Nat->Bool}{i:Bool}{g:Nat}{cs:List Value}{x:DataW H×List MemPlace}(c:DataW.trod enc Tryz.prog w base e i g 34 cs=some x):∃a:Kl,(SL w 2 fX a.2.1 a.1.start/\a.1.start.length<=9223372036854775807)/\∀(p:Nat) u,(oz a)[p]? =some u->cs[p]? =some u:=by
 obtain⟨C,O,_⟩:=aG (f:=5) (p:=0) Tryz.underlying3 (by kernel_rfl) c;obtain⟨D,Q,_⟩:=aG (f:=5) (p:=1) Tryz.underlying3 (by kernel_rfl) c;obtain⟨E,R,_⟩:=aG (f:=5) (p:=2) Tryz.underlying3 (by kernel_rfl) c;obtain⟨F,S,_⟩:=aG (f:=5) (p:=3) Tryz.underlying3 (by kernel_rfl) c;obtain⟨G,U,_⟩:=aG (f:=5) (p:=5) Tryz.underlying3 (by kernel_rfl) c;obtain⟨I,V,_⟩:=aG (f:=5) (p:=6) Tryz.underlying3 (by kernel_rfl) c;obtain⟨M,Y,_⟩:=aG (f:=5) (p:=9) Tryz.underlying3 (by kernel_rfl) c;obtain⟨j,r,_⟩:=aG (f:=5) (p:=10) Tryz.underlying3 (by kernel_rfl) c;obtain⟨k,s,_⟩:=aG (f:=5) (p:=11) Tryz.underlying3 (by kernel_rfl) c;obtain⟨l,t,_⟩:=aG (f:=5) (p:=12) Tryz.underlying3 (by kernel_rfl) c;obtain⟨n,v,_⟩:=aG (f:=5) (p:=13) Tryz.underlying3 (by kernel_rfl) c;obtain⟨o,y,_⟩:=aG (f:=5) (p:=14) Tryz.underlying3 (by kernel_rfl) c;obtain⟨B,d,m,T,N,Z,A,g4⟩:=gl (α:=Int×Int) (ec:=fX) (K:=λa=>cP a.1/\cP a.2) (f:=5) (p:=4) Tryz.underlying30 (by rw[jC];decide) (λf cs x h=>Cq h) (by kernel_rfl) c;rw[jC]at A;obtain⟨J,W⟩:=gT (f:=5) (p:=7) Tryz.underlying4 (by kernel_rfl) c;obtain⟨L,X⟩:=gT (f:=5) (p:=8) Tryz.underlying4 (by kernel_rfl) c;obtain⟨q,z⟩:=gT (f:=5) (p:=15) Tryz.underlying4 (by kernel_rfl) c;refine⟨(⟨C,D,E,F,m,G,I,J,L,M,j,k,l,n,o,q⟩,(B,d)),⟨A,N⟩,λp u b=> ?_⟩
 match p,b with
 |0,b=>cases b;exact O
 |1,b=>cases b;exact Q
 |2,b=>cases b;exact R
 |3,b=>cases b;exact S
 |4,b=>cases b;exact T
 |5,b=>cases b;exact U
 |6,b=>cases b;exact V
 |7,b=>cases b;exact W
 |8,b=>cases b;exact X
 |9,b=>cases b;exact Y
 |10,b=>cases b;exact r
 |11,b=>cases b;exact s
 |12,b=>cases b;exact t
 |13,b=>cases b;exact v
 |14,b=>cases b;exact y
 |15,b=>cases b;exact z
 |p+16,b=>simp[oz,nA]at b
theorem Ov{H:Type}{enc:TypeId×Value->H}{w:World}{base:Nat}{e:Nat->Bool}{i:Bool}{g:Nat}{cs:List Value}{x:DataW H×List MemPlace}(d:DataW.trod enc Tryz.prog w base e i g 27 cs=some x):∃c:cZ,(dV w c/\lk c)/\∀(p:Nat) u,(cD c)[p]? =some u->cs[p]? =some u:=by
 obtain⟨A,J,_⟩:=aG (f:=5) (p:=0) Tryz.underlying3 (by kernel_rfl) d;obtain⟨B,Q,_⟩:=aG (f:=5) (p:=5) Tryz.underlying3 (by kernel_rfl) d;obtain⟨s,S,X,L,C,c1,m,_⟩:=gl (α:=Int) (ec:=Cs.encI) (K:=cP) (f:=5) (p:=1) Tryz.underlying22 (by rw[fy];decide) (λf cs x h=>wH h) (by kernel_rfl) d;rw[fy]at m;obtain⟨t,T,Y,M,D,I,n,_⟩:=gl (α:=Un) (ec:=lp) (K:=λ_=>True) (f:=5) (p:=2) Tryz.underlying23 (by rw[ye];decide) (λf cs x h=>RW h) (by kernel_rfl) d;rw[ye]at n;obtain⟨v,U,Z,N,E,c3,o,_⟩:=gl (α:=zY) (ec:=ln) (K:=λ_=>True) (f:=5) (p:=3) Tryz.underlying24 (by rw[ya];decide) (λf cs x h=>Qk h) (by kernel_rfl) d;rw[ya]at o;obtain⟨y,V,l4,O,F,c4,q,l⟩:=gl (α:=Kl) (ec:=oz) (K:=λa=>SL w 2 fX a.2.1 a.1.start/\a.1.start.length<=9223372036854775807) (f:=5) (p:=4) Tryz.underlying25 (by rw[yd];decide) (λf cs x h=>QX h) (by kernel_rfl) d;rw[yd]at q;obtain⟨z,W,l6,R,G,c6,r,_⟩:=gl (α:=Int) (ec:=Cs.encI) (K:=cP) (f:=5) (p:=6) Tryz.underlying22 (by rw[fy];decide) (λf cs x h=>wH h) (by kernel_rfl) d;rw[fy]at r;refine⟨⟨A,X,Y,Z,l4,B,l6,s,S,t,T,v,U,y,V,z,W⟩,⟨⟨m,n,o,q,r,λk j=>(l k j).1⟩,⟨C,D,E,F,G,I,λk j=>(l k j).2⟩⟩,λp u b=> ?_⟩
 match p,b with
 |0,b=>cases b;exact J
 |1,b=>cases b;exact L
 |2,b=>cases b;exact M
 |3,b=>cases b;exact N
 |4,b=>cases b;exact O
 |5,b=>cases b;exact Q
 |6,b=>cases b;exact R
 |p+7,b=>simp[cD]at b
theorem Jw{H:Type}{enc:TypeId×Value->H}{w:World}{base:Nat}{a:Nat->Bool}{b:Bool}{v:Value}{d:DataW H}{p:List MemPlace}{r:Reach}{k:Nat}(hv:Value.okWide Tryz.prog w r k 27 v)(h:DataW.Trod enc Tryz.prog w base a b 27 v d p):
  ∃c:cZ,v= .agg (cD c).toArray/\dV w c/\lk c:=by
 obtain⟨l,rfl,f⟩:=okWide_struct Tryz.underlying27 hv;rw[Hs]at f;obtain⟨g,n⟩:=h;obtain⟨c,⟨m,hz⟩,e⟩:=Ov n;refine⟨c, ?_,m,hz⟩;congr 1;apply M5;show l.toList=cD c;apply rC;intro i;by_cases o:i<7
 ·obtain⟨u,j⟩:∃u,(cD c)[i]? =some u:=⟨_,eH (by show i<7;exact o)⟩
  rw[j];exact e i u j
 ·rw[pz (by simp;omega),pz (by show 7<=i;omega)]
end Go.Proofs.YtkmbmfengcdmoaaGreatDoor
namespace Go.Proofs.YtkmbmfengcdmoaaGreatDoor
open Go.RowKit Go.ay Go.Cs Go.Opn Go.ChangeShapes Go.WideShapes Go.Deep Go.OpenShut

instance:Inhabited xE:=⟨⟨0,⟨0,0,0,0,0,false⟩,default,⟨0,0,0,⟨#[]⟩,⟨#[]⟩,0,0⟩,0,0,0⟩⟩
theorem On:Tryz.prog.bytesOf 3=8:=by kernel_rfl
theorem open_ints{H:Type}{enc:TypeId×Value->H}{w:World}{base:Nat}{b:Nat->Bool}{j:Bool}{v:Value}{d:DataW H}{I:List MemPlace}{r:Reach}{u:Nat}(hv:Value.okWide Tryz.prog w r u 22 v)(h:DataW.Trod enc Tryz.prog w base b j 22 v d I):
  ∃(A:Option Addr) (c:Nat) (l:List Int),v= .slice A l.length c/\l.length<=9223372036854775807/\l.length<=c/\SL w 1 Cs.encI A l/\∀B,(∀e b,d= .slice e b->(e.length+b.length)*Tryz.prog.bytesOf 3<=B)->l.length*8<=B:=by
 obtain⟨f,x,F⟩:=OY Tryz.underlying22 hv h;obtain⟨A,c,l,o,y,z,q,_⟩:=vu (α:=Int) (ec:=Cs.encI) (K:=cP) Tryz.underlying22 (by rw[fy];decide) (λf J x h=>wH h) F;rw[fy]at q;refine⟨A,c,l,o,y,z,q,λB E=> ?_⟩;obtain⟨s,p⟩:=h;rcases open_slice Tryz.underlying22 p with⟨t,_⟩|⟨a,len,k,m,n,D,Pl,i,_,_,_,_,G,_⟩
 ·rw[o]at t;have g:Value.slice A l.length c= .slice none 0 0:=by simpa[Value.cells]using t
  injection g with _ g _;omega
 ·rw[o]at i;have g:Value.slice A l.length c= .slice (some a) len k:=by simpa[Value.cells]using i
  injection g with _ g _;have C:=E _ _ (congrArg Prod.fst G);rw[On,rm,List.length_range]at C;omega
end Go.Proofs.YtkmbmfengcdmoaaGreatDoor
namespace Go.Proofs.YtkmbmfengcdmoaaGreatDoor
open Go.RowKit Go.W32 Go.ay Go.Cs Go.Lib Go.Opn Go.Mg Go.Cv Go.Apl
structure kM where
 GG:Bool
 x:ei
 l:Rl
 after:Int
 writes:Int
 bytes:Int
def cU(a:kM):List Value:= [.bool a.GG]++bU a.x++fq a.l++ [.int .i64 a.after, .int .i64 a.writes, .int .i64 a.bytes]
def qq(a:kM):Bool:=decide (a.l.1.patch.cl.length<=20)&&(decide (a.l.1.patch.new.start.length<=20)&&decide (a.l.1.sum.size<=100))
theorem vQ{l:List kM}{k:Nat}{x:kM}(b:l[k]? =some x)(h:(l.take k).all qq=true)(a:qq x=true):(l.take (k+1)).all qq=true:=by rw[zX,b,RZ,h];simp[a]
theorem jA{l:List kM}{k:Nat}{x:kM}(b:l[k]? =some x)(a:qq x=false):l.all qq=false:=by
 cases h:l.all qq with
 |false=>rfl
 |true=>rw[GJ.1 h x (ue b)]at a;cases a
set_option maxHeartbeats 4000000 in
theorem v7(A:Option Addr)(G:Nat)(l:List kM)(W:World)(z:SL W 35 cU A l)(B:l.length<=4611686018427387903):
  Calls Tryz.prog 34 #[.slice A l.length G] W λe w'=>e= .returned (.bool (l.all qq))/\w'=W:=by
 obtain⟨R,p⟩:=x_ (λe w'=>e= .returned (.bool (l.all qq))/\w'=W:Ending->World->Prop)
 rw[<-p];have a:Hid (∀v,v=l.all qq->R (.returned (.bool v)) W):=h_ λv h=>by rw[p,h];exact⟨rfl,rfl⟩
 have y:=h_ z;have C:=h_ B;clear p z B;go_enter Tryz.func34,Tryz.ntmps34;go_wp2_with fail
 go_loopw [3] (λv wr=> ∃k:Nat,v= .int .i64 (k:Int)/\k<=l.length/\wr=W/\Hid ((l.take k).all qq=true)) (λv _=>(l.length:Int).toNat- (RowKit.intOf v).toNat)
 case atStart=>exact⟨0,rfl,gu _,rfl,h_ rfl⟩
 case round=>
  obtain⟨k,rfl,s,E,w⟩:=hrel;obtain⟨N,q⟩:=x_ wr
  subst E;have F:=C.out;rcases pC s with b|b
  ·have t:(k:Int)<(l.length:Int):=by omega
   obtain⟨x,r⟩:∃x,l[k]? =some x:=⟨_,eH b⟩
   obtain⟨o,u,D⟩:=cG y.out (by intro e;rw[e]at b;simp at b);subst D;have m:=dq y.out r;have I:wr.cell? ⟨o,u+k*35+13,none⟩=some (SU x.l.1.patch x.l.2):=m 13 _ rfl;have J:wr.cell? ⟨o,u+k*35+18,none⟩=some (Tq x.l.1.patch x.l.2):=m 18 _ rfl;have O:wr.cell? ⟨o,u+k*35+31,none⟩=some (.string x.l.1.sum):=m 31 _ rfl;unfold SU at I;unfold Tq at J;have i:=h_ r;have f:=h_ b;clear r s b m q;by_cases d:x.l.1.patch.cl.length<=20;rotate_left
   ·have K:decide ((20:Int)<(x.l.1.patch.cl.length:Int))=true:=dt (by omega);have c:=h_ (a.out false (by rw[jA i.out (by unfold qq;rw[dy d];rfl)]));clear a d;go_wp2_with fail;(try go_ret);exact c.out
   have K:decide ((20:Int)<(x.l.1.patch.cl.length:Int))=false:=dy (by omega);by_cases g:x.l.1.patch.new.start.length<=20;rotate_left
   ·have L:decide ((20:Int)<(x.l.1.patch.new.start.length:Int))=true:=dt (by omega);have c:=h_ (a.out false (by rw[jA i.out (by unfold qq;rw[dy g];simp)]));clear a d g;go_wp2_with fail;(try go_ret);exact c.out
   have L:decide ((20:Int)<(x.l.1.patch.new.start.length:Int))=false:=dy (by omega);by_cases j:x.l.1.sum.size<=100;rotate_left
   ·have M:decide ((100:Int)<(x.l.1.sum.size:Int))=true:=dt (by omega);have c:=h_ (a.out false (by rw[jA i.out (by unfold qq;rw[dy j];simp)]));clear a d g j;go_wp2_with fail;(try go_ret);exact c.out
   have M:decide ((100:Int)<(x.l.1.sum.size:Int))=false:=dy (by omega);have n:=h_ (vQ i.out w.out (by unfold qq;rw[dt d,dt g,dt j];rfl));clear d g j;go_wp2_with fail
   go_roundw
   case rel=>exact⟨k+1,rfl,f.out,by first|rfl|trivial,n⟩
   case measure=>have:=f.out;simp[RowKit.intOf];omega
  ·have t: ¬(k:Int)<(l.length:Int):=by omega
   have c:=h_ (a.out true (by have h:=w.out;rw[np (by omega)]at h;exact h.symm));clear a s b;go_wp2_with fail;(try go_ret);exact c.out
end Go.Proofs.YtkmbmfengcdmoaaGreatDoor
namespace Go.Proofs.YtkmbmfengcdmoaaGreatDoor
open Go.RowKit Go.ay Go.Cs Go.Opn Go.ChangeShapes Go.WideShapes Go.Deep Go.OpenShut

theorem mr:Tryz.prog.cellsOf 89=35:=by kernel_rfl
structure BR (w:World) (a:kM):Prop where
 x:a.x.Ok
 l:SD w a.l
 n:cP a.after/\cP a.writes/\cP a.bytes
instance:Inhabited kM:=⟨⟨false,⟨0,0,0,0,0,false⟩,default,0,0,0⟩⟩
set_option maxHeartbeats 1000000 in
theorem Br{H:Type}{enc:TypeId×Value->H}{w:World}{base:Nat}{g:Nat->Bool}{j:Bool}{i:Nat}{cs:List Value}{x:DataW H×List MemPlace}(e:DataW.trod enc Tryz.prog w base g j i 89 cs=some x):
  ∃a:kM,BR w a/\∀(p:Nat) u,(cU a)[p]? =some u->cs[p]? =some u:=by
 obtain⟨a0,h0⟩:=gT (f:=6) (p:=0) Tryz.underlying4 (by kernel_rfl) e;obtain⟨a1,h1,w1⟩:=aG (f:=6) (p:=1) Tryz.underlying3 (by kernel_rfl) e;obtain⟨a2,h2,w2⟩:=aG (f:=6) (p:=2) Tryz.underlying3 (by kernel_rfl) e;obtain⟨a3,h3,w3⟩:=aG (f:=6) (p:=3) Tryz.underlying3 (by kernel_rfl) e;obtain⟨a4,h4,w4⟩:=aG (f:=6) (p:=4) Tryz.underlying3 (by kernel_rfl) e;obtain⟨a5,h5,w5⟩:=aG (f:=6) (p:=5) Tryz.underlying3 (by kernel_rfl) e;obtain⟨a6,h6⟩:=gT (f:=6) (p:=6) Tryz.underlying4 (by kernel_rfl) e;obtain⟨a7,h7,w7⟩:=aG (f:=6) (p:=7) Tryz.underlying3 (by kernel_rfl) e;obtain⟨a8,h8,w8⟩:=aG (f:=6) (p:=8) Tryz.underlying3 (by kernel_rfl) e;obtain⟨a9,h9,w9⟩:=aG (f:=6) (p:=9) Tryz.underlying3 (by kernel_rfl) e;obtain⟨o,U,i8⟩:=aG (f:=6) (p:=10) Tryz.underlying3 (by kernel_rfl) e;obtain⟨q,V,i9⟩:=aG (f:=6) (p:=11) Tryz.underlying3 (by kernel_rfl) e;obtain⟨r,W,i'⟩:=aG (f:=6) (p:=12) Tryz.underlying3 (by kernel_rfl) e;obtain⟨A,c,l,X,e1,e2,e3,e4⟩:=gl (α:=Int) (ec:=Cs.encI) (K:=cP) (f:=6) (p:=13) Tryz.underlying22 (by rw[fy];decide) (λf cs x h=>wH h) (by kernel_rfl) e;rw[fy]at e3;obtain⟨s,Y,lm⟩:=aG (f:=6) (p:=14) Tryz.underlying3 (by kernel_rfl) e;obtain⟨t,Z,lw⟩:=aG (f:=6) (p:=15) Tryz.underlying3 (by kernel_rfl) e;obtain⟨v,an,mt⟩:=aG (f:=6) (p:=16) Tryz.underlying3 (by kernel_rfl) e;obtain⟨y,bi,m4⟩:=aG (f:=6) (p:=17) Tryz.underlying3 (by kernel_rfl) e;obtain⟨B,d,m,ci,g1,g2,g3,g4⟩:=gl (α:=Int×Int) (ec:=fX) (K:=λa=>cP a.1/\cP a.2) (f:=6) (p:=18) Tryz.underlying30 (by rw[jC];decide) (λf cs x h=>Cq h) (by kernel_rfl) e;rw[jC]at g3;obtain⟨z,co,m5⟩:=aG (f:=6) (p:=19) Tryz.underlying3 (by kernel_rfl) e;obtain⟨C,dl,m6⟩:=aG (f:=6) (p:=20) Tryz.underlying3 (by kernel_rfl) e;obtain⟨D,d6⟩:=gT (f:=6) (p:=21) Tryz.underlying4 (by kernel_rfl) e;obtain⟨E,d7⟩:=gT (f:=6) (p:=22) Tryz.underlying4 (by kernel_rfl) e;obtain⟨F,d8,m7⟩:=aG (f:=6) (p:=23) Tryz.underlying3 (by kernel_rfl) e;obtain⟨G,d9,m8⟩:=aG (f:=6) (p:=24) Tryz.underlying3 (by kernel_rfl) e;obtain⟨I,f8,m9⟩:=aG (f:=6) (p:=25) Tryz.underlying3 (by kernel_rfl) e;obtain⟨J,f9,nl⟩:=aG (f:=6) (p:=26) Tryz.underlying3 (by kernel_rfl) e;obtain⟨L,gc,no⟩:=aG (f:=6) (p:=27) Tryz.underlying3 (by kernel_rfl) e;obtain⟨M,ge,n8⟩:=aG (f:=6) (p:=28) Tryz.underlying3 (by kernel_rfl) e;obtain⟨N,gt⟩:=gT (f:=6) (p:=29) Tryz.underlying4 (by kernel_rfl) e;obtain⟨O,g7,jp⟩:=aG (f:=6) (p:=30) Tryz.underlying3 (by kernel_rfl) e;obtain⟨Q,g8,ol⟩:=gn (f:=6) (p:=31) Tryz.underlying9 (by kernel_rfl) e;obtain⟨R,ii,kw⟩:=aG (f:=6) (p:=32) Tryz.underlying3 (by kernel_rfl) e;obtain⟨S,io,ld⟩:=aG (f:=6) (p:=33) Tryz.underlying3 (by kernel_rfl) e;obtain⟨T,ip,li⟩:=aG (f:=6) (p:=34) Tryz.underlying3 (by kernel_rfl) e;refine⟨⟨a0,⟨a1,a2,a3,a4,a5,a6⟩,(⟨a7,a8,a9,o,q,⟨r,l,⟨s,t,v,y,m,z,C,D,E,F,G,I,J,L,M,N⟩,O⟩,Q⟩,⟨A,c,B,d⟩),R,S,T⟩,
  ⟨⟨(bounds_i64 w1).1,(bounds_i64 w1).2,(bounds_i64 w2).1,(bounds_i64 w2).2,(bounds_i64 w3).1,(bounds_i64 w3).2,(bounds_i64 w4).1,(bounds_i64 w4).2,(bounds_i64 w5).1,(bounds_i64 w5).2⟩,⟨⟨e3,g3⟩,⟨⟨bounds_i64 w7,bounds_i64 w8,bounds_i64 w9,bounds_i64 i8,bounds_i64 i9⟩,Jo ⟨bounds_i64 i',bounds_i64 jp⟩ e1 e4 g1 g4 ?_ ?_⟩⟩,⟨bounds_i64 kw,bounds_i64 ld,bounds_i64 li⟩⟩,λp u b=> ?_⟩
 ·intro n k;simp only[mT.front,lC,DR,DW]at k;rcases k with rfl|rfl|rfl|rfl|rfl|rfl<;>(apply bounds_i64;assumption)
 ·intro n k;simp only[mT.back,lC,DR,DW]at k;rcases k with rfl|rfl|rfl|rfl|rfl|rfl<;>(apply bounds_i64;assumption)
 match p,b with
 |0,b=>cases b;exact h0
 |1,b=>cases b;exact h1
 |2,b=>cases b;exact h2
 |3,b=>cases b;exact h3
 |4,b=>cases b;exact h4
 |5,b=>cases b;exact h5
 |6,b=>cases b;exact h6
 |7,b=>cases b;exact h7
 |8,b=>cases b;exact h8
 |9,b=>cases b;exact h9
 |10,b=>cases b;exact U
 |11,b=>cases b;exact V
 |12,b=>cases b;exact W
 |13,b=>cases b;exact X
 |14,b=>cases b;exact Y
 |15,b=>cases b;exact Z
 |16,b=>cases b;exact an
 |17,b=>cases b;exact bi
 |18,b=>cases b;exact ci
 |19,b=>cases b;exact co
 |20,b=>cases b;exact dl
 |21,b=>cases b;exact d6
 |22,b=>cases b;exact d7
 |23,b=>cases b;exact d8
 |24,b=>cases b;exact d9
 |25,b=>cases b;exact f8
 |26,b=>cases b;exact f9
 |27,b=>cases b;exact gc
 |28,b=>cases b;exact ge
 |29,b=>cases b;exact gt
 |30,b=>cases b;exact g7
 |31,b=>cases b;exact g8
 |32,b=>cases b;exact ii
 |33,b=>cases b;exact io
 |34,b=>cases b;exact ip
 |p+35,b=>simp[cU,bU,fq,jL]at b
theorem sG{H:Type}{enc:TypeId×Value->H}{w:World}{base:Nat}{b:Nat->Bool}{e:Bool}{v:Value}{d:DataW H}{j:List MemPlace}{r:Reach}{g:Nat}(hv:Value.okWide Tryz.prog w r g 84 v)(h:DataW.Trod enc Tryz.prog w base b e 84 v d j):
  ∃(A:Option Addr) (c:Nat) (l:List kM),v= .slice A l.length c/\l.length<=9223372036854775807/\l.length<=c/\SL w 35 cU A l/\∀a∈l,BR w a:=by
 obtain⟨f,x,i⟩:=OY Tryz.underlying84 hv h
 have:=vu (α:=kM) (ec:=cU) (K:=λa=>BR w a) Tryz.underlying84 (by rw[mr];decide) (λf k x h=>Br h) i;rw[mr]at this;exact this
end Go.Proofs.YtkmbmfengcdmoaaGreatDoor
namespace Go.PostB
open Go Go.RowKit Go.WideShapes Go.ChangeShapes Go.ChangeAt
variable {H:Type} {enc:TypeId×Value->H} {P:Program}

theorem nn(j:laidOutB P=true){W g:World}(i:Below W.heap.size W g):∀ {d:List TypeId} {e:List Value} {a:List (DataW H)} {p:List MemPlace},
  (∀t∈d,P.readableRec t=true/\t<P.types.size)->DataW.TrodAll enc P W 0 (λ_=>true) true d e a p->(∀x∈p,x.block<W.heap.size)->
  DataW.TrodAll enc P g 0 (λb=>decide (b<W.heap.size)) true d e a p
 | [],e,a,p,_,h,_=>by
  obtain⟨rfl,rfl,rfl⟩:=trodAll_nil h;exact trodAll_mk0
 |t::d,e,a,p,hts,h,hlt=>by
  obtain⟨s,n,o,k,q,r,rfl,rfl,rfl,l,m⟩:=trodAll_cons h;have c:=hts t (by simp);exact trodAll_cons_mk (Below.trod j c.1 c.2 l i (λx f=>hlt x (by simp[f]))) (nn j i (λt c=>hts t (by simp[c])) m (λx f=>hlt x (by simp[f])))

theorem FL{f:Func}{s:ChangeSpec}{W n:World}{args:Array Value}{d e:List (DataW H)}{a:List MemPlace}{tb:TypeId}(u:laidOutB P=true)
  (m:f.params.toList.all (λt=>P.readableRec t&&decide (t<P.types.size))=true) (w:f.resultTypes= #[tb]) (l:P.underlying tb=some .bool)
  (i:DataW.Whole enc P f.params.toList s.vars false W args.toList d e a) (hv:s.vars= [])
  (g:(s.fn H (d++e)).results= [.lit (.bool true)]) (b:(s.fn H (d++e)).args=d) (c:(s.fn H (d++e)).vars= []) (o:Below W.heap.size W n):
  s.post enc P f false true false false W args (.bool true) n:=by
 have k:∀p∈a,p.block<W.heap.size:=λp v=>i.lt p v
 have j:=i;obtain⟨p,q,r,A,rfl,_,_⟩:=i;refine⟨d,e,p++q,[],p,[],j, ?_, ?_, ?_,o.frame _,λh=>by cases h⟩
 ·rw[g,w];exact trodAll_cons_mk (shut_bool l _) trodAll_mk0
 ·rw[b];refine nn u o (λt y=> ?_) r (λx z=>k x (by simp[z]))
  have:=GJ.1 m t y;simpa using this
 ·rw[c,hv];exact rfl
end Go.PostB
namespace Go.Proofs.YtkmbmfengcdmoaaGreatDoor
open Go.RowKit Go.ay Go.Opn Go.OpenShut Go.Apl

theorem AI(x y:aV)(W:World):(binOp .eql 42 (.agg (aK x).toArray) (.agg (aK y).toArray)).run Tryz.prog W= .ok (.bool (qK x y)) W:=by
 have h:=MG x y W;unfold binOp at h⊢;simp only[Sem.run_bind,Sem.run_pure]at h⊢;cases hq:(Op.equal 42 (.agg (aK x).toArray) (.agg (aK y).toArray)).run Tryz.prog W with
 |ok b w'=>
  rw[hq]at h;simp only[Result.andThen_ok]at h⊢;injection h with a c;injection a with a
  have:b=qK x y:=by revert a;cases b<;>cases qK x y<;>simp
  rw[this,c]
 |_=>rw[hq]at h;cases h
theorem yx{o:Oper}{ρ:Operand->Value}{w:World}{a b:Operand}{x y:aV}(f:o.op= .binOp .eql 42 a b 42)(c:ρ a= .agg (aK x).toArray)(d:ρ b= .agg (aK y).toArray):
  (execOp ρ o).run Tryz.prog w= .ok (.value (.bool (qK x y))) w:=by
 have e:(eqGuard .eql 42 a b (.agg (aK x).toArray) (.agg (aK y).toArray)).run Tryz.prog w= .ok () w:=by unfold eqGuard;simp
 unfold execOp;simp only[f,c,d,Sem.run_bind,e,Result.andThen_ok,AI,Sem.run_pure]
set_option maxHeartbeats 2000000 in
theorem vY(A:Option Addr)(c:Nat)(l:List aV)(y:aV)(w:World)(h:SL w 7 aK A l)(M:l.length<=4611686018427387903)(N:y∈l):
  Calls Tryz.prog 37 #[.slice A l.length c, .agg (aK y).toArray] w λe w'=>e= .returned (.bool true)/\Below w.heap.size w w':=by
 obtain⟨R,F⟩:=x_ (λe w'=>e= .returned (.bool true)/\Below w.heap.size w w':Ending->World->Prop)
 rw[<-F];obtain⟨B,f⟩:=x_ (aK y)
 obtain⟨V,C⟩:=x_ (w.alloc (.cells B.toArray 42))
 have b:Below w.heap.size w V:=by rw[C];exact(Below.refl _ _).alloc (aL _) _
 have m:ay V w.heap.size B 42:=by rw[C];exact ay.new w B _
 have Q:Hid (w.alloc (.cells B.toArray 42)=V):=h_ C.symm;have q:Hid (∀w',Below V.heap.size V w'->R (.returned (.bool true)) w'):=h_ λw' h=>by rw[F];exact⟨rfl,b.trans (h.mono b.size)⟩
 have K:Hid (∀w',Below V.heap.size V w'->SL w' 7 aK A l):=h_ λw' i=>h.below (b.trans (i.mono b.size)) (aL _)
 have O:Hid (∀w',Below V.heap.size V w'->∀p u,(aK y)[p]? =some u->w'.cell? ⟨w.heap.size,0+p,none⟩=some u):=h_ λw' i p u I=>(m.below i m.lt).ag (0+p) u (by rw[f,nW];exact I)
 have U:=h_ M;have W:=h_ N;rw[<-f];clear F f C b m h M N;go_enter Tryz.func37,Tryz.ntmps37;go_wp2_with (simp only[Q.out])
 go_loopw [5] (λv wr=> ∃k:Nat,k<=l.length/\v= .int .i64 (k:Int)/\Hid (∀x∈l.take k,qK x y=false)/\Below V.heap.size V wr) (λv _=>(l.length:Int).toNat- (RowKit.intOf v).toNat)
 case atStart=>exact⟨0,gu _,rfl,h_ (λx hx=>by simp at hx),Below.refl _ _⟩
 case round=>
  obtain⟨k,hk,rfl,L,a⟩:=hrel;have d:=h_ a;have bi:=U.out;by_cases n:k<l.length
  ·have an:(k:Int)<(l.length:Int):=by omega
   obtain⟨x,D⟩:∃x,l[k]? =some x:=⟨_,eH n⟩
   obtain⟨X,oa,Z,_⟩:=(K.out V (Below.refl _ _)).at_ D;subst Z;have J:Hid (∀w',Below wr.heap.size wr w'->∀p u,(aK x)[p]? =some u->w'.cell? ⟨X,oa+k*7+p,none⟩=some u):=h_ λw' i p u I=>by
    obtain⟨_,_,Y,h1⟩:=(K.out w' (a.trans (i.mono a.size))).at_ D;cases Y
    rw[Nat.add_assoc];exact h1 p u I
   have CZ:Hid (∀w',Below wr.heap.size wr w'->∀p u,(aK y)[p]? =some u->w'.cell? ⟨w.heap.size,0+p,none⟩=some u):=h_ λw' i=>O.out w' (a.trans (i.mono a.size))
   have S:=h_ D;have t:=h_ n;clear a hk n D;go_wp2_with fail;refine Free.ai 6 [] (λw'=>Below wr.heap.size wr w') (by kernel_rfl) (by kernel_rfl) (Free.aW (λj mk r hf=>by cases hf)) (Below.refl _ _).drew (λ_ _ h g=>h.trans (Below.mono g h.size)) ?_;simp only[eJ,dT];iterate 6 (first|(apply Free.ae (Free.wq rfl) rfl;(intro w' o E;exact sE (x:=x) rfl rfl (J.out w' o));simp only[Pt])|(apply Free.ae (Free.wq rfl) rfl;(intro w' o E;exact sE (x:=y) rfl rfl (CZ.out w' o));simp only[Pt])|(apply Free.ae rfl rfl;(intro w' o E;exact yx (x:=x) (y:=y) rfl rfl rfl);simp only[Pt])|(apply Free.ae (Free.wq rfl) rfl;(intro w' o E;clear E o;go_light;go_simp<;>rfl);(try simp only[Pt])))
   apply Free.ax;intro wz hz _ _;have s:=h_ (d.out.trans (hz.mono d.out.size));simp only[fm,fo];clear hz J CZ d;cases hq:qK x y with
   |true=>
    have T:=h_ (q.out wz s.out);clear q hq;go_wp2_with fail;(try go_ret);exact T.out
   |false=>
    have G:Hid (∀z∈l.take (k+1),qK z y=false):=h_ λz hz=>by
     rw[zX,S.out]at hz;rcases zT.1 hz with hz|hz
     ·exact L.out z hz
     ·have:z=x:=by simpa using hz
      rw[this];exact hq
    clear hq;go_wp2_with fail
    go_roundw
    case rel=>exact⟨k+1,t.out,by push_cast;rfl,G,s.out⟩
    case measure=>have:=t.out;simp[RowKit.intOf];omega
  ·exact absurd (L.out y (by rw[np (by omega)];exact W.out)) (by rw[(rI y y).2 rfl];decide)
set_option maxHeartbeats 2000000 in
theorem yV(A:Option Addr)(c:Nat)(l:List ei)(r:Int)(w:World)(h:SL w 6 bU A l)(t:l.length<=4611686018427387903)(u:∃y∈l,y.ref=r):
  Calls Tryz.prog 30 #[.slice A l.length c, .int .i64 r] w λe w'=>(∃(i:Nat) (x:ei),e= .returned (.int .i64 (i:Int))/\l[i]? =some x/\x.ref=r)/\w'=w:=by
 obtain⟨R,g⟩:=x_ (λe w'=>(∃(i:Nat) (x:ei),e= .returned (.int .i64 (i:Int))/\l[i]? =some x/\x.ref=r)/\w'=w:Ending->World->Prop)
 rw[<-g];have d:Hid (∀(i:Nat) (x:ei),l[i]? =some x->x.ref=r->R (.returned (.int .i64 (i:Int))) w):=h_ λi x n o=>by rw[g];exact⟨⟨i,x,rfl,n,o⟩,rfl⟩
 have q:=h_ h;have C:=h_ t;have D:=h_ u;clear g h t u;go_enter Tryz.func30,Tryz.ntmps30;go_wp2_with fail
 go_loopw [5] (λv wr=> ∃k:Nat,k<=l.length/\v= .int .i64 (k:Int)/\Hid (∀x∈l.take k,x.ref≠r)/\wr=w) (λv _=>(l.length:Int).toNat- (RowKit.intOf v).toNat)
 case atStart=>exact⟨0,gu _,rfl,h_ (λx M=>by simp at M),rfl⟩
 case round=>
  obtain⟨k,J,rfl,s,I⟩:=hrel;obtain⟨Q,j⟩:=x_ wr
  subst I;have L:=C.out;by_cases a:k<l.length
  ·have K:(k:Int)<(l.length:Int):=by omega
   obtain⟨x,m⟩:∃x,l[k]? =some x:=⟨_,eH a⟩
   obtain⟨E,N,F⟩:=cG q.out (by intro e;rw[e]at a;simp at a);subst F;have S:wr.cell? ⟨E,N+k*6,none⟩=some (.int .i64 x.ref):=dq q.out m 0 _ rfl;have p:=h_ m;have f:=h_ a;clear J a m j;by_cases b:x.ref=r
   ·have B:=h_ (d.out k x p.out b);have O:(x.ref==r)=true:=by simpa using b
    clear d b;go_wp2_with fail;(try go_ret);exact B.out
   ·have O:(x.ref==r)=false:=by simpa using b
    have G:Hid (∀z∈l.take (k+1),z.ref≠r):=h_ λz hz=>by
     rw[zX,p.out]at hz;rcases zT.1 hz with hz|hz
     ·exact s.out z hz
     ·have:z=x:=by simpa using hz
      rw[this];exact b
    clear b;go_wp2_with fail
    go_roundw
    case rel=>exact⟨k+1,f.out,by push_cast;rfl,G,by first|rfl|trivial⟩
    case measure=>have:=f.out;simp[RowKit.intOf];omega
  ·obtain⟨y,n,o⟩:=D.out;exact absurd o (s.out y (by rw[np (by omega)];exact n))
end Go.Proofs.YtkmbmfengcdmoaaGreatDoor
namespace Go.Proofs.YtkmbmfengcdmoaaGreatDoor
open Go.RowKit Go.ay Go.Lib Go.Opn Go.Mg Go.Apl

def pZ(h:Int)(A:Option Addr)(n c:Nat):List Value:= [.int .i64 h, .slice A n c, .slice none 0 0]
theorem oI(cs:List Value)(h:cs.length=6):(Tryz.prog.info? 29).map (·.size)=some cs.length:=by rw[h];kernel_rfl
theorem Im(x:ei):wu x x=true:=by unfold wu;simp
end Go.Proofs.YtkmbmfengcdmoaaGreatDoor
