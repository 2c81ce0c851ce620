/- Package contract: validAct. Condition: the contract lies in memory. -/
import Derived.Test.YtkmbmfengcdmoaaGreatDoorZAM
import Derived.Deep.LoopGhost
import Derived.Test.YtkmbmfengcdmoaaGreatDoorFree
import Derived.Test.YtkmbmfengcdmoaaGreatDoorZAA
import Derived.Test.YtkmbmfengcdmoaaGreatDoorZAB
import Derived.BigFrame
set_option maxRecDepth 100000
set_option linter.all false
namespace Go.Proofs.YtkmbmfengcdmoaaGreatDoor
open Go.RowKit Go.W32 Go.ay Go.Cs Go.Lib Go.Opn Go.Mg Go.Cv

set_option maxHeartbeats 1000000 in
theorem Dp(c:cZ)(i:Int)(W:World)(I:dV W c):Calls Tryz.prog 158 #[.agg (cD c).toArray, .int .i64 i] W λe w'=>e= .returned (.bool (lz c.bQ i))/\Below W.heap.size W w':=by
 obtain⟨R,C⟩:=x_ (λe w'=>e= .returned (.bool (lz c.bQ i))/\Below W.heap.size W w':Ending->World->Prop)
 rw[<-C];have d:Hid (∀w' v,v=lz c.bQ i->Below W.heap.size W w'->R (.returned (.bool v)) w'):=h_ λw' v h z=>by rw[C,h];exact⟨rfl,z⟩
 clear C;obtain⟨l,X,p⟩:=uh W c;obtain⟨J,K,L,M,N,O,S⟩:=jK.of (T:=27) (b:=W.heap.size) (w:=l) (c:=c) (by rw[<-p.cs];exact p.row);have u:=h_ p.e;have f:=h_ p.below;have s:=I.a.below p.below (aL _);rw[<-p.cs];clear p J K L N O S I;by_cases h:0<=i;rotate_left
 ·have z:decide (0<=i)=false:=dy h;have g:=h_ (d.out l false (by unfold lz ja;rw[z];rfl) f.out);clear d s;go_enter Tryz.func158,Tryz.ntmps158;go_wp2_with (simp only[u.out])
  exact g.out
 have z:decide (0<=i)=true:=dt h;by_cases H:i<(c.bQ.length:Int);rotate_left
 ·have n:decide (i<(c.bQ.length:Int))=false:=dy H;have g:=h_ (d.out l false (by unfold lz ja;rw[n,R5];rfl) f.out);clear d s;go_enter Tryz.func158,Tryz.ntmps158;go_wp2_with (simp only[u.out])
  exact g.out
 have n:decide (i<(c.bQ.length:Int))=true:=dt H;obtain⟨j,rfl⟩:∃j:Nat,i=(j:Int):=⟨i.toNat,by omega⟩
 obtain⟨a,y⟩:∃x,c.bQ[j]? =some x:=⟨_,eH (by omega)⟩
 obtain⟨b,A,G⟩:=cG s (by intro e;rw[e]at y;simp at y);rw[G]at M s;have F:=dq s y;have U:l.cell? ⟨b,A+j*7,none⟩=some (.int .i64 a.kind):=by have h:=F 0 (.int .i64 a.kind) rfl;rwa[KO]at h
 have V:l.cell? ⟨b,A+j*7+1,none⟩=some (.int .i64 a.role):=F 1 _ rfl;have q:Hid (lz c.bQ (j:Int)=(decide (a.kind=1)&&decide (a.role= -1))):=h_ (by unfold lz ja;rw[z,n,tZ,y];rfl);clear F s y G;by_cases m:a.kind=1;rotate_left
 ·have D:(a.kind==1)=false:=by simpa using m
  have g:=h_ (d.out l false (by rw[q.out,dy m];rfl) f.out);clear d q m;go_enter Tryz.func158,Tryz.ntmps158;go_wp2_with (simp only[u.out])
  exact g.out
 have D:(a.kind==1)=true:=by simpa using m
 by_cases r:a.role= -1
 ·have E:(a.role== -1)=true:=by simpa using r
  have g:=h_ (d.out l true (by rw[q.out,dt m,dt r];rfl) f.out);clear d q m r;go_enter Tryz.func158,Tryz.ntmps158;go_wp2_with (simp only[u.out])
  exact g.out
 ·have E:(a.role== -1)=false:=by simpa using r
  have g:=h_ (d.out l false (by rw[q.out,dy r,R5]) f.out);clear d q m r;go_enter Tryz.func158,Tryz.ntmps158;go_wp2_with (simp only[u.out])
  exact g.out
def lW(aj:Int)(l:List Int):Bool:=l.all λh=>decide (0<=h)&&decide (h<aj)
set_option maxHeartbeats 1000000 in
theorem IL(c:cZ)(W:World)(V:dV W c)(hn:c.aE.length<=12)(Y:c.aj<=12):Calls Tryz.prog 154 #[.agg (cD c).toArray] W λe w'=>e= .returned (.bool (lW c.aj c.aE))/\Below W.heap.size W w':=by
 obtain⟨R,I⟩:=x_ (λe w'=>e= .returned (.bool (lW c.aj c.aE))/\Below W.heap.size W w':Ending->World->Prop)
 rw[<-I];have i:Hid (∀w' v,v=lW c.aj c.aE->Below W.heap.size W w'->R (.returned (.bool v)) w'):=h_ λw' v h hb=>by rw[I,h];exact⟨rfl,hb⟩
 clear I;obtain⟨U,cs,l⟩:=uh W c;obtain⟨k0,k1,k2,k3,k4,k5,k6⟩:=jK.of (T:=27) (b:=W.heap.size) (w:=U) (c:=c) (by rw[<-l.cs];exact l.row);have E1:=h_ l.e;have s:=h_ l.below;have HS:=h_ (V.h.below l.below (aL _));rw[<-l.cs];clear l k2 k3 k4 k5 k6 V;have HP:=h_ Y;clear Y;go_enter Tryz.func154,Tryz.ntmps154;go_wp2_with (simp only[E1.out])
 go_step3
 go_wp2_with fail
 go_step3
 go_wp2_with fail
 go_loopg [8] c.aE.length (λg v O=> ∃k:Nat,k+g=c.aE.length/\v= .int .i64 (k:Int)/\Hid (lW c.aj (c.aE.take k)=true)/\O=U)
 case atStart=>exact⟨0,by omega,rfl,h_ (by simp[lW]),rfl⟩
 case round=>
  obtain⟨k,X,rfl,y,r⟩:=hrel;subst r;rcases PQ k c.aE.length with d|d
  ·have K:(k:Int)<(c.aE.length:Int):=by omega
   obtain⟨x,J⟩:∃x,c.aE[k]? =some x:=⟨_,eH d⟩
   obtain⟨b,N,H⟩:=cG HS.out (by intro e;rw[e]at d;simp at d);have cx:wr.cell? ⟨b,N+k,none⟩=some (.int .i64 x):=by have h:=HS.out;rw[H]at h;exact fi h J
   rw[H]at k1;obtain⟨C,z⟩:∃C,gk=C+1:=⟨gk-1,by omega⟩
   have D:=h_ z;have E:Hid ((k+1)+C=c.aE.length):=h_ (by omega);have S:=h_ J;have an:=h_ d;generalize gk=gk0 at*;clear J H X z d;go_wp2_with fail
   go_loopg [13] 12 (λg v O=> ∃p:Nat,p+g=12/\v= .int .i64 (p:Int)/\Hid (∀q:Nat,q<p->(q:Int)≠x)/\Hid ((p:Int)<=c.aj\/p=0)/\O=wr)
   case atStart=>exact⟨0,rfl,rfl,h_ (λq hq=>by omega),h_ (Or.inr rfl),rfl⟩
   case round=>
    obtain⟨p,n,rfl,A,M,r⟩:=hrel;subst r;by_cases L:(p:Int)<c.aj
    ·have Z:p<12:=by have:=HP.out;omega
     by_cases f:x=(p:Int)
     ·have m:Hid (lW c.aj (c.aE.take (k+1))=true):=h_ (by
       unfold lW;exact lI S.out y.out (by rw[f,dt (by omega),dt L];rfl))
      rw[f]at cx;clear f n;go_wp2_with fail
      go_roundg C
      case measure=>have:=D.out;omega
      case rel=>exact⟨k+1,E.out,rfl,m,rfl⟩
     ·have bi:(x==(p:Int))=false:=by simpa using f
      have F:=h_ n;have m:Hid (∀q:Nat,q<p+1->(q:Int)≠x):=h_ (λq hq=>by
       rcases pC (Nat.le_of_lt_succ hq)with h|h
       ·exact A.out q h
       ·rw[h];exact λe=>f e.symm)
      have G:Hid (((p+1:Nat):Int)<=c.aj\/p+1=0):=h_ (Or.inl (by omega));clear f n;go_wp2_with fail
      go_roundg (11-p)
      case measure=>have:=F.out;omega
      case rel=>exact⟨p+1,by omega,by go_num,m,G,rfl⟩
    ·have u:=h_ (i.out wr false (by
      unfold lW;symm;refine il S.out ?_;by_cases h0:0<=x
      ·have l: ¬x<c.aj:=λh=>by
        have h1:=A.out x.toNat (by rcases M.out with h2|h2<;>omega);omega
       rw[dy l,R5]
      ·rw[dy h0];rfl) s.out)
     clear i;go_wp2_with fail;first
      |exact u.out
      |(rw[Exit.noGoto_ret];exact u.out)
  ·have K: ¬(k:Int)<(c.aE.length:Int):=by omega
   have u:=h_ (i.out wr true (by have:=y.out;rw[np d]at this;exact this.symm) s.out);clear i X;go_wp2_with fail;first
    |exact u.out
    |(rw[Exit.noGoto_ret];exact u.out)
end Go.Proofs.YtkmbmfengcdmoaaGreatDoor
namespace Go.Fre2
open Go Go.RowKit
open Go.Free (dC gN find mB)
variable [Rel] {P:Program} {ops:Array Oper} {b:Array Nat} {Rs:List (Nat×gN)} {B:World->Prop} {fin:Act->List (Nat×(World->Prop))->Prop} {o:Oper} {rest:List Oper} {k:Nat} {a:Act} {h:List (Nat×(World->Prop))} {W:Bool} {v x:Value}
theorem bM(e:Region.wanted o (yielded ops a.tmps)=W)(g:find Rs k=none)
  (f:W=true->∀w',B w'->(∀p∈h,mB b k p.1=true->p.2 w')->(execOp a.eval o).run P w'= .ok (.value v) w') (d:chain P ops b Rs B fin rest (k+1) (a.put o.dst (bif W then v else undef)) h):
  chain P ops b Rs B fin (o::rest) k a h:=by
 cases W with
 |true=>exact ae e g (f rfl) d
 |false=>exact dw e d
theorem gg(e:Region.wanted o (yielded ops a.tmps)=W)(g:find Rs k=some (.det x))
  (f:W=true->∀w',B w'->(∀p∈h,mB b k p.1=true->p.2 w')->dC P o a.eval w' λu i=>Grow w' i/\u=x) (d:chain P ops b Rs B fin rest (k+1) (a.put o.dst (bif W then x else undef)) h):
  chain P ops b Rs B fin (o::rest) k a h:=by
 cases W with
 |true=>exact aC e g (f rfl) d
 |false=>exact dw e d
end Go.Fre2
namespace Go.Free
open Go Go.RowKit
def bM:= @Fre2.bM lB
def gg:= @Fre2.gg lB
section
variable {P:Program} {ops:Array Oper} {o:Oper} {rest:List Oper} {a:Act} {w:World} {Q:Exit->Act->World->Prop} {W:Bool} {v:Value} {j t:Nat} {c:Bool}
theorem wT(d:o.guard=some (j,true))(e:(ops[j]?).bind (·.dst)=some t)(f:a.tmps[t]? =some (.bool c)):Region.wanted o (yielded ops a.tmps)=c:=by
 unfold Region.wanted yielded;rw[d];simp only[e,Option.bind_some,f];cases c<;>rfl
theorem D9{d:Bool}(e:o.guard=some (j,false))(f:(ops[j]?).bind (·.dst)=some t)(g:a.tmps[t]? =some (bif c then .bool d else undef)):Region.wanted o (yielded ops a.tmps)=(c&& !d):=by
 unfold Region.wanted yielded;rw[e];simp only[f,Option.bind_some,g];cases c<;>cases d<;>rfl
theorem nh{ρ:Operand->Value}{x y z:Operand}{r:Value}(d:o.op= .pick z x y)(hz:ρ z= .bool c)(e:(bif c then ρ x else ρ y)=r):(execOp ρ o).run P w= .ok (.value r) w:=by
 subst e;unfold execOp;cases c<;>simp[d,hz,asBool]
theorem e9{ρ:Operand->Value}{x y z:Operand}{d:Bool}(e:o.op= .pick z x y)(hz:ρ z= .bool c)(f:ρ x=bif c then .bool d else undef)(g:ρ y= .bool false):(execOp ρ o).run P w= .ok (.value (.bool (c&&d))) w:=
 nh e hz (by rw[f,g];cases c<;>rfl)
theorem yz{ρ:Operand->Value}{x y z:Operand}{d e:Bool}(g:o.op= .pick z x y)(f:c=true)(hz:ρ z=bif c then .bool d else undef)(i:ρ x= .bool true)(l:ρ y=bif (c&& !d)then .bool e else undef):(execOp ρ o).run P w= .ok (.value (.bool (d||e))) w:=by subst f;exact nh (c:=d) g hz (by rw[i,l];cases d<;>rfl)
end
end Go.Free
namespace Go.Row
open Go Go.RowKit
end Go.Row
namespace Go.Cv
open Go
def wX(num den:Int):Bool:=(num==0)&&(den==1)
def r9(P:Int)(H U:Nat)(a:zY):Bool:=
 if ja H a.role then
  if a.kind==1 then
   if(a.rq !=0)||((a.dest != -1)&& !ja H a.dest)then false
   else if a.unit== -1 then wX a.num a.den else decide (0<=a.unit)&&(decide (a.unit<(U:Int))&&rB a.num a.den)
  else if(a.kind==2)||(a.kind==3)then ja H a.rq&&(decide (0<=a.dest)&&(decide (a.dest<P)&&((a.unit== -1)&&wX a.num a.den)))
  else false
 else(a.kind==1)&&((a.role== -1)&&((a.rq==0)&&(((a.dest== -1)||ja H a.dest)&&((a.unit== -1)&&wX a.num a.den))))
end Go.Cv
namespace Go.Proofs.YtkmbmfengcdmoaaGreatDoor
open Go.RowKit Go.W32 Go.ay Go.Cs Go.Lib Go.Opn Go.Mg Go.Cv
theorem Row.rg{w:World}{b:Nat}{T:TypeId}{cs:List Value}(h:Row w b T cs):w.rangeAt b 0 cs:=h.range (λj v d=>by rw[nW];exact d)

theorem tO(W:World)(T U:TypeId)(cs e:List Value):Row ((W.alloc (.cells cs.toArray T)).alloc (.cells e.toArray U)) W.heap.size T cs/\Row ((W.alloc (.cells cs.toArray T)).alloc (.cells e.toArray U)) (W.heap.size+1) U e/\Below W.heap.size W ((W.alloc (.cells cs.toArray T)).alloc (.cells e.toArray U)):=by
 have f:(W.alloc (.cells cs.toArray T)).heap.size=W.heap.size+1:=by simp
 have d:Row (W.alloc (.cells cs.toArray T)) W.heap.size T cs:=Row.new _ _ _;exact⟨d.below ((Below.refl _ _).alloc (aL _) _) d.lt,by rw[<-f];exact Row.new _ _ _,((Below.refl _ _).alloc (aL _) _).alloc (by simp) _⟩
structure Nb (w:World) (b:Nat) (a:zY):Prop where
 a0:w.cell? ⟨b,0,none⟩=some (.int .i64 a.kind)
 a1:w.cell? ⟨b,1,none⟩=some (.int .i64 a.role)
 a2:w.cell? ⟨b,2,none⟩=some (.int .i64 a.rq)
 a3:w.cell? ⟨b,3,none⟩=some (.int .i64 a.dest)
 a4:w.cell? ⟨b,4,none⟩=some (.int .i64 a.unit)
 a5:w.cell? ⟨b,5,none⟩=some (.int .i64 a.num)
 a6:w.cell? ⟨b,6,none⟩=some (.int .i64 a.den)
theorem Nb.of{w:World}{b:Nat}{T:TypeId}{a:zY}(h:Row w b T (ln a)):Nb w b a:=⟨h.at rfl,h.at rfl,h.at rfl,h.at rfl,h.at rfl,h.at rfl,h.at rfl⟩
theorem Nb.rg{w:World}{b:Nat}{a:zY}(h:Nb w b a):w.rangeAt b 5 [.int .i64 a.num, .int .i64 a.den]:=by
 intro j v d
 match j,d with
 |0,d=>cases d;exact h.a5
 |1,d=>cases d;exact h.a6
 |j+2,d=>simp at d
theorem qb{ρ:Operand->Value}{e:Oper}{w:World}{x y:Operand}{n d:Int}{Z:Bool}(l:e.op= .binOp .eql 32 x y 32)(m:ρ x= .agg [.int .i64 n, .int .i64 d].toArray)(p:ρ y= .agg #[.int .i64 0, .int .i64 1])(i:Z=wX n d):
  (execOp ρ e).run Tryz.prog w= .ok (.value (.bool Z)) w:=by
 subst i;unfold execOp wX;simp only[l,m,p];by_cases f:n=0<;>by_cases g:d=1<;>(go_simp<;>simp[f,g])
theorem bc(x y:Int):((x==y)=true/\(x !=y)=false)\/((x==y)=false/\(x !=y)=true):=by by_cases h:x=y<;>simp[h]
theorem dc(p:Prop)[Decidable p]:decide p=true\/decide p=false:=by by_cases h:p<;>simp[h]
theorem kc(x:Int):(x==2)=true\/((x==2)=false/\(x==3)=true)\/((x==2)=false/\(x==3)=false):=by
 rcases bc x 2 with h|h
 ·exact .inl h.1
 ·rcases bc x 3 with k|k
  ·exact .inr (.inl ⟨h.1,k.1⟩)
  ·exact .inr (.inr ⟨h.1,k.1⟩)
set_option maxHeartbeats 4000000 in
theorem KS(c:cZ)(a:zY)(W:World):Calls Tryz.prog 156 #[.agg (cD c).toArray, .agg (ln a).toArray] W λe w'=>e= .returned (.bool (r9 c.aj c.aE.length c.bP.length a))/\Below W.heap.size W w':=by
 obtain⟨R,eR⟩:=x_ (λe w'=>e= .returned (.bool (r9 c.aj c.aE.length c.bP.length a))/\Below W.heap.size W w':Ending->World->Prop)
 rw[<-eR];have z:Hid (∀w' v,v=r9 c.aj c.aE.length c.bP.length a->Below W.heap.size W w'->R (.returned (.bool v)) w'):=h_ λw' v h l=>by rw[eR,h];exact⟨rfl,l⟩
 clear eR;obtain⟨D,N⟩:=x_ (cD c)
 obtain⟨ds,f9⟩:=x_ (ln a)
 obtain⟨I,gc,ip⟩:=tO W 27 155 D ds;have E:=λi w=>wP c i w
 rw[<-N]at E⊢;rw[<-f9];generalize eW:(W.alloc (.cells D.toArray 27)).alloc (.cells ds.toArray 155)=W2 at*;have E1:=h_ eW;have L:Hid (∀w',Below W2.heap.size W2 w'->Nb w' (W.heap.size+1) a):=h_ λw' l=>Nb.of (T:=155) (by rw[<-f9];exact gc.below l gc.lt)
 have gt:Hid (∀w',Below W2.heap.size W2 w'->jK w' W.heap.size c):=h_ λw' l=>jK.of (T:=27) (by rw[<-N];exact I.below l I.lt)
 have d6:Hid (∀w',Below W2.heap.size W2 w'->w'.rangeAt W.heap.size 0 D):=h_ λw' l=>(I.below l I.lt).rg
 have HI:=h_ (ig D (by rw[N];rfl));obtain⟨J,G⟩:=x_ ([.int .i64 a.num, .int .i64 a.den]:List Value)
 have U:Hid (∀w',Below W2.heap.size W2 w'->w'.rangeAt (W.heap.size+1) 5 J):=h_ λw' l=>by rw[G];exact(L.out w' l).rg
 have K:=h_ (rL J (by rw[G];rfl));have co:Hid (Value.agg J.toArray= .agg [.int .i64 a.num, .int .i64 a.den].toArray):=h_ (by rw[G]);have dl:=h_ ip;obtain⟨Z,eZ⟩:=x_ (wX a.num a.den)
 have EZ:=h_ eZ;obtain⟨RB,d9⟩:=x_ (ja c.aE.length a.role)
 obtain⟨TB,f8⟩:=x_ (ja c.aE.length a.dest)
 obtain⟨GB,d7⟩:=x_ (ja c.aE.length a.rq)
 obtain⟨PB,d8⟩:=x_ (rB a.num a.den)
 have an:=h_ (E a.role W2);have bi:=h_ (E a.dest);have ge:=h_ (E a.rq);have ci:=h_ (λw=>Ds a.num a.den w);rw[show(#[.int .i64 a.num, .int .i64 a.den]:Array Value)=J.toArray by rw[G]]at ci;rw[<-d9]at an;rw[<-f8]at bi;rw[<-d7]at ge;rw[<-d8]at ci;have M:Hid (r9 c.aj c.aE.length c.bP.length a=(if RB then(if a.kind==1 then(if(a.rq !=0)||((a.dest != -1)&& !TB)then false else if a.unit== -1 then Z else decide (0<=a.unit)&&(decide (a.unit<(c.bP.length:Int))&&PB))else if(a.kind==2)||(a.kind==3)then GB&&(decide (0<=a.dest)&&(decide (a.dest<c.aj)&&((a.unit== -1)&&Z)))else false)else(a.kind==1)&&((a.role== -1)&&((a.rq==0)&&(((a.dest== -1)||TB)&&((a.unit== -1)&&Z)))))):=h_ (by unfold r9;rw[eZ,d9,f8,d7,d8]);have F:=h_ (d6.out W2 (Below.refl _ _));obtain⟨X,Y,a2,a3,a4,a5,a6⟩:=L.out W2 (Below.refl _ _);clear N f9 I gc ip E eW G eZ d9 f8 d7 d8 X a2 a3 a4 a5 a6;go_enter Tryz.func156,Tryz.ntmps156;go_wp2_with (first
  |(simp only[E1.out])
  |(refine aH (.tmp 2) ?_;refine wpList_load_mid rfl 27 (.tmp 2) rfl W.heap.size 0 rfl D _ F.out Tryz.underlying27 rfl HI.out ?_))
 refine an.out.mono ?_;rintro e q ⟨rfl,n⟩;have u:Hid (∀w',Below q.heap.size q w'->Nb w' (W.heap.size+1) a):=h_ λw' l=>L.out w' (n.trans (l.mono n.size))
 have s:Hid (∀w',Below q.heap.size q w'->jK w' W.heap.size c):=h_ λw' l=>gt.out w' (n.trans (l.mono n.size))
 have HM:Hid (∀w',Below q.heap.size q w'->w'.rangeAt W.heap.size 0 D):=h_ λw' l=>d6.out w' (n.trans (l.mono n.size))
 have C:Hid (∀w',Below q.heap.size q w'->w'.rangeAt (W.heap.size+1) 5 J):=h_ λw' l=>U.out w' (n.trans (l.mono n.size))
 have p:=h_ (dl.out.trans (n.mono dl.out.size));clear n Y L gt d6 U dl an F;cases RB
 case' false=>
  go_wp2_with fail;refine Free.ai 35 [(21, .det (.bool TB)),(32, .det (.agg #[.int .i64 0, .int .i64 1]))] (λw'=>Below q.heap.size q w') (by kernel_rfl) (by kernel_rfl) (Free.aW (λj mk r H=>by simp only[Free.find]at H;repeat' (first|cases H|split at H))) (Below.refl _ _).drew (λ_ _ h g=>h.trans (Below.mono g h.size)) ?_;simp only[eJ,dT];iterate 4 (apply Free.ae (Free.wq rfl) rfl;(intro w' d m;cases u.out w' d;cases s.out w' d;clear m;go_light;go_simp<;>rfl);(try simp only[Pt]))
  iterate 3 (apply Free.bM (Free.wT rfl rfl rfl) rfl;(intro l w' d m;cases u.out w' d;cases s.out w' d;clear m;(try simp only[l,cond_true]);clear l;go_light;go_simp<;>rfl);simp only[Pt])
  apply Free.ae rfl rfl;(intro w' d m;exact Free.e9 rfl rfl rfl rfl);simp only[Pt];iterate 1 (apply Free.ae (Free.wq rfl) rfl;(intro w' d m;cases u.out w' d;cases s.out w' d;clear m;go_light;go_simp<;>rfl);(try simp only[Pt]))
  iterate 3 (apply Free.bM (Free.wT rfl rfl rfl) rfl;(intro l w' d m;cases u.out w' d;cases s.out w' d;clear m;(try simp only[l,cond_true]);clear l;go_light;go_simp<;>rfl);simp only[Pt])
  apply Free.ae rfl rfl;(intro w' d m;exact Free.e9 rfl rfl rfl rfl);simp only[Pt];iterate 1 (apply Free.ae (Free.wq rfl) rfl;(intro w' d m;cases u.out w' d;cases s.out w' d;clear m;go_light;go_simp<;>rfl);(try simp only[Pt]))
  iterate 4 (apply Free.bM (Free.wT rfl rfl rfl) rfl;(intro l w' d m;cases u.out w' d;cases s.out w' d;clear m;(try simp only[l,cond_true]);clear l;go_light;go_simp<;>rfl);simp only[Pt])
  apply Free.bM (Free.D9 rfl rfl rfl) rfl;(intro l w' d m;(try simp only[l,cond_true]);exact Hk.aU 27 (.tmp 2) rfl W.heap.size 0 rfl D _ (HM.out _ d) Tryz.underlying27 rfl HI.out);simp only[Pt];iterate 2 (apply Free.bM (Free.D9 rfl rfl rfl) rfl;(intro l w' d m;cases u.out w' d;cases s.out w' d;clear m;(try simp only[l,cond_true]);clear l;go_light;go_simp<;>rfl);simp only[Pt])
  apply Free.gg (Free.D9 rfl rfl rfl) rfl;(intro l w' d m;(try simp only[l,cond_true]);refine Free.au (f:=161) (args:= #[.agg D.toArray, .int .i64 a.dest]) (by clear d m;go_simp<;>rfl) ?_;refine(bi.out _).mono ?_;rintro e q ⟨rfl,n⟩;exact⟨_,rfl,n,rfl⟩);simp only[Pt];apply Free.bM (Free.wT rfl rfl rfl) rfl;(intro l w' d m;exact Free.yz rfl l rfl rfl rfl);simp only[Pt];apply Free.ae rfl rfl;(intro w' d m;exact Free.e9 rfl rfl rfl rfl);simp only[Pt];iterate 1 (apply Free.ae (Free.wq rfl) rfl;(intro w' d m;cases u.out w' d;cases s.out w' d;clear m;go_light;go_simp<;>rfl);(try simp only[Pt]))
  iterate 3 (apply Free.bM (Free.wT rfl rfl rfl) rfl;(intro l w' d m;cases u.out w' d;cases s.out w' d;clear m;(try simp only[l,cond_true]);clear l;go_light;go_simp<;>rfl);simp only[Pt])
  apply Free.ae rfl rfl;(intro w' d m;exact Free.e9 rfl rfl rfl rfl);simp only[Pt];iterate 1 (apply Free.ae (Free.wq rfl) rfl;(intro w' d m;cases u.out w' d;cases s.out w' d;clear m;go_light;go_simp<;>rfl);(try simp only[Pt]))
  iterate 1 (apply Free.bM (Free.wT rfl rfl rfl) rfl;(intro l w' d m;cases u.out w' d;cases s.out w' d;clear m;(try simp only[l,cond_true]);clear l;go_light;go_simp<;>rfl);simp only[Pt])
  apply Free.bM (Free.wT rfl rfl rfl) rfl;(intro l w' d m;(try simp only[l,cond_true]);exact Hk.aU 32 (.tmp 40) rfl (W.heap.size+1) 5 rfl J _ (C.out _ d) Tryz.underlying32 rfl K.out);simp only[Pt];apply Free.gg (Free.wT rfl rfl rfl) rfl;(intro l w' d m;(try simp only[l,cond_true]);refine Free.au (f:=159) (args:= #[]) (by clear d m;go_simp<;>rfl) ?_;refine(sV _).mono ?_;rintro e q ⟨rfl,n⟩;exact⟨_,rfl,n,rfl⟩);simp only[Pt];apply Free.bM (Free.wT rfl rfl rfl) rfl;(intro l w' d m;(try simp only[l,cond_true]);exact qb rfl co.out rfl EZ.out);simp only[Pt];apply Free.ae rfl rfl;(intro w' d m;exact Free.e9 rfl rfl rfl rfl);simp only[Pt];apply Free.ax;intro w6 A _ _;simp only[fm,fo];have HW:=h_ (p.out.trans (A.mono p.out.size));clear A;go_wp2_with fail;exact z.out _ _ (by rw[M.out];simp[Bool.and_assoc]) HW.out
 rcases bc a.kind 1 with⟨q1,i'⟩|⟨q1,i'⟩
 rotate_left
 ·obtain⟨X,Y,a2,a3,a4,a5,a6⟩:=u.out q (Below.refl _ _);obtain⟨k0,k1,k2,k3,k4,k5,k6⟩:=s.out q (Below.refl _ _);have KK:Hid (((a.kind==2)||(a.kind==3))=true\/((a.kind==2)||(a.kind==3))=false):=h_ (by cases ((a.kind==2)||(a.kind==3))<;>simp);clear KK;rcases kc a.kind with q2|⟨q2,q3⟩|⟨q2,q3⟩
  rotate_left 2
  ·go_wp2_with fail;exact z.out _ _ (by rw[M.out];simp[*]) p.out
  all_goals
   have KK:Hid (((a.kind==2)||(a.kind==3))=true):=h_ (by simp[*]);go_wp2_with fail;clear X Y a2 a3 a4 a5 a6 k0 k1 k2 k3 k4 k5 k6;refine Free.ai 27 [(3, .det (.bool GB)),(24, .det (.agg #[.int .i64 0, .int .i64 1]))] (λw'=>Below q.heap.size q w') (by kernel_rfl) (by kernel_rfl) (Free.aW (λj mk r H=>by simp only[Free.find]at H;repeat' (first|cases H|split at H))) (Below.refl _ _).drew (λ_ _ h g=>h.trans (Below.mono g h.size)) ?_;simp only[eJ,dT];apply Free.ae (Free.wq rfl) rfl;(intro w' d m;exact Hk.aU 27 (.tmp 2) rfl W.heap.size 0 rfl D _ (HM.out _ d) Tryz.underlying27 rfl HI.out);simp only[Pt];iterate 2 (apply Free.ae (Free.wq rfl) rfl;(intro w' d m;cases u.out w' d;cases s.out w' d;clear m;go_light;go_simp<;>rfl);(try simp only[Pt]))
   apply Free.aC (Free.wq rfl) rfl;(intro w' d m;refine Free.au (f:=161) (args:= #[.agg D.toArray, .int .i64 a.rq]) (by clear d m;go_simp<;>rfl) ?_;refine(ge.out _).mono ?_;rintro e q ⟨rfl,n⟩;exact⟨_,rfl,n,rfl⟩);simp only[Pt];iterate 1 (apply Free.ae (Free.wq rfl) rfl;(intro w' d m;cases u.out w' d;cases s.out w' d;clear m;go_light;go_simp<;>rfl);(try simp only[Pt]))
   iterate 3 (apply Free.bM (Free.wT rfl rfl rfl) rfl;(intro l w' d m;cases u.out w' d;cases s.out w' d;clear m;(try simp only[l,cond_true]);clear l;go_light;go_simp<;>rfl);simp only[Pt])
   apply Free.ae rfl rfl;(intro w' d m;exact Free.e9 rfl rfl rfl rfl);simp only[Pt];iterate 1 (apply Free.ae (Free.wq rfl) rfl;(intro w' d m;cases u.out w' d;cases s.out w' d;clear m;go_light;go_simp<;>rfl);(try simp only[Pt]))
   iterate 5 (apply Free.bM (Free.wT rfl rfl rfl) rfl;(intro l w' d m;cases u.out w' d;cases s.out w' d;clear m;(try simp only[l,cond_true]);clear l;go_light;go_simp<;>rfl);simp only[Pt])
   apply Free.ae rfl rfl;(intro w' d m;exact Free.e9 rfl rfl rfl rfl);simp only[Pt];iterate 1 (apply Free.ae (Free.wq rfl) rfl;(intro w' d m;cases u.out w' d;cases s.out w' d;clear m;go_light;go_simp<;>rfl);(try simp only[Pt]))
   iterate 3 (apply Free.bM (Free.wT rfl rfl rfl) rfl;(intro l w' d m;cases u.out w' d;cases s.out w' d;clear m;(try simp only[l,cond_true]);clear l;go_light;go_simp<;>rfl);simp only[Pt])
   apply Free.ae rfl rfl;(intro w' d m;exact Free.e9 rfl rfl rfl rfl);simp only[Pt];iterate 1 (apply Free.ae (Free.wq rfl) rfl;(intro w' d m;cases u.out w' d;cases s.out w' d;clear m;go_light;go_simp<;>rfl);(try simp only[Pt]))
   iterate 1 (apply Free.bM (Free.wT rfl rfl rfl) rfl;(intro l w' d m;cases u.out w' d;cases s.out w' d;clear m;(try simp only[l,cond_true]);clear l;go_light;go_simp<;>rfl);simp only[Pt])
   apply Free.bM (Free.wT rfl rfl rfl) rfl;(intro l w' d m;(try simp only[l,cond_true]);exact Hk.aU 32 (.tmp 112) rfl (W.heap.size+1) 5 rfl J _ (C.out _ d) Tryz.underlying32 rfl K.out);simp only[Pt];apply Free.gg (Free.wT rfl rfl rfl) rfl;(intro l w' d m;(try simp only[l,cond_true]);refine Free.au (f:=159) (args:= #[]) (by clear d m;go_simp<;>rfl) ?_;refine(sV _).mono ?_;rintro e q ⟨rfl,n⟩;exact⟨_,rfl,n,rfl⟩);simp only[Pt];apply Free.bM (Free.wT rfl rfl rfl) rfl;(intro l w' d m;(try simp only[l,cond_true]);exact qb rfl co.out rfl EZ.out);simp only[Pt];apply Free.ae rfl rfl;(intro w' d m;exact Free.e9 rfl rfl rfl rfl);simp only[Pt];apply Free.ax;intro w6 A _ _;simp only[fm,fo];have HW:=h_ (p.out.trans (A.mono p.out.size));clear A;go_wp2_with fail;exact z.out _ _ (by rw[M.out];simp[q1,KK.out,Bool.and_assoc]) HW.out
 rcases bc a.rq 0 with⟨q2,jp⟩|⟨q2,jp⟩
 rotate_left
 ·obtain⟨X,Y,a2,a3,a4,a5,a6⟩:=u.out q (Below.refl _ _);obtain⟨k0,k1,k2,k3,k4,k5,k6⟩:=s.out q (Below.refl _ _);go_wp2_with fail;exact z.out _ _ (by rw[M.out];simp[*]) p.out
 rcases bc a.dest (-1)with⟨q4,kw⟩|⟨q4,kw⟩
 rotate_left;obtain⟨X,Y,a2,a3,a4,a5,a6⟩:=u.out q (Below.refl _ _);obtain⟨k0,k1,k2,k3,k4,k5,k6⟩:=s.out q (Below.refl _ _);have F:=h_ (HM.out q (Below.refl _ _));focus go_wp2_with (refine aH (.tmp 2) ?_;refine Row.still (Free.wq rfl) (Hk.aU 27 (.tmp 2) rfl W.heap.size 0 rfl D _ F.out Tryz.underlying27 rfl HI.out) ?_;simp only[Pt])
 refine(bi.out _).mono ?_;rintro e O ⟨rfl,y⟩;have ii:Hid (∀w',Below O.heap.size O w'->Nb w' (W.heap.size+1) a):=h_ λw' l=>u.out w' (y.trans (l.mono y.size))
 have g7:Hid (∀w',Below O.heap.size O w'->jK w' W.heap.size c):=h_ λw' l=>s.out w' (y.trans (l.mono y.size))
 have g8:Hid (∀w',Below O.heap.size O w'->w'.rangeAt W.heap.size 0 D):=h_ λw' l=>HM.out w' (y.trans (l.mono y.size))
 have V:Hid (∀w',Below O.heap.size O w'->w'.rangeAt (W.heap.size+1) 5 J):=h_ λw' l=>C.out w' (y.trans (l.mono y.size))
 have S:=h_ (p.out.trans (y.mono p.out.size));clear y u s HM C p X Y a2 a3 a4 a5 a6 k0 k1 k2 k3 k4 k5 k6 F;have u:=ii;have s:=g7;have HM:=g8;have C:=V;have p:=S;clear ii g7 g8 V S;generalize O=q at*;cases TB
 ·go_wp2_with fail;exact z.out _ _ (by rw[M.out];simp[*]) p.out
 all_goals
  obtain⟨X,Y,a2,a3,a4,a5,a6⟩:=u.out q (Below.refl _ _);obtain⟨k0,k1,k2,k3,k4,k5,k6⟩:=s.out q (Below.refl _ _);rcases bc a.unit (-1)with⟨q5,ld⟩|⟨q5,ld⟩
  ·go_wp2_with fail;clear X Y a2 a3 a4 a5 a6 k0 k1 k2 k3 k4 k5 k6;refine Free.ai 4 [(2, .det (.agg #[.int .i64 0, .int .i64 1]))] (λw'=>Below q.heap.size q w') (by kernel_rfl) (by kernel_rfl) (Free.aW (λj mk r H=>by simp only[Free.find]at H;repeat' (first|cases H|split at H))) (Below.refl _ _).drew (λ_ _ h g=>h.trans (Below.mono g h.size)) ?_;simp only[eJ,dT];iterate 1 (apply Free.ae (Free.wq rfl) rfl;(intro w' d m;cases u.out w' d;cases s.out w' d;clear m;go_light;go_simp<;>rfl);(try simp only[Pt]))
   apply Free.ae rfl rfl;(intro w' d m;exact Hk.aU 32 (.tmp 67) rfl (W.heap.size+1) 5 rfl J _ (C.out _ d) Tryz.underlying32 rfl K.out);simp only[Pt];apply Free.aC rfl rfl;(intro w' d m;refine Free.au (f:=159) (args:= #[]) (by clear d m;go_simp<;>rfl) ?_;refine(sV _).mono ?_;rintro e q ⟨rfl,n⟩;exact⟨_,rfl,n,rfl⟩);simp only[Pt];apply Free.ae rfl rfl;(intro w' d m;exact qb rfl co.out rfl EZ.out);simp only[Pt];apply Free.ax;intro w6 A _ _;simp only[fm,fo];have HW:=h_ (p.out.trans (A.mono p.out.size));clear A;go_wp2_with fail;exact z.out _ _ (by rw[M.out];simp[*]) HW.out
  rcases dc (0<=a.unit)with q6|q6;rotate_left
  ·go_wp2_with fail;exact z.out _ _ (by rw[M.out];simp[*]) p.out
  rcases dc (a.unit<(c.bP.length:Int))with q7|q7;rotate_left
  ·go_wp2_with fail;exact z.out _ _ (by rw[M.out];simp[*]) p.out
  have i9:=h_ (C.out q (Below.refl _ _));have i8:=h_ (ci.out q);go_wp2_with (refine aH (.tmp 83) ?_;refine Row.still (Free.wq rfl) (Hk.aU 32 (.tmp 83) rfl (W.heap.size+1) 5 rfl J _ i9.out Tryz.underlying32 rfl K.out) ?_;simp only[Pt])
  refine i8.out.mono ?_;rintro e w5 ⟨rfl,io⟩;have HW:=h_ (p.out.trans (io.mono p.out.size));clear io;go_wp2_with fail;exact z.out _ _ (by rw[M.out];simp[*]) HW.out
end Go.Proofs.YtkmbmfengcdmoaaGreatDoor
