/- Package contract: framed. Condition: the contract lies in memory, its lists are short. -/
import Derived.Test.YtkmbmfengcdmoaaGreatDoorZAM
import Derived.Deep.LoopGhost
set_option maxRecDepth 100000
set_option linter.all false
namespace Go.Proofs.YtkmbmfengcdmoaaGreatDoor
open Go.RowKit Go.W32 Go.ay Go.Cs Go.Lib Go.Opn Go.Mg Go.Cv

set_option maxHeartbeats 1000000 in
theorem Dp(c:cZ)(i:Int)(W:World)(hc:dV W c):Calls Tryz.prog 158 #[.agg (cD c).toArray, .int .i64 i] W λe w'=>e= .returned (.bool (lz c.bQ i))/\Below W.heap.size W w':=by
 obtain⟨R,eR⟩:=x_ (λe w'=>e= .returned (.bool (lz c.bQ i))/\Below W.heap.size W w':Ending->World->Prop)
 rw[<-eR];have FIN:Hid (∀w' v,v=lz c.bQ i->Below W.heap.size W w'->R (.returned (.bool v)) w'):=h_ λw' v h hb=>by rw[eR,h];exact⟨rfl,hb⟩
 clear eR;obtain⟨W1,cs,hx⟩:=uh W c;obtain⟨k0,k1,k2,k3,k4,k5,k6⟩:=jK.of (T:=27) (b:=W.heap.size) (w:=W1) (c:=c) (by rw[<-hx.cs];exact hx.row);have E1:=h_ hx.e;have HB1:=h_ hx.below;have hA:=hc.a.below hx.below (aL _);rw[<-hx.cs];clear hx k0 k1 k2 k4 k5 k6 hc;by_cases h:0<=i;rotate_left
 ·have hb:decide (0<=i)=false:=dy h;have HF:=h_ (FIN.out W1 false (by unfold lz ja;rw[hb];rfl) HB1.out);clear FIN hA;go_enter Tryz.func158,Tryz.ntmps158;go_wp2_with (simp only[E1.out])
  exact HF.out
 have hb:decide (0<=i)=true:=dt h;by_cases h2:i<(c.bQ.length:Int);rotate_left
 ·have hb2:decide (i<(c.bQ.length:Int))=false:=dy h2;have HF:=h_ (FIN.out W1 false (by unfold lz ja;rw[hb2,R5];rfl) HB1.out);clear FIN hA;go_enter Tryz.func158,Tryz.ntmps158;go_wp2_with (simp only[E1.out])
  exact HF.out
 have hb2:decide (i<(c.bQ.length:Int))=true:=dt h2;obtain⟨j,rfl⟩:∃j:Nat,i=(j:Int):=⟨i.toNat,by omega⟩
 obtain⟨a,ea⟩:∃x,c.bQ[j]? =some x:=⟨_,eH (by omega)⟩
 obtain⟨b,off,eA⟩:=cG hA (by intro e;rw[e]at ea;simp at ea);rw[eA]at k3 hA;have hr:=dq hA ea;have a0:W1.cell? ⟨b,off+j*7,none⟩=some (.int .i64 a.kind):=by have h:=hr 0 (.int .i64 a.kind) rfl;rwa[KO]at h
 have a1:W1.cell? ⟨b,off+j*7+1,none⟩=some (.int .i64 a.role):=hr 1 _ rfl;have HV:Hid (lz c.bQ (j:Int)=(decide (a.kind=1)&&decide (a.role= -1))):=h_ (by unfold lz ja;rw[hb,hb2,tZ,ea];rfl);clear hr hA ea eA;by_cases h3:a.kind=1;rotate_left
 ·have hb3:(a.kind==1)=false:=by simpa using h3
  have HF:=h_ (FIN.out W1 false (by rw[HV.out,dy h3];rfl) HB1.out);clear FIN HV h3;go_enter Tryz.func158,Tryz.ntmps158;go_wp2_with (simp only[E1.out])
  exact HF.out
 have hb3:(a.kind==1)=true:=by simpa using h3
 by_cases h4:a.role= -1
 ·have hb4:(a.role== -1)=true:=by simpa using h4
  have HF:=h_ (FIN.out W1 true (by rw[HV.out,dt h3,dt h4];rfl) HB1.out);clear FIN HV h3 h4;go_enter Tryz.func158,Tryz.ntmps158;go_wp2_with (simp only[E1.out])
  exact HF.out
 ·have hb4:(a.role== -1)=false:=by simpa using h4
  have HF:=h_ (FIN.out W1 false (by rw[HV.out,dy h4,R5]) HB1.out);clear FIN HV h3 h4;go_enter Tryz.func158,Tryz.ntmps158;go_wp2_with (simp only[E1.out])
  exact HF.out
def lW(aj:Int)(l:List Int):Bool:=l.all λh=>decide (0<=h)&&decide (h<aj)
set_option maxHeartbeats 1000000 in
theorem IL(c:cZ)(W:World)(hc:dV W c)(hn:c.aE.length<=12)(hp:c.aj<=12):Calls Tryz.prog 154 #[.agg (cD c).toArray] W λe w'=>e= .returned (.bool (lW c.aj c.aE))/\Below W.heap.size W w':=by
 obtain⟨R,eR⟩:=x_ (λe w'=>e= .returned (.bool (lW c.aj c.aE))/\Below W.heap.size W w':Ending->World->Prop)
 rw[<-eR];have FIN:Hid (∀w' v,v=lW c.aj c.aE->Below W.heap.size W w'->R (.returned (.bool v)) w'):=h_ λw' v h hb=>by rw[eR,h];exact⟨rfl,hb⟩
 clear eR;obtain⟨W1,cs,hx⟩:=uh W c;obtain⟨k0,k1,k2,k3,k4,k5,k6⟩:=jK.of (T:=27) (b:=W.heap.size) (w:=W1) (c:=c) (by rw[<-hx.cs];exact hx.row);have E1:=h_ hx.e;have HB1:=h_ hx.below;have HS:=h_ (hc.h.below hx.below (aL _));rw[<-hx.cs];clear hx k2 k3 k4 k5 k6 hc;have HP:=h_ hp;clear hp;go_enter Tryz.func154,Tryz.ntmps154;go_wp2_with (simp only[E1.out])
 go_step3
 go_wp2_with fail
 go_step3
 go_wp2_with fail
 go_loopg [8] c.aE.length (λg v wx=> ∃k:Nat,k+g=c.aE.length/\v= .int .i64 (k:Int)/\Hid (lW c.aj (c.aE.take k)=true)/\wx=W1)
 case atStart=>exact⟨0,by omega,rfl,h_ (by simp[lW]),rfl⟩
 case round=>
  obtain⟨k,hk,rfl,hal,hwx⟩:=hrel;subst hwx;rcases PQ k c.aE.length with hkl|hkl
  ·have hki:(k:Int)<(c.aE.length:Int):=by omega
   obtain⟨x,ex⟩:∃x,c.aE[k]? =some x:=⟨_,eH hkl⟩
   obtain⟨b,off,eA⟩:=cG HS.out (by intro e;rw[e]at hkl;simp at hkl);have cx:wr.cell? ⟨b,off+k,none⟩=some (.int .i64 x):=by have h:=HS.out;rw[eA]at h;exact fi h ex
   rw[eA]at k1;obtain⟨go,hgo⟩:∃go,gk=go+1:=⟨gk-1,by omega⟩
   have HGO:=h_ hgo;have HKG:Hid ((k+1)+go=c.aE.length):=h_ (by omega);have EX:=h_ ex;have HKL:=h_ hkl;generalize gk=gk0 at*;clear ex eA hk hgo hkl;go_wp2_with fail
   go_loopg [13] 12 (λg v wx=> ∃p:Nat,p+g=12/\v= .int .i64 (p:Int)/\Hid (∀q:Nat,q<p->(q:Int)≠x)/\Hid ((p:Int)<=c.aj\/p=0)/\wx=wr)
   case atStart=>exact⟨0,rfl,rfl,h_ (λq hq=>by omega),h_ (Or.inr rfl),rfl⟩
   case round=>
    obtain⟨p,hpg,rfl,hpp,hpl,hwx⟩:=hrel;subst hwx;by_cases hlt:(p:Int)<c.aj
    ·have hp12:p<12:=by have:=HP.out;omega
     by_cases hxp:x=(p:Int)
     ·have HNX:Hid (lW c.aj (c.aE.take (k+1))=true):=h_ (by
       unfold lW;exact lI EX.out hal.out (by rw[hxp,dt (by omega),dt hlt];rfl))
      rw[hxp]at cx;clear hxp hpg;go_wp2_with fail
      go_roundg go
      case measure=>have:=HGO.out;omega
      case rel=>exact⟨k+1,HKG.out,rfl,HNX,rfl⟩
     ·have hxb:(x==(p:Int))=false:=by simpa using hxp
      have HPG:=h_ hpg;have HNX:Hid (∀q:Nat,q<p+1->(q:Int)≠x):=h_ (λq hq=>by
       rcases pC (Nat.le_of_lt_succ hq)with h|h
       ·exact hpp.out q h
       ·rw[h];exact λe=>hxp e.symm)
      have HPX:Hid (((p+1:Nat):Int)<=c.aj\/p+1=0):=h_ (Or.inl (by omega));clear hxp hpg;go_wp2_with fail
      go_roundg (11-p)
      case measure=>have:=HPG.out;omega
      case rel=>exact⟨p+1,by omega,by go_num,HNX,HPX,rfl⟩
    ·have HF:=h_ (FIN.out wr false (by
      unfold lW;symm;refine il EX.out ?_;by_cases h0:0<=x
      ·have hx: ¬x<c.aj:=λh=>by
        have h1:=hpp.out x.toNat (by rcases hpl.out with h2|h2<;>omega);omega
       rw[dy hx,R5]
      ·rw[dy h0];rfl) HB1.out)
     clear FIN;go_wp2_with fail;first
      |exact HF.out
      |(rw[Exit.noGoto_ret];exact HF.out)
  ·have hki: ¬(k:Int)<(c.aE.length:Int):=by omega
   have HF:=h_ (FIN.out wr true (by have:=hal.out;rw[np hkl]at this;exact this.symm) HB1.out);clear FIN hk;go_wp2_with fail;first
    |exact HF.out
    |(rw[Exit.noGoto_ret];exact HF.out)
end Go.Proofs.YtkmbmfengcdmoaaGreatDoor
namespace Go.Cv
open Go
def wX(num den:Int):Bool:=(num==0)&&(den==1)
def r9(P:Int)(H U:Nat)(a:zY):Bool:=
 if ja H a.role then
  if a.kind==1 then
   if(a.rq !=0)||((a.dest != -1)&& !ja H a.dest)then false
   else if a.unit== -1 then wX a.num a.den else decide (0<=a.unit)&&(decide (a.unit<(U:Int))&&rB a.num a.den)
  else if(a.kind==2)||(a.kind==3)then ja H a.rq&&(decide (0<=a.dest)&&(decide (a.dest<P)&&((a.unit== -1)&&wX a.num a.den)))
  else false
 else(a.kind==1)&&((a.role== -1)&&((a.rq==0)&&(((a.dest== -1)||ja H a.dest)&&((a.unit== -1)&&wX a.num a.den))))
end Go.Cv
namespace Go.Proofs.YtkmbmfengcdmoaaGreatDoor
open Go.RowKit Go.W32 Go.ay Go.Cs Go.Lib Go.Opn Go.Mg Go.Cv
theorem Row.rg{w:World}{b:Nat}{T:TypeId}{cs:List Value}(h:Row w b T cs):w.rangeAt b 0 cs:=h.range (λj v hj=>by rw[nW];exact hj)

theorem tO(W:World)(T U:TypeId)(cs ds:List Value):Row ((W.alloc (.cells cs.toArray T)).alloc (.cells ds.toArray U)) W.heap.size T cs/\Row ((W.alloc (.cells cs.toArray T)).alloc (.cells ds.toArray U)) (W.heap.size+1) U ds/\Below W.heap.size W ((W.alloc (.cells cs.toArray T)).alloc (.cells ds.toArray U)):=by
 have z1:(W.alloc (.cells cs.toArray T)).heap.size=W.heap.size+1:=by simp
 have hr1:Row (W.alloc (.cells cs.toArray T)) W.heap.size T cs:=Row.new _ _ _;exact⟨hr1.below ((Below.refl _ _).alloc (aL _) _) hr1.lt,by rw[<-z1];exact Row.new _ _ _,((Below.refl _ _).alloc (aL _) _).alloc (by simp) _⟩
structure Nb (w:World) (b:Nat) (a:zY):Prop where
 a0:w.cell? ⟨b,0,none⟩=some (.int .i64 a.kind)
 a1:w.cell? ⟨b,1,none⟩=some (.int .i64 a.role)
 a2:w.cell? ⟨b,2,none⟩=some (.int .i64 a.rq)
 a3:w.cell? ⟨b,3,none⟩=some (.int .i64 a.dest)
 a4:w.cell? ⟨b,4,none⟩=some (.int .i64 a.unit)
 a5:w.cell? ⟨b,5,none⟩=some (.int .i64 a.num)
 a6:w.cell? ⟨b,6,none⟩=some (.int .i64 a.den)
theorem Nb.of{w:World}{b:Nat}{T:TypeId}{a:zY}(h:Row w b T (ln a)):Nb w b a:=⟨h.at rfl,h.at rfl,h.at rfl,h.at rfl,h.at rfl,h.at rfl,h.at rfl⟩
theorem Nb.rg{w:World}{b:Nat}{a:zY}(h:Nb w b a):w.rangeAt b 5 [.int .i64 a.num, .int .i64 a.den]:=by
 intro j v hj
 match j,hj with
 |0,hj=>cases hj;exact h.a5
 |1,hj=>cases hj;exact h.a6
 |j+2,hj=>simp at hj
theorem qb{ρ:Operand->Value}{op:Oper}{w:World}{x y:Operand}{n d:Int}{Z:Bool}(ho:op.op= .binOp .eql 32 x y 32)(hx:ρ x= .agg [.int .i64 n, .int .i64 d].toArray)(hy:ρ y= .agg #[.int .i64 0, .int .i64 1])(hZ:Z=wX n d):
  (execOp ρ op).run Tryz.prog w= .ok (.value (.bool Z)) w:=by
 subst hZ;unfold execOp wX;simp only[ho,hx,hy];by_cases h1:n=0<;>by_cases h2:d=1<;>(go_simp<;>simp[h1,h2])
set_option maxHeartbeats 4000000 in
theorem KS(c:cZ)(a:zY)(W:World):Calls Tryz.prog 156 #[.agg (cD c).toArray, .agg (ln a).toArray] W λe w'=>e= .returned (.bool (r9 c.aj c.aE.length c.bP.length a))/\Below W.heap.size W w':=by
 obtain⟨R,eR⟩:=x_ (λe w'=>e= .returned (.bool (r9 c.aj c.aE.length c.bP.length a))/\Below W.heap.size W w':Ending->World->Prop)
 rw[<-eR];have FIN:Hid (∀w' v,v=r9 c.aj c.aE.length c.bP.length a->Below W.heap.size W w'->R (.returned (.bool v)) w'):=h_ λw' v h hb=>by rw[eR,h];exact⟨rfl,hb⟩
 clear eR;obtain⟨cs,ecs⟩:=x_ (cD c)
 obtain⟨ds,eds⟩:=x_ (ln a)
 obtain⟨hr1,hr2,hbw⟩:=tO W 27 155 cs ds;have CM0:=λi w=>wP c i w
 rw[<-ecs]at CM0⊢;rw[<-eds];generalize eW:(W.alloc (.cells cs.toArray 27)).alloc (.cells ds.toArray 155)=W2 at*;have E1:=h_ eW;have HQ2:Hid (∀w',Below W2.heap.size W2 w'->Nb w' (W.heap.size+1) a):=h_ λw' hb=>Nb.of (T:=155) (by rw[<-eds];exact hr2.below hb hr2.lt)
 have HK2:Hid (∀w',Below W2.heap.size W2 w'->jK w' W.heap.size c):=h_ λw' hb=>jK.of (T:=27) (by rw[<-ecs];exact hr1.below hb hr1.lt)
 have HM2:Hid (∀w',Below W2.heap.size W2 w'->w'.rangeAt W.heap.size 0 cs):=h_ λw' hb=>(hr1.below hb hr1.lt).rg
 have HI:=h_ (ig cs (by rw[ecs];rfl));obtain⟨fs,efs⟩:=x_ ([.int .i64 a.num, .int .i64 a.den]:List Value)
 have HF52:Hid (∀w',Below W2.heap.size W2 w'->w'.rangeAt (W.heap.size+1) 5 fs):=h_ λw' hb=>by rw[efs];exact(HQ2.out w' hb).rg
 have HIF:=h_ (rL fs (by rw[efs];rfl));have EFS:Hid (Value.agg fs.toArray= .agg [.int .i64 a.num, .int .i64 a.den].toArray):=h_ (by rw[efs]);have HB2:=h_ hbw;obtain⟨Z,eZ⟩:=x_ (wX a.num a.den)
 have EZ:=h_ eZ;obtain⟨RB,eRB⟩:=x_ (ja c.aE.length a.role)
 obtain⟨TB,eTB⟩:=x_ (ja c.aE.length a.dest)
 obtain⟨GB,eGB⟩:=x_ (ja c.aE.length a.rq)
 obtain⟨PB,ePB⟩:=x_ (rB a.num a.den)
 have CMR:=h_ (CM0 a.role W2);have CMT:=h_ (CM0 a.dest);have CMG:=h_ (CM0 a.rq);have CPO:=h_ (λw=>Ds a.num a.den w);rw[show(#[.int .i64 a.num, .int .i64 a.den]:Array Value)=fs.toArray by rw[efs]]at CPO;rw[<-eRB]at CMR;rw[<-eTB]at CMT;rw[<-eGB]at CMG;rw[<-ePB]at CPO;have HV:Hid (r9 c.aj c.aE.length c.bP.length a=(if RB then(if a.kind==1 then(if(a.rq !=0)||((a.dest != -1)&& !TB)then false else if a.unit== -1 then Z else decide (0<=a.unit)&&(decide (a.unit<(c.bP.length:Int))&&PB))else if(a.kind==2)||(a.kind==3)then GB&&(decide (0<=a.dest)&&(decide (a.dest<c.aj)&&((a.unit== -1)&&Z)))else false)else(a.kind==1)&&((a.role== -1)&&((a.rq==0)&&(((a.dest== -1)||TB)&&((a.unit== -1)&&Z)))))):=h_ (by unfold r9;rw[eZ,eRB,eTB,eGB,ePB]);have HMl:=h_ (HM2.out W2 (Below.refl _ _));obtain⟨a0,a1,a2,a3,a4,a5,a6⟩:=HQ2.out W2 (Below.refl _ _);clear ecs eds hr1 hr2 hbw CM0 eW efs eZ eRB eTB eGB ePB a0 a2 a3 a4 a5 a6;go_enter Tryz.func156,Tryz.ntmps156;go_wp2_with (first
  |(simp only[E1.out])
  |(refine aH (.tmp 2) ?_;refine wpList_load_mid rfl 27 (.tmp 2) rfl W.heap.size 0 rfl cs _ HMl.out Tryz.underlying27 rfl HI.out ?_))
 refine CMR.out.mono ?_;rintro e w3 ⟨rfl,hb3⟩;have HQ:Hid (∀w',Below w3.heap.size w3 w'->Nb w' (W.heap.size+1) a):=h_ λw' hb=>HQ2.out w' (hb3.trans (hb.mono hb3.size))
 have HK:Hid (∀w',Below w3.heap.size w3 w'->jK w' W.heap.size c):=h_ λw' hb=>HK2.out w' (hb3.trans (hb.mono hb3.size))
 have HM:Hid (∀w',Below w3.heap.size w3 w'->w'.rangeAt W.heap.size 0 cs):=h_ λw' hb=>HM2.out w' (hb3.trans (hb.mono hb3.size))
 have HF5:Hid (∀w',Below w3.heap.size w3 w'->w'.rangeAt (W.heap.size+1) 5 fs):=h_ λw' hb=>HF52.out w' (hb3.trans (hb.mono hb3.size))
 have HB3:=h_ (HB2.out.trans (hb3.mono HB2.out.size));clear hb3 a1 HQ2 HK2 HM2 HF52 HB2 CMR HMl;cases RB with
 |false=>
  by_cases h1:a.kind=1;rotate_left
  ·have q1:(a.kind==1)=false:=by simpa using h1
   have q1n:(a.kind !=1)=true:=by simpa using h1
   clear h1;have HF:Hid (∀w',Below w3.heap.size w3 w'->R (.returned (.bool false)) w'):=h_ λw' hb=>FIN.out w' false (by rw[HV.out];simp[q1]) (HB3.out.trans (hb.mono HB3.out.size))
   clear FIN HV;go_wp2_with fail;refine Free.ai 35 [(21, .det (.bool TB)),(32, .det (.agg #[.int .i64 0, .int .i64 1]))] (λw'=>Below w3.heap.size w3 w') (by kernel_rfl) (by kernel_rfl) (Free.aW (λj mk r hf=>by simp only[Free.find]at hf;repeat' (first|cases hf|split at hf))) (Below.refl _ _).drew (λ_ _ h g=>h.trans (Below.mono g h.size)) ?_;simp only[eJ,dT];iterate 35 (first|(apply Free.dw (by first|exact fk rfl rfl rfl rfl|exact mQ rfl rfl rfl);simp only[Pt])|(apply Free.ae (Free.wq rfl) rfl;(intro w' hB hA;cases HQ.out w' hB;cases HK.out w' hB;clear hA;go_light;go_simp<;>rfl);(try simp only[Pt])))
   apply Free.ax;intro w6 hw6 _ _;simp only[fm,fo];have HF2:=h_ (HF.out w6 hw6);clear hw6 HF;go_wp2_with fail;exact HF2.out
  have q1:(a.kind==1)=true:=by simpa using h1
  have q1n:(a.kind !=1)=false:=by simpa using h1
  clear h1;by_cases h2:a.role= -1;rotate_left
  ·have q2:(a.role== -1)=false:=by simpa using h2
   have q2n:(a.role != -1)=true:=by simpa using h2
   clear h2;have HF:Hid (∀w',Below w3.heap.size w3 w'->R (.returned (.bool false)) w'):=h_ λw' hb=>FIN.out w' false (by rw[HV.out];simp[q2]) (HB3.out.trans (hb.mono HB3.out.size))
   clear FIN HV;go_wp2_with fail;refine Free.ai 35 [(21, .det (.bool TB)),(32, .det (.agg #[.int .i64 0, .int .i64 1]))] (λw'=>Below w3.heap.size w3 w') (by kernel_rfl) (by kernel_rfl) (Free.aW (λj mk r hf=>by simp only[Free.find]at hf;repeat' (first|cases hf|split at hf))) (Below.refl _ _).drew (λ_ _ h g=>h.trans (Below.mono g h.size)) ?_;simp only[eJ,dT];iterate 35 (first|(apply Free.dw (by first|exact fk rfl rfl rfl rfl|exact mQ rfl rfl rfl);simp only[Pt])|(apply Free.ae (Free.wq rfl) rfl;(intro w' hB hA;cases HQ.out w' hB;cases HK.out w' hB;clear hA;go_light;go_simp<;>rfl);(try simp only[Pt])))
   apply Free.ax;intro w6 hw6 _ _;simp only[fm,fo];have HF2:=h_ (HF.out w6 hw6);clear hw6 HF;go_wp2_with fail;exact HF2.out
  have q2:(a.role== -1)=true:=by simpa using h2
  have q2n:(a.role != -1)=false:=by simpa using h2
  clear h2;by_cases h3:a.rq=0;rotate_left
  ·have q3:(a.rq==0)=false:=by simpa using h3
   have q3n:(a.rq !=0)=true:=by simpa using h3
   clear h3;have HF:Hid (∀w',Below w3.heap.size w3 w'->R (.returned (.bool false)) w'):=h_ λw' hb=>FIN.out w' false (by rw[HV.out];simp[q3]) (HB3.out.trans (hb.mono HB3.out.size))
   clear FIN HV;go_wp2_with fail;refine Free.ai 35 [(21, .det (.bool TB)),(32, .det (.agg #[.int .i64 0, .int .i64 1]))] (λw'=>Below w3.heap.size w3 w') (by kernel_rfl) (by kernel_rfl) (Free.aW (λj mk r hf=>by simp only[Free.find]at hf;repeat' (first|cases hf|split at hf))) (Below.refl _ _).drew (λ_ _ h g=>h.trans (Below.mono g h.size)) ?_;simp only[eJ,dT];iterate 35 (first|(apply Free.dw (by first|exact fk rfl rfl rfl rfl|exact mQ rfl rfl rfl);simp only[Pt])|(apply Free.ae (Free.wq rfl) rfl;(intro w' hB hA;cases HQ.out w' hB;cases HK.out w' hB;clear hA;go_light;go_simp<;>rfl);(try simp only[Pt])))
   apply Free.ax;intro w6 hw6 _ _;simp only[fm,fo];have HF2:=h_ (HF.out w6 hw6);clear hw6 HF;go_wp2_with fail;exact HF2.out
  have q3:(a.rq==0)=true:=by simpa using h3
  have q3n:(a.rq !=0)=false:=by simpa using h3
  clear h3;by_cases h4:a.dest= -1
  ·have q4:(a.dest== -1)=true:=by simpa using h4
   clear h4;by_cases h5:a.unit= -1;rotate_left
   ·have q5:(a.unit== -1)=false:=by simpa using h5
    have q5n:(a.unit != -1)=true:=by simpa using h5
    clear h5;have HF:Hid (∀w',Below w3.heap.size w3 w'->R (.returned (.bool false)) w'):=h_ λw' hb=>FIN.out w' false (by rw[HV.out];simp[q5]) (HB3.out.trans (hb.mono HB3.out.size))
    clear FIN HV;go_wp2_with fail;refine Free.ai 35 [(21, .det (.bool TB)),(32, .det (.agg #[.int .i64 0, .int .i64 1]))] (λw'=>Below w3.heap.size w3 w') (by kernel_rfl) (by kernel_rfl) (Free.aW (λj mk r hf=>by simp only[Free.find]at hf;repeat' (first|cases hf|split at hf))) (Below.refl _ _).drew (λ_ _ h g=>h.trans (Below.mono g h.size)) ?_;simp only[eJ,dT];iterate 35 (first|(apply Free.dw (by first|exact fk rfl rfl rfl rfl|exact mQ rfl rfl rfl);simp only[Pt])|(apply Free.ae (Free.wq rfl) rfl;(intro w' hB hA;cases HQ.out w' hB;cases HK.out w' hB;clear hA;go_light;go_simp<;>rfl);(try simp only[Pt])))
    apply Free.ax;intro w6 hw6 _ _;simp only[fm,fo];have HF2:=h_ (HF.out w6 hw6);clear hw6 HF;go_wp2_with fail;exact HF2.out
   have q5:(a.unit== -1)=true:=by simpa using h5
   have q5n:(a.unit != -1)=false:=by simpa using h5
   clear h5;have HF:Hid (∀w',Below w3.heap.size w3 w'->R (.returned (.bool Z)) w'):=h_ λw' hb=>FIN.out w' Z (by rw[HV.out];simp[q1,q2,q3,q4,q5]) (HB3.out.trans (hb.mono HB3.out.size))
   clear FIN HV;go_wp2_with fail;refine Free.ai 35 [(21, .det (.bool TB)),(32, .det (.agg #[.int .i64 0, .int .i64 1]))] (λw'=>Below w3.heap.size w3 w') (by kernel_rfl) (by kernel_rfl) (Free.aW (λj mk r hf=>by simp only[Free.find]at hf;repeat' (first|cases hf|split at hf))) (Below.refl _ _).drew (λ_ _ h g=>h.trans (Below.mono g h.size)) ?_;simp only[eJ,dT];iterate 35 (first|(apply Free.dw (by first|exact fk rfl rfl rfl rfl|exact mQ rfl rfl rfl);simp only[Pt])|(apply Free.ae (Free.wq rfl) rfl;(intro w' hB hA;exact Hk.aU 32 (.tmp 40) rfl (W.heap.size+1) 5 rfl fs _ (HF5.out _ hB) Tryz.underlying32 rfl HIF.out);simp only[Pt])|(apply Free.aC (Free.wq rfl) rfl;(intro w' hB hA;refine Free.au (f:=159) (args:= #[]) (by clear hB hA;go_simp<;>rfl) ?_;refine(sV _).mono ?_;rintro e w3 ⟨rfl,hb3⟩;exact⟨_,rfl,hb3,rfl⟩);simp only[Pt])|(apply Free.ae (Free.wq rfl) rfl;(intro w' hB hA;exact qb rfl EFS.out rfl EZ.out);simp only[Pt])|(apply Free.ae (Free.wq rfl) rfl;(intro w' hB hA;cases HQ.out w' hB;cases HK.out w' hB;clear hA;go_light;go_simp<;>rfl);(try simp only[Pt])))
   apply Free.ax;intro w6 hw6 _ _;simp only[fm,fo];have HF2:=h_ (HF.out w6 hw6);clear hw6 HF;go_wp2_with fail;exact HF2.out
  ·have q4:(a.dest== -1)=false:=by simpa using h4
   clear h4;cases TB with
   |false=>
    have HF:Hid (∀w',Below w3.heap.size w3 w'->R (.returned (.bool false)) w'):=h_ λw' hb=>FIN.out w' false (by rw[HV.out];simp[q4]) (HB3.out.trans (hb.mono HB3.out.size))
    clear FIN HV;go_wp2_with fail;refine Free.ai 35 [(21, .det (.bool false)),(32, .det (.agg #[.int .i64 0, .int .i64 1]))] (λw'=>Below w3.heap.size w3 w') (by kernel_rfl) (by kernel_rfl) (Free.aW (λj mk r hf=>by simp only[Free.find]at hf;repeat' (first|cases hf|split at hf))) (Below.refl _ _).drew (λ_ _ h g=>h.trans (Below.mono g h.size)) ?_;simp only[eJ,dT];iterate 35 (first|(apply Free.dw (by first|exact fk rfl rfl rfl rfl|exact mQ rfl rfl rfl);simp only[Pt])|(apply Free.ae (Free.wq rfl) rfl;(intro w' hB hA;exact Hk.aU 27 (.tmp 2) rfl W.heap.size 0 rfl cs _ (HM.out _ hB) Tryz.underlying27 rfl HI.out);simp only[Pt])|(apply Free.aC (Free.wq rfl) rfl;(intro w' hB hA;refine Free.au (f:=161) (args:= #[.agg cs.toArray, .int .i64 a.dest]) (by clear hB hA;go_simp<;>rfl) ?_;refine(CMT.out _).mono ?_;rintro e w3 ⟨rfl,hb3⟩;exact⟨_,rfl,hb3,rfl⟩);simp only[Pt])|(apply Free.ae (Free.wq rfl) rfl;(intro w' hB hA;cases HQ.out w' hB;cases HK.out w' hB;clear hA;go_light;go_simp<;>rfl);(try simp only[Pt])))
    apply Free.ax;intro w6 hw6 _ _;simp only[fm,fo];have HF2:=h_ (HF.out w6 hw6);clear hw6 HF;go_wp2_with fail;exact HF2.out
   |true=>
    by_cases h5:a.unit= -1;rotate_left
    ·have q5:(a.unit== -1)=false:=by simpa using h5
     have q5n:(a.unit != -1)=true:=by simpa using h5
     clear h5;have HF:Hid (∀w',Below w3.heap.size w3 w'->R (.returned (.bool false)) w'):=h_ λw' hb=>FIN.out w' false (by rw[HV.out];simp[q5]) (HB3.out.trans (hb.mono HB3.out.size))
     clear FIN HV;go_wp2_with fail;refine Free.ai 35 [(21, .det (.bool true)),(32, .det (.agg #[.int .i64 0, .int .i64 1]))] (λw'=>Below w3.heap.size w3 w') (by kernel_rfl) (by kernel_rfl) (Free.aW (λj mk r hf=>by simp only[Free.find]at hf;repeat' (first|cases hf|split at hf))) (Below.refl _ _).drew (λ_ _ h g=>h.trans (Below.mono g h.size)) ?_;simp only[eJ,dT];iterate 35 (first|(apply Free.dw (by first|exact fk rfl rfl rfl rfl|exact mQ rfl rfl rfl);simp only[Pt])|(apply Free.ae (Free.wq rfl) rfl;(intro w' hB hA;exact Hk.aU 27 (.tmp 2) rfl W.heap.size 0 rfl cs _ (HM.out _ hB) Tryz.underlying27 rfl HI.out);simp only[Pt])|(apply Free.aC (Free.wq rfl) rfl;(intro w' hB hA;refine Free.au (f:=161) (args:= #[.agg cs.toArray, .int .i64 a.dest]) (by clear hB hA;go_simp<;>rfl) ?_;refine(CMT.out _).mono ?_;rintro e w3 ⟨rfl,hb3⟩;exact⟨_,rfl,hb3,rfl⟩);simp only[Pt])|(apply Free.ae (Free.wq rfl) rfl;(intro w' hB hA;cases HQ.out w' hB;cases HK.out w' hB;clear hA;go_light;go_simp<;>rfl);(try simp only[Pt])))
     apply Free.ax;intro w6 hw6 _ _;simp only[fm,fo];have HF2:=h_ (HF.out w6 hw6);clear hw6 HF;go_wp2_with fail;exact HF2.out
    have q5:(a.unit== -1)=true:=by simpa using h5
    have q5n:(a.unit != -1)=false:=by simpa using h5
    clear h5;have HF:Hid (∀w',Below w3.heap.size w3 w'->R (.returned (.bool Z)) w'):=h_ λw' hb=>FIN.out w' Z (by rw[HV.out];simp[q1,q2,q3,q4,q5]) (HB3.out.trans (hb.mono HB3.out.size))
    clear FIN HV;go_wp2_with fail;refine Free.ai 35 [(21, .det (.bool true)),(32, .det (.agg #[.int .i64 0, .int .i64 1]))] (λw'=>Below w3.heap.size w3 w') (by kernel_rfl) (by kernel_rfl) (Free.aW (λj mk r hf=>by simp only[Free.find]at hf;repeat' (first|cases hf|split at hf))) (Below.refl _ _).drew (λ_ _ h g=>h.trans (Below.mono g h.size)) ?_;simp only[eJ,dT];iterate 35 (first|(apply Free.ae (Free.wq rfl) rfl;(intro w' hB hA;exact Hk.aU 27 (.tmp 2) rfl W.heap.size 0 rfl cs _ (HM.out _ hB) Tryz.underlying27 rfl HI.out);simp only[Pt])|(apply Free.aC (Free.wq rfl) rfl;(intro w' hB hA;refine Free.au (f:=161) (args:= #[.agg cs.toArray, .int .i64 a.dest]) (by clear hB hA;go_simp<;>rfl) ?_;refine(CMT.out _).mono ?_;rintro e w3 ⟨rfl,hb3⟩;exact⟨_,rfl,hb3,rfl⟩);simp only[Pt])|(apply Free.ae (Free.wq rfl) rfl;(intro w' hB hA;exact Hk.aU 32 (.tmp 40) rfl (W.heap.size+1) 5 rfl fs _ (HF5.out _ hB) Tryz.underlying32 rfl HIF.out);simp only[Pt])|(apply Free.aC (Free.wq rfl) rfl;(intro w' hB hA;refine Free.au (f:=159) (args:= #[]) (by clear hB hA;go_simp<;>rfl) ?_;refine(sV _).mono ?_;rintro e w3 ⟨rfl,hb3⟩;exact⟨_,rfl,hb3,rfl⟩);simp only[Pt])|(apply Free.ae (Free.wq rfl) rfl;(intro w' hB hA;exact qb rfl EFS.out rfl EZ.out);simp only[Pt])|(apply Free.ae (Free.wq rfl) rfl;(intro w' hB hA;cases HQ.out w' hB;cases HK.out w' hB;clear hA;go_light;go_simp<;>rfl);(try simp only[Pt])))
    apply Free.ax;intro w6 hw6 _ _;simp only[fm,fo];have HF2:=h_ (HF.out w6 hw6);clear hw6 HF;go_wp2_with fail;exact HF2.out
 |true=>
  by_cases h1:a.kind=1
  ·have q1:(a.kind==1)=true:=by simpa using h1
   have q1n:(a.kind !=1)=false:=by simpa using h1
   clear h1;by_cases h2:a.rq=0;rotate_left
   ·have q2:(a.rq==0)=false:=by simpa using h2
    have q2n:(a.rq !=0)=true:=by simpa using h2
    clear h2;have HF:Hid (∀w',Below w3.heap.size w3 w'->R (.returned (.bool false)) w'):=h_ λw' hb=>FIN.out w' false (by rw[HV.out];simp[q1,q2n]) (HB3.out.trans (hb.mono HB3.out.size))
    clear FIN HV;have HF2:=h_ (HF.out w3 (Below.refl _ _));clear HF;obtain⟨a0,a1,a2,a3,a4,a5,a6⟩:=HQ.out w3 (Below.refl _ _);obtain⟨k0,k1,k2,k3,k4,k5,k6⟩:=HK.out w3 (Below.refl _ _);have HMl:=h_ (HM.out w3 (Below.refl _ _));have HFl:=h_ (HF5.out w3 (Below.refl _ _));go_wp2_with fail;exact HF2.out
   have q2:(a.rq==0)=true:=by simpa using h2
   have q2n:(a.rq !=0)=false:=by simpa using h2
   clear h2;by_cases h4:a.dest= -1
   ·have q4:(a.dest== -1)=true:=by simpa using h4
    have q4n:(a.dest != -1)=false:=by simpa using h4
    clear h4;by_cases h5:a.unit= -1
    ·have q5:(a.unit== -1)=true:=by simpa using h5
     have q5n:(a.unit != -1)=false:=by simpa using h5
     clear h5;have HF:Hid (∀w',Below w3.heap.size w3 w'->R (.returned (.bool Z)) w'):=h_ λw' hb=>FIN.out w' Z (by rw[HV.out];simp[q1,q2n,q4n,q5]) (HB3.out.trans (hb.mono HB3.out.size))
     clear FIN HV;obtain⟨a0,a1,a2,a3,a4,a5,a6⟩:=HQ.out w3 (Below.refl _ _);obtain⟨k0,k1,k2,k3,k4,k5,k6⟩:=HK.out w3 (Below.refl _ _);go_wp2_with fail;refine Free.ai 4 [(2, .det (.agg #[.int .i64 0, .int .i64 1]))] (λw'=>Below w3.heap.size w3 w') (by kernel_rfl) (by kernel_rfl) (Free.aW (λj mk r hf=>by simp only[Free.find]at hf;repeat' (first|cases hf|split at hf))) (Below.refl _ _).drew (λ_ _ h g=>h.trans (Below.mono g h.size)) ?_;simp only[eJ,dT];iterate 4 (first|(apply Free.ae (Free.wq rfl) rfl;(intro w' hB hA;exact Hk.aU 32 (.tmp 67) rfl (W.heap.size+1) 5 rfl fs _ (HF5.out _ hB) Tryz.underlying32 rfl HIF.out);simp only[Pt])|(apply Free.aC (Free.wq rfl) rfl;(intro w' hB hA;refine Free.au (f:=159) (args:= #[]) (by clear hB hA;go_simp<;>rfl) ?_;refine(sV _).mono ?_;rintro e w3 ⟨rfl,hb3⟩;exact⟨_,rfl,hb3,rfl⟩);simp only[Pt])|(apply Free.ae (Free.wq rfl) rfl;(intro w' hB hA;exact qb rfl EFS.out rfl EZ.out);simp only[Pt])|(apply Free.ae (Free.wq rfl) rfl;(intro w' hB hA;cases HQ.out w' hB;cases HK.out w' hB;clear hA;go_light;go_simp<;>rfl);(try simp only[Pt])))
     apply Free.ax;intro w6 hw6 _ _;simp only[fm,fo];have HF2:=h_ (HF.out w6 hw6);clear hw6 HF;go_wp2_with fail;exact HF2.out
    ·have q5:(a.unit== -1)=false:=by simpa using h5
     have q5n:(a.unit != -1)=true:=by simpa using h5
     clear h5;by_cases h6:0<=a.unit;rotate_left
     ·have q6:decide (0<=a.unit)=false:=dy h6;have HF:Hid (∀w',Below w3.heap.size w3 w'->R (.returned (.bool false)) w'):=h_ λw' hb=>FIN.out w' false (by rw[HV.out];simp[q1,q2n,q4n,q5,q6]) (HB3.out.trans (hb.mono HB3.out.size))
      clear FIN HV;have HF2:=h_ (HF.out w3 (Below.refl _ _));clear HF;obtain⟨a0,a1,a2,a3,a4,a5,a6⟩:=HQ.out w3 (Below.refl _ _);obtain⟨k0,k1,k2,k3,k4,k5,k6⟩:=HK.out w3 (Below.refl _ _);have HMl:=h_ (HM.out w3 (Below.refl _ _));have HFl:=h_ (HF5.out w3 (Below.refl _ _));go_wp2_with fail;exact HF2.out
     have q6:decide (0<=a.unit)=true:=dt h6;by_cases h7:a.unit<(c.bP.length:Int);rotate_left
     ·have q7:decide (a.unit<(c.bP.length:Int))=false:=dy h7;have HF:Hid (∀w',Below w3.heap.size w3 w'->R (.returned (.bool false)) w'):=h_ λw' hb=>FIN.out w' false (by rw[HV.out];simp[q1,q2n,q4n,q5,q7]) (HB3.out.trans (hb.mono HB3.out.size))
      clear FIN HV;have HF2:=h_ (HF.out w3 (Below.refl _ _));clear HF;obtain⟨a0,a1,a2,a3,a4,a5,a6⟩:=HQ.out w3 (Below.refl _ _);obtain⟨k0,k1,k2,k3,k4,k5,k6⟩:=HK.out w3 (Below.refl _ _);have HMl:=h_ (HM.out w3 (Below.refl _ _));have HFl:=h_ (HF5.out w3 (Below.refl _ _));go_wp2_with fail;exact HF2.out
     have q7:decide (a.unit<(c.bP.length:Int))=true:=dt h7;have HF:Hid (∀w',Below w3.heap.size w3 w'->R (.returned (.bool PB)) w'):=h_ λw' hb=>FIN.out w' PB (by rw[HV.out];simp[q1,q2n,q4n,q5,q6,q7]) (HB3.out.trans (hb.mono HB3.out.size))
     clear FIN HV;obtain⟨a0,a1,a2,a3,a4,a5,a6⟩:=HQ.out w3 (Below.refl _ _);obtain⟨k0,k1,k2,k3,k4,k5,k6⟩:=HK.out w3 (Below.refl _ _);have HMl:=h_ (HM.out w3 (Below.refl _ _));have HFl:=h_ (HF5.out w3 (Below.refl _ _));have CP3:=h_ (CPO.out w3);go_wp2_with (refine aH (.tmp 83) ?_;refine Row.still (Free.wq rfl) (Hk.aU 32 (.tmp 83) rfl (W.heap.size+1) 5 rfl fs _ HFl.out Tryz.underlying32 rfl HIF.out) ?_;simp only[Pt])
     refine CP3.out.mono ?_;rintro e w5 ⟨rfl,hb5⟩;have HF2:=h_ (HF.out w5 hb5);clear hb5 HF CP3;go_wp2_with fail;exact HF2.out
   have q4:(a.dest== -1)=false:=by simpa using h4
   have q4n:(a.dest != -1)=true:=by simpa using h4
   clear h4;obtain⟨a0,a1,a2,a3,a4,a5,a6⟩:=HQ.out w3 (Below.refl _ _);obtain⟨k0,k1,k2,k3,k4,k5,k6⟩:=HK.out w3 (Below.refl _ _);have HMl:=h_ (HM.out w3 (Below.refl _ _));have HFl:=h_ (HF5.out w3 (Below.refl _ _));go_wp2_with (first
    |(refine aH (.tmp 2) ?_;refine Row.still (Free.wq rfl) (Hk.aU 27 (.tmp 2) rfl W.heap.size 0 rfl cs _ HMl.out Tryz.underlying27 rfl HI.out) ?_;simp only[Pt]))
   refine(CMT.out _).mono ?_;rintro e w4 ⟨rfl,hb4⟩;have HQn:Hid (∀w',Below w4.heap.size w4 w'->Nb w' (W.heap.size+1) a):=h_ λw' hb=>HQ.out w' (hb4.trans (hb.mono hb4.size))
   have HKn:Hid (∀w',Below w4.heap.size w4 w'->jK w' W.heap.size c):=h_ λw' hb=>HK.out w' (hb4.trans (hb.mono hb4.size))
   have HMn:Hid (∀w',Below w4.heap.size w4 w'->w'.rangeAt W.heap.size 0 cs):=h_ λw' hb=>HM.out w' (hb4.trans (hb.mono hb4.size))
   have HFn:Hid (∀w',Below w4.heap.size w4 w'->w'.rangeAt (W.heap.size+1) 5 fs):=h_ λw' hb=>HF5.out w' (hb4.trans (hb.mono hb4.size))
   have HBn:=h_ (HB3.out.trans (hb4.mono HB3.out.size));clear hb4 HQ HK HM HF5 HB3 a0 a1 a2 a3 a4 a5 a6 k0 k1 k2 k3 k4 k5 k6 HMl HFl;have HQ:=HQn;have HK:=HKn;have HM:=HMn;have HF5:=HFn;have HB3:=HBn;clear HQn HKn HMn HFn HBn;generalize w4=w3 at*;cases TB with
   |false=>
    have HF:Hid (∀w',Below w3.heap.size w3 w'->R (.returned (.bool false)) w'):=h_ λw' hb=>FIN.out w' false (by rw[HV.out];simp[q1,q4n]) (HB3.out.trans (hb.mono HB3.out.size))
    clear FIN HV;have HF2:=h_ (HF.out w3 (Below.refl _ _));clear HF;obtain⟨a0,a1,a2,a3,a4,a5,a6⟩:=HQ.out w3 (Below.refl _ _);obtain⟨k0,k1,k2,k3,k4,k5,k6⟩:=HK.out w3 (Below.refl _ _);have HMl:=h_ (HM.out w3 (Below.refl _ _));have HFl:=h_ (HF5.out w3 (Below.refl _ _));go_wp2_with fail;exact HF2.out
   |true=>
    by_cases h5:a.unit= -1
    ·have q5:(a.unit== -1)=true:=by simpa using h5
     have q5n:(a.unit != -1)=false:=by simpa using h5
     clear h5;have HF:Hid (∀w',Below w3.heap.size w3 w'->R (.returned (.bool Z)) w'):=h_ λw' hb=>FIN.out w' Z (by rw[HV.out];simp[q1,q2n,q5]) (HB3.out.trans (hb.mono HB3.out.size))
     clear FIN HV;obtain⟨a0,a1,a2,a3,a4,a5,a6⟩:=HQ.out w3 (Below.refl _ _);obtain⟨k0,k1,k2,k3,k4,k5,k6⟩:=HK.out w3 (Below.refl _ _);go_wp2_with fail;refine Free.ai 4 [(2, .det (.agg #[.int .i64 0, .int .i64 1]))] (λw'=>Below w3.heap.size w3 w') (by kernel_rfl) (by kernel_rfl) (Free.aW (λj mk r hf=>by simp only[Free.find]at hf;repeat' (first|cases hf|split at hf))) (Below.refl _ _).drew (λ_ _ h g=>h.trans (Below.mono g h.size)) ?_;simp only[eJ,dT];iterate 4 (first|(apply Free.ae (Free.wq rfl) rfl;(intro w' hB hA;exact Hk.aU 32 (.tmp 67) rfl (W.heap.size+1) 5 rfl fs _ (HF5.out _ hB) Tryz.underlying32 rfl HIF.out);simp only[Pt])|(apply Free.aC (Free.wq rfl) rfl;(intro w' hB hA;refine Free.au (f:=159) (args:= #[]) (by clear hB hA;go_simp<;>rfl) ?_;refine(sV _).mono ?_;rintro e w3 ⟨rfl,hb3⟩;exact⟨_,rfl,hb3,rfl⟩);simp only[Pt])|(apply Free.ae (Free.wq rfl) rfl;(intro w' hB hA;exact qb rfl EFS.out rfl EZ.out);simp only[Pt])|(apply Free.ae (Free.wq rfl) rfl;(intro w' hB hA;cases HQ.out w' hB;cases HK.out w' hB;clear hA;go_light;go_simp<;>rfl);(try simp only[Pt])))
     apply Free.ax;intro w6 hw6 _ _;simp only[fm,fo];have HF2:=h_ (HF.out w6 hw6);clear hw6 HF;go_wp2_with fail;exact HF2.out
    ·have q5:(a.unit== -1)=false:=by simpa using h5
     have q5n:(a.unit != -1)=true:=by simpa using h5
     clear h5;by_cases h6:0<=a.unit;rotate_left
     ·have q6:decide (0<=a.unit)=false:=dy h6;have HF:Hid (∀w',Below w3.heap.size w3 w'->R (.returned (.bool false)) w'):=h_ λw' hb=>FIN.out w' false (by rw[HV.out];simp[q1,q2n,q5,q6]) (HB3.out.trans (hb.mono HB3.out.size))
      clear FIN HV;have HF2:=h_ (HF.out w3 (Below.refl _ _));clear HF;obtain⟨a0,a1,a2,a3,a4,a5,a6⟩:=HQ.out w3 (Below.refl _ _);obtain⟨k0,k1,k2,k3,k4,k5,k6⟩:=HK.out w3 (Below.refl _ _);have HMl:=h_ (HM.out w3 (Below.refl _ _));have HFl:=h_ (HF5.out w3 (Below.refl _ _));go_wp2_with fail;exact HF2.out
     have q6:decide (0<=a.unit)=true:=dt h6;by_cases h7:a.unit<(c.bP.length:Int);rotate_left
     ·have q7:decide (a.unit<(c.bP.length:Int))=false:=dy h7;have HF:Hid (∀w',Below w3.heap.size w3 w'->R (.returned (.bool false)) w'):=h_ λw' hb=>FIN.out w' false (by rw[HV.out];simp[q1,q2n,q5,q7]) (HB3.out.trans (hb.mono HB3.out.size))
      clear FIN HV;have HF2:=h_ (HF.out w3 (Below.refl _ _));clear HF;obtain⟨a0,a1,a2,a3,a4,a5,a6⟩:=HQ.out w3 (Below.refl _ _);obtain⟨k0,k1,k2,k3,k4,k5,k6⟩:=HK.out w3 (Below.refl _ _);have HMl:=h_ (HM.out w3 (Below.refl _ _));have HFl:=h_ (HF5.out w3 (Below.refl _ _));go_wp2_with fail;exact HF2.out
     have q7:decide (a.unit<(c.bP.length:Int))=true:=dt h7;have HF:Hid (∀w',Below w3.heap.size w3 w'->R (.returned (.bool PB)) w'):=h_ λw' hb=>FIN.out w' PB (by rw[HV.out];simp[q1,q2n,q5,q6,q7]) (HB3.out.trans (hb.mono HB3.out.size))
     clear FIN HV;obtain⟨a0,a1,a2,a3,a4,a5,a6⟩:=HQ.out w3 (Below.refl _ _);obtain⟨k0,k1,k2,k3,k4,k5,k6⟩:=HK.out w3 (Below.refl _ _);have HMl:=h_ (HM.out w3 (Below.refl _ _));have HFl:=h_ (HF5.out w3 (Below.refl _ _));have CP3:=h_ (CPO.out w3);go_wp2_with (refine aH (.tmp 83) ?_;refine Row.still (Free.wq rfl) (Hk.aU 32 (.tmp 83) rfl (W.heap.size+1) 5 rfl fs _ HFl.out Tryz.underlying32 rfl HIF.out) ?_;simp only[Pt])
     refine CP3.out.mono ?_;rintro e w5 ⟨rfl,hb5⟩;have HF2:=h_ (HF.out w5 hb5);clear hb5 HF CP3;go_wp2_with fail;exact HF2.out
  have q1:(a.kind==1)=false:=by simpa using h1
  have q1n:(a.kind !=1)=true:=by simpa using h1
  clear h1;have q23:((a.kind==2)||(a.kind==3))=true\/((a.kind==2)=false/\(a.kind==3)=false):=by cases (a.kind==2)<;>cases (a.kind==3)<;>simp
  by_cases h2:a.kind=2
  ·have q2:(a.kind==2)=true:=by simpa using h2
   clear h2 q23;cases GB with
   |false=>
    have HF:Hid (∀w',Below w3.heap.size w3 w'->R (.returned (.bool false)) w'):=h_ λw' hb=>FIN.out w' false (by rw[HV.out];simp[q1,q2]) (HB3.out.trans (hb.mono HB3.out.size))
    clear FIN HV;obtain⟨a0,a1,a2,a3,a4,a5,a6⟩:=HQ.out w3 (Below.refl _ _);obtain⟨k0,k1,k2,k3,k4,k5,k6⟩:=HK.out w3 (Below.refl _ _);go_wp2_with fail;refine Free.ai 27 [(3, .det (.bool false)),(24, .det (.agg #[.int .i64 0, .int .i64 1]))] (λw'=>Below w3.heap.size w3 w') (by kernel_rfl) (by kernel_rfl) (Free.aW (λj mk r hf=>by simp only[Free.find]at hf;repeat' (first|cases hf|split at hf))) (Below.refl _ _).drew (λ_ _ h g=>h.trans (Below.mono g h.size)) ?_;simp only[eJ,dT];iterate 27 (first|(apply Free.dw (by first|exact fk rfl rfl rfl rfl|exact mQ rfl rfl rfl);simp only[Pt])|(apply Free.ae (Free.wq rfl) rfl;(intro w' hB hA;exact Hk.aU 27 (.tmp 2) rfl W.heap.size 0 rfl cs _ (HM.out _ hB) Tryz.underlying27 rfl HI.out);simp only[Pt])|(apply Free.aC (Free.wq rfl) rfl;(intro w' hB hA;refine Free.au (f:=161) (args:= #[.agg cs.toArray, .int .i64 a.rq]) (by clear hB hA;go_simp<;>rfl) ?_;refine(CMG.out _).mono ?_;rintro e w3 ⟨rfl,hb3⟩;exact⟨_,rfl,hb3,rfl⟩);simp only[Pt])|(apply Free.ae (Free.wq rfl) rfl;(intro w' hB hA;cases HQ.out w' hB;cases HK.out w' hB;clear hA;go_light;go_simp<;>rfl);(try simp only[Pt])))
    apply Free.ax;intro w6 hw6 _ _;simp only[fm,fo];have HF2:=h_ (HF.out w6 hw6);clear hw6 HF;go_wp2_with fail;exact HF2.out
   |true=>
    by_cases h3:0<=a.dest;rotate_left
    ·have q3:decide (0<=a.dest)=false:=dy h3;have HF:Hid (∀w',Below w3.heap.size w3 w'->R (.returned (.bool false)) w'):=h_ λw' hb=>FIN.out w' false (by rw[HV.out];simp[q1,q2,q3]) (HB3.out.trans (hb.mono HB3.out.size))
     clear FIN HV;obtain⟨a0,a1,a2,a3,a4,a5,a6⟩:=HQ.out w3 (Below.refl _ _);obtain⟨k0,k1,k2,k3,k4,k5,k6⟩:=HK.out w3 (Below.refl _ _);go_wp2_with fail;refine Free.ai 27 [(3, .det (.bool true)),(24, .det (.agg #[.int .i64 0, .int .i64 1]))] (λw'=>Below w3.heap.size w3 w') (by kernel_rfl) (by kernel_rfl) (Free.aW (λj mk r hf=>by simp only[Free.find]at hf;repeat' (first|cases hf|split at hf))) (Below.refl _ _).drew (λ_ _ h g=>h.trans (Below.mono g h.size)) ?_;simp only[eJ,dT];iterate 27 (first|(apply Free.dw (by first|exact fk rfl rfl rfl rfl|exact mQ rfl rfl rfl);simp only[Pt])|(apply Free.ae (Free.wq rfl) rfl;(intro w' hB hA;exact Hk.aU 27 (.tmp 2) rfl W.heap.size 0 rfl cs _ (HM.out _ hB) Tryz.underlying27 rfl HI.out);simp only[Pt])|(apply Free.aC (Free.wq rfl) rfl;(intro w' hB hA;refine Free.au (f:=161) (args:= #[.agg cs.toArray, .int .i64 a.rq]) (by clear hB hA;go_simp<;>rfl) ?_;refine(CMG.out _).mono ?_;rintro e w3 ⟨rfl,hb3⟩;exact⟨_,rfl,hb3,rfl⟩);simp only[Pt])|(apply Free.ae (Free.wq rfl) rfl;(intro w' hB hA;cases HQ.out w' hB;cases HK.out w' hB;clear hA;go_light;go_simp<;>rfl);(try simp only[Pt])))
     apply Free.ax;intro w6 hw6 _ _;simp only[fm,fo];have HF2:=h_ (HF.out w6 hw6);clear hw6 HF;go_wp2_with fail;exact HF2.out
    have q3:decide (0<=a.dest)=true:=dt h3;by_cases h4:a.dest<c.aj;rotate_left
    ·have q4:decide (a.dest<c.aj)=false:=dy h4;have HF:Hid (∀w',Below w3.heap.size w3 w'->R (.returned (.bool false)) w'):=h_ λw' hb=>FIN.out w' false (by rw[HV.out];simp[q1,q2,q4]) (HB3.out.trans (hb.mono HB3.out.size))
     clear FIN HV;obtain⟨a0,a1,a2,a3,a4,a5,a6⟩:=HQ.out w3 (Below.refl _ _);obtain⟨k0,k1,k2,k3,k4,k5,k6⟩:=HK.out w3 (Below.refl _ _);go_wp2_with fail;refine Free.ai 27 [(3, .det (.bool true)),(24, .det (.agg #[.int .i64 0, .int .i64 1]))] (λw'=>Below w3.heap.size w3 w') (by kernel_rfl) (by kernel_rfl) (Free.aW (λj mk r hf=>by simp only[Free.find]at hf;repeat' (first|cases hf|split at hf))) (Below.refl _ _).drew (λ_ _ h g=>h.trans (Below.mono g h.size)) ?_;simp only[eJ,dT];iterate 27 (first|(apply Free.dw (by first|exact fk rfl rfl rfl rfl|exact mQ rfl rfl rfl);simp only[Pt])|(apply Free.ae (Free.wq rfl) rfl;(intro w' hB hA;exact Hk.aU 27 (.tmp 2) rfl W.heap.size 0 rfl cs _ (HM.out _ hB) Tryz.underlying27 rfl HI.out);simp only[Pt])|(apply Free.aC (Free.wq rfl) rfl;(intro w' hB hA;refine Free.au (f:=161) (args:= #[.agg cs.toArray, .int .i64 a.rq]) (by clear hB hA;go_simp<;>rfl) ?_;refine(CMG.out _).mono ?_;rintro e w3 ⟨rfl,hb3⟩;exact⟨_,rfl,hb3,rfl⟩);simp only[Pt])|(apply Free.ae (Free.wq rfl) rfl;(intro w' hB hA;cases HQ.out w' hB;cases HK.out w' hB;clear hA;go_light;go_simp<;>rfl);(try simp only[Pt])))
     apply Free.ax;intro w6 hw6 _ _;simp only[fm,fo];have HF2:=h_ (HF.out w6 hw6);clear hw6 HF;go_wp2_with fail;exact HF2.out
    have q4:decide (a.dest<c.aj)=true:=dt h4;by_cases h5:a.unit= -1;rotate_left
    ·have q5:(a.unit== -1)=false:=by simpa using h5
     have q5n:(a.unit != -1)=true:=by simpa using h5
     clear h5;have HF:Hid (∀w',Below w3.heap.size w3 w'->R (.returned (.bool false)) w'):=h_ λw' hb=>FIN.out w' false (by rw[HV.out];simp[q1,q2,q5]) (HB3.out.trans (hb.mono HB3.out.size))
     clear FIN HV;obtain⟨a0,a1,a2,a3,a4,a5,a6⟩:=HQ.out w3 (Below.refl _ _);obtain⟨k0,k1,k2,k3,k4,k5,k6⟩:=HK.out w3 (Below.refl _ _);go_wp2_with fail;refine Free.ai 27 [(3, .det (.bool true)),(24, .det (.agg #[.int .i64 0, .int .i64 1]))] (λw'=>Below w3.heap.size w3 w') (by kernel_rfl) (by kernel_rfl) (Free.aW (λj mk r hf=>by simp only[Free.find]at hf;repeat' (first|cases hf|split at hf))) (Below.refl _ _).drew (λ_ _ h g=>h.trans (Below.mono g h.size)) ?_;simp only[eJ,dT];iterate 27 (first|(apply Free.dw (by first|exact fk rfl rfl rfl rfl|exact mQ rfl rfl rfl);simp only[Pt])|(apply Free.ae (Free.wq rfl) rfl;(intro w' hB hA;exact Hk.aU 27 (.tmp 2) rfl W.heap.size 0 rfl cs _ (HM.out _ hB) Tryz.underlying27 rfl HI.out);simp only[Pt])|(apply Free.aC (Free.wq rfl) rfl;(intro w' hB hA;refine Free.au (f:=161) (args:= #[.agg cs.toArray, .int .i64 a.rq]) (by clear hB hA;go_simp<;>rfl) ?_;refine(CMG.out _).mono ?_;rintro e w3 ⟨rfl,hb3⟩;exact⟨_,rfl,hb3,rfl⟩);simp only[Pt])|(apply Free.ae (Free.wq rfl) rfl;(intro w' hB hA;cases HQ.out w' hB;cases HK.out w' hB;clear hA;go_light;go_simp<;>rfl);(try simp only[Pt])))
     apply Free.ax;intro w6 hw6 _ _;simp only[fm,fo];have HF2:=h_ (HF.out w6 hw6);clear hw6 HF;go_wp2_with fail;exact HF2.out
    have q5:(a.unit== -1)=true:=by simpa using h5
    have q5n:(a.unit != -1)=false:=by simpa using h5
    clear h5;have HF:Hid (∀w',Below w3.heap.size w3 w'->R (.returned (.bool Z)) w'):=h_ λw' hb=>FIN.out w' Z (by rw[HV.out];simp[q1,q2,q3,q4,q5]) (HB3.out.trans (hb.mono HB3.out.size))
    clear FIN HV;obtain⟨a0,a1,a2,a3,a4,a5,a6⟩:=HQ.out w3 (Below.refl _ _);obtain⟨k0,k1,k2,k3,k4,k5,k6⟩:=HK.out w3 (Below.refl _ _);go_wp2_with fail;refine Free.ai 27 [(3, .det (.bool true)),(24, .det (.agg #[.int .i64 0, .int .i64 1]))] (λw'=>Below w3.heap.size w3 w') (by kernel_rfl) (by kernel_rfl) (Free.aW (λj mk r hf=>by simp only[Free.find]at hf;repeat' (first|cases hf|split at hf))) (Below.refl _ _).drew (λ_ _ h g=>h.trans (Below.mono g h.size)) ?_;simp only[eJ,dT];iterate 27 (first|(apply Free.ae (Free.wq rfl) rfl;(intro w' hB hA;exact Hk.aU 27 (.tmp 2) rfl W.heap.size 0 rfl cs _ (HM.out _ hB) Tryz.underlying27 rfl HI.out);simp only[Pt])|(apply Free.aC (Free.wq rfl) rfl;(intro w' hB hA;refine Free.au (f:=161) (args:= #[.agg cs.toArray, .int .i64 a.rq]) (by clear hB hA;go_simp<;>rfl) ?_;refine(CMG.out _).mono ?_;rintro e w3 ⟨rfl,hb3⟩;exact⟨_,rfl,hb3,rfl⟩);simp only[Pt])|(apply Free.ae (Free.wq rfl) rfl;(intro w' hB hA;exact Hk.aU 32 (.tmp 112) rfl (W.heap.size+1) 5 rfl fs _ (HF5.out _ hB) Tryz.underlying32 rfl HIF.out);simp only[Pt])|(apply Free.aC (Free.wq rfl) rfl;(intro w' hB hA;refine Free.au (f:=159) (args:= #[]) (by clear hB hA;go_simp<;>rfl) ?_;refine(sV _).mono ?_;rintro e w3 ⟨rfl,hb3⟩;exact⟨_,rfl,hb3,rfl⟩);simp only[Pt])|(apply Free.ae (Free.wq rfl) rfl;(intro w' hB hA;exact qb rfl EFS.out rfl EZ.out);simp only[Pt])|(apply Free.ae (Free.wq rfl) rfl;(intro w' hB hA;cases HQ.out w' hB;cases HK.out w' hB;clear hA;go_light;go_simp<;>rfl);(try simp only[Pt])))
    apply Free.ax;intro w6 hw6 _ _;simp only[fm,fo];have HF2:=h_ (HF.out w6 hw6);clear hw6 HF;go_wp2_with fail;exact HF2.out
  have q2:(a.kind==2)=false:=by simpa using h2
  clear h2 q23;by_cases h3':a.kind=3
  ·have q2':(a.kind==3)=true:=by simpa using h3'
   clear h3';cases GB with
   |false=>
    have HF:Hid (∀w',Below w3.heap.size w3 w'->R (.returned (.bool false)) w'):=h_ λw' hb=>FIN.out w' false (by rw[HV.out];simp[q1,q2,q2']) (HB3.out.trans (hb.mono HB3.out.size))
    clear FIN HV;obtain⟨a0,a1,a2,a3,a4,a5,a6⟩:=HQ.out w3 (Below.refl _ _);obtain⟨k0,k1,k2,k3,k4,k5,k6⟩:=HK.out w3 (Below.refl _ _);go_wp2_with fail;refine Free.ai 27 [(3, .det (.bool false)),(24, .det (.agg #[.int .i64 0, .int .i64 1]))] (λw'=>Below w3.heap.size w3 w') (by kernel_rfl) (by kernel_rfl) (Free.aW (λj mk r hf=>by simp only[Free.find]at hf;repeat' (first|cases hf|split at hf))) (Below.refl _ _).drew (λ_ _ h g=>h.trans (Below.mono g h.size)) ?_;simp only[eJ,dT];iterate 27 (first|(apply Free.dw (by first|exact fk rfl rfl rfl rfl|exact mQ rfl rfl rfl);simp only[Pt])|(apply Free.ae (Free.wq rfl) rfl;(intro w' hB hA;exact Hk.aU 27 (.tmp 2) rfl W.heap.size 0 rfl cs _ (HM.out _ hB) Tryz.underlying27 rfl HI.out);simp only[Pt])|(apply Free.aC (Free.wq rfl) rfl;(intro w' hB hA;refine Free.au (f:=161) (args:= #[.agg cs.toArray, .int .i64 a.rq]) (by clear hB hA;go_simp<;>rfl) ?_;refine(CMG.out _).mono ?_;rintro e w3 ⟨rfl,hb3⟩;exact⟨_,rfl,hb3,rfl⟩);simp only[Pt])|(apply Free.ae (Free.wq rfl) rfl;(intro w' hB hA;cases HQ.out w' hB;cases HK.out w' hB;clear hA;go_light;go_simp<;>rfl);(try simp only[Pt])))
    apply Free.ax;intro w6 hw6 _ _;simp only[fm,fo];have HF2:=h_ (HF.out w6 hw6);clear hw6 HF;go_wp2_with fail;exact HF2.out
   |true=>
    by_cases h3:0<=a.dest;rotate_left
    ·have q3:decide (0<=a.dest)=false:=dy h3;have HF:Hid (∀w',Below w3.heap.size w3 w'->R (.returned (.bool false)) w'):=h_ λw' hb=>FIN.out w' false (by rw[HV.out];simp[q1,q2,q2',q3]) (HB3.out.trans (hb.mono HB3.out.size))
     clear FIN HV;obtain⟨a0,a1,a2,a3,a4,a5,a6⟩:=HQ.out w3 (Below.refl _ _);obtain⟨k0,k1,k2,k3,k4,k5,k6⟩:=HK.out w3 (Below.refl _ _);go_wp2_with fail;refine Free.ai 27 [(3, .det (.bool true)),(24, .det (.agg #[.int .i64 0, .int .i64 1]))] (λw'=>Below w3.heap.size w3 w') (by kernel_rfl) (by kernel_rfl) (Free.aW (λj mk r hf=>by simp only[Free.find]at hf;repeat' (first|cases hf|split at hf))) (Below.refl _ _).drew (λ_ _ h g=>h.trans (Below.mono g h.size)) ?_;simp only[eJ,dT];iterate 27 (first|(apply Free.dw (by first|exact fk rfl rfl rfl rfl|exact mQ rfl rfl rfl);simp only[Pt])|(apply Free.ae (Free.wq rfl) rfl;(intro w' hB hA;exact Hk.aU 27 (.tmp 2) rfl W.heap.size 0 rfl cs _ (HM.out _ hB) Tryz.underlying27 rfl HI.out);simp only[Pt])|(apply Free.aC (Free.wq rfl) rfl;(intro w' hB hA;refine Free.au (f:=161) (args:= #[.agg cs.toArray, .int .i64 a.rq]) (by clear hB hA;go_simp<;>rfl) ?_;refine(CMG.out _).mono ?_;rintro e w3 ⟨rfl,hb3⟩;exact⟨_,rfl,hb3,rfl⟩);simp only[Pt])|(apply Free.ae (Free.wq rfl) rfl;(intro w' hB hA;cases HQ.out w' hB;cases HK.out w' hB;clear hA;go_light;go_simp<;>rfl);(try simp only[Pt])))
     apply Free.ax;intro w6 hw6 _ _;simp only[fm,fo];have HF2:=h_ (HF.out w6 hw6);clear hw6 HF;go_wp2_with fail;exact HF2.out
    have q3:decide (0<=a.dest)=true:=dt h3;by_cases h4:a.dest<c.aj;rotate_left
    ·have q4:decide (a.dest<c.aj)=false:=dy h4;have HF:Hid (∀w',Below w3.heap.size w3 w'->R (.returned (.bool false)) w'):=h_ λw' hb=>FIN.out w' false (by rw[HV.out];simp[q1,q2,q2',q4]) (HB3.out.trans (hb.mono HB3.out.size))
     clear FIN HV;obtain⟨a0,a1,a2,a3,a4,a5,a6⟩:=HQ.out w3 (Below.refl _ _);obtain⟨k0,k1,k2,k3,k4,k5,k6⟩:=HK.out w3 (Below.refl _ _);go_wp2_with fail;refine Free.ai 27 [(3, .det (.bool true)),(24, .det (.agg #[.int .i64 0, .int .i64 1]))] (λw'=>Below w3.heap.size w3 w') (by kernel_rfl) (by kernel_rfl) (Free.aW (λj mk r hf=>by simp only[Free.find]at hf;repeat' (first|cases hf|split at hf))) (Below.refl _ _).drew (λ_ _ h g=>h.trans (Below.mono g h.size)) ?_;simp only[eJ,dT];iterate 27 (first|(apply Free.dw (by first|exact fk rfl rfl rfl rfl|exact mQ rfl rfl rfl);simp only[Pt])|(apply Free.ae (Free.wq rfl) rfl;(intro w' hB hA;exact Hk.aU 27 (.tmp 2) rfl W.heap.size 0 rfl cs _ (HM.out _ hB) Tryz.underlying27 rfl HI.out);simp only[Pt])|(apply Free.aC (Free.wq rfl) rfl;(intro w' hB hA;refine Free.au (f:=161) (args:= #[.agg cs.toArray, .int .i64 a.rq]) (by clear hB hA;go_simp<;>rfl) ?_;refine(CMG.out _).mono ?_;rintro e w3 ⟨rfl,hb3⟩;exact⟨_,rfl,hb3,rfl⟩);simp only[Pt])|(apply Free.ae (Free.wq rfl) rfl;(intro w' hB hA;cases HQ.out w' hB;cases HK.out w' hB;clear hA;go_light;go_simp<;>rfl);(try simp only[Pt])))
     apply Free.ax;intro w6 hw6 _ _;simp only[fm,fo];have HF2:=h_ (HF.out w6 hw6);clear hw6 HF;go_wp2_with fail;exact HF2.out
    have q4:decide (a.dest<c.aj)=true:=dt h4;by_cases h5:a.unit= -1;rotate_left
    ·have q5:(a.unit== -1)=false:=by simpa using h5
     have q5n:(a.unit != -1)=true:=by simpa using h5
     clear h5;have HF:Hid (∀w',Below w3.heap.size w3 w'->R (.returned (.bool false)) w'):=h_ λw' hb=>FIN.out w' false (by rw[HV.out];simp[q1,q2,q2',q5]) (HB3.out.trans (hb.mono HB3.out.size))
     clear FIN HV;obtain⟨a0,a1,a2,a3,a4,a5,a6⟩:=HQ.out w3 (Below.refl _ _);obtain⟨k0,k1,k2,k3,k4,k5,k6⟩:=HK.out w3 (Below.refl _ _);go_wp2_with fail;refine Free.ai 27 [(3, .det (.bool true)),(24, .det (.agg #[.int .i64 0, .int .i64 1]))] (λw'=>Below w3.heap.size w3 w') (by kernel_rfl) (by kernel_rfl) (Free.aW (λj mk r hf=>by simp only[Free.find]at hf;repeat' (first|cases hf|split at hf))) (Below.refl _ _).drew (λ_ _ h g=>h.trans (Below.mono g h.size)) ?_;simp only[eJ,dT];iterate 27 (first|(apply Free.dw (by first|exact fk rfl rfl rfl rfl|exact mQ rfl rfl rfl);simp only[Pt])|(apply Free.ae (Free.wq rfl) rfl;(intro w' hB hA;exact Hk.aU 27 (.tmp 2) rfl W.heap.size 0 rfl cs _ (HM.out _ hB) Tryz.underlying27 rfl HI.out);simp only[Pt])|(apply Free.aC (Free.wq rfl) rfl;(intro w' hB hA;refine Free.au (f:=161) (args:= #[.agg cs.toArray, .int .i64 a.rq]) (by clear hB hA;go_simp<;>rfl) ?_;refine(CMG.out _).mono ?_;rintro e w3 ⟨rfl,hb3⟩;exact⟨_,rfl,hb3,rfl⟩);simp only[Pt])|(apply Free.ae (Free.wq rfl) rfl;(intro w' hB hA;cases HQ.out w' hB;cases HK.out w' hB;clear hA;go_light;go_simp<;>rfl);(try simp only[Pt])))
     apply Free.ax;intro w6 hw6 _ _;simp only[fm,fo];have HF2:=h_ (HF.out w6 hw6);clear hw6 HF;go_wp2_with fail;exact HF2.out
    have q5:(a.unit== -1)=true:=by simpa using h5
    have q5n:(a.unit != -1)=false:=by simpa using h5
    clear h5;have HF:Hid (∀w',Below w3.heap.size w3 w'->R (.returned (.bool Z)) w'):=h_ λw' hb=>FIN.out w' Z (by rw[HV.out];simp[q1,q2,q2',q3,q4,q5]) (HB3.out.trans (hb.mono HB3.out.size))
    clear FIN HV;obtain⟨a0,a1,a2,a3,a4,a5,a6⟩:=HQ.out w3 (Below.refl _ _);obtain⟨k0,k1,k2,k3,k4,k5,k6⟩:=HK.out w3 (Below.refl _ _);go_wp2_with fail;refine Free.ai 27 [(3, .det (.bool true)),(24, .det (.agg #[.int .i64 0, .int .i64 1]))] (λw'=>Below w3.heap.size w3 w') (by kernel_rfl) (by kernel_rfl) (Free.aW (λj mk r hf=>by simp only[Free.find]at hf;repeat' (first|cases hf|split at hf))) (Below.refl _ _).drew (λ_ _ h g=>h.trans (Below.mono g h.size)) ?_;simp only[eJ,dT];iterate 27 (first|(apply Free.ae (Free.wq rfl) rfl;(intro w' hB hA;exact Hk.aU 27 (.tmp 2) rfl W.heap.size 0 rfl cs _ (HM.out _ hB) Tryz.underlying27 rfl HI.out);simp only[Pt])|(apply Free.aC (Free.wq rfl) rfl;(intro w' hB hA;refine Free.au (f:=161) (args:= #[.agg cs.toArray, .int .i64 a.rq]) (by clear hB hA;go_simp<;>rfl) ?_;refine(CMG.out _).mono ?_;rintro e w3 ⟨rfl,hb3⟩;exact⟨_,rfl,hb3,rfl⟩);simp only[Pt])|(apply Free.ae (Free.wq rfl) rfl;(intro w' hB hA;exact Hk.aU 32 (.tmp 112) rfl (W.heap.size+1) 5 rfl fs _ (HF5.out _ hB) Tryz.underlying32 rfl HIF.out);simp only[Pt])|(apply Free.aC (Free.wq rfl) rfl;(intro w' hB hA;refine Free.au (f:=159) (args:= #[]) (by clear hB hA;go_simp<;>rfl) ?_;refine(sV _).mono ?_;rintro e w3 ⟨rfl,hb3⟩;exact⟨_,rfl,hb3,rfl⟩);simp only[Pt])|(apply Free.ae (Free.wq rfl) rfl;(intro w' hB hA;exact qb rfl EFS.out rfl EZ.out);simp only[Pt])|(apply Free.ae (Free.wq rfl) rfl;(intro w' hB hA;cases HQ.out w' hB;cases HK.out w' hB;clear hA;go_light;go_simp<;>rfl);(try simp only[Pt])))
    apply Free.ax;intro w6 hw6 _ _;simp only[fm,fo];have HF2:=h_ (HF.out w6 hw6);clear hw6 HF;go_wp2_with fail;exact HF2.out
  have q2':(a.kind==3)=false:=by simpa using h3'
  clear h3';have HF:Hid (∀w',Below w3.heap.size w3 w'->R (.returned (.bool false)) w'):=h_ λw' hb=>FIN.out w' false (by rw[HV.out];simp[q1,q2,q2']) (HB3.out.trans (hb.mono HB3.out.size))
  clear FIN HV;have HF2:=h_ (HF.out w3 (Below.refl _ _));clear HF;obtain⟨a0,a1,a2,a3,a4,a5,a6⟩:=HQ.out w3 (Below.refl _ _);obtain⟨k0,k1,k2,k3,k4,k5,k6⟩:=HK.out w3 (Below.refl _ _);have HMl:=h_ (HM.out w3 (Below.refl _ _));have HFl:=h_ (HF5.out w3 (Below.refl _ _));go_wp2_with fail;exact HF2.out
end Go.Proofs.YtkmbmfengcdmoaaGreatDoor
namespace Go.Cv
open Go
def jN(days:Int):Int->List Int->Bool
 |_,[]=>true
 |last,d::r=>(decide (last<d)&&decide (d<days))&&jN days d r
def gy(c:NV):Bool:=(decide (1<=c.aj)&&(decide (1<=c.days)&&(!decide (c.aE= [])&&(c.aE.all λh=>decide (0<=h)&&decide (h<c.aj)))))&&(tR c.bP&&((c.bQ.all (r9 c.aj c.aE.length c.bP.length))&&jN c.days (-1) c.off))
structure rW (c:cZ):Prop where
 p:c.aj<=12
 h:c.aE.length<=12
 u:c.bP.length<=20
 a:c.bQ.length<=60
 k:c.iH.length<=400
theorem vr{days:Int}:∀ {l:List Int} {last:Int} {k:Nat} {d:Int},l[k]? =some d->jN days last (l.take k)=true->jN days last (l.take (k+1))=(decide (((l.take k).getLast?).getD last<d)&&decide (d<days))
 | [],_,_,_,h,_=>by simp at h
 |x::r,last,0,d,h,_=>by
  simp at h;subst h;show jN days last [x]=_;simp only[jN,Bool.and_true];rfl
 |x::r,last,k+1,d,h,hk=>by
  simp only[List.getElem?_cons_succ]at h;simp only[eJ,jN,ua,uD]at hk
  have:=vr (last:=x) h hk.2;simp only[eJ,jN,dt hk.1.1,dt hk.1.2,M8];rw[this];congr 2;cases hr:r.take k with
  |nil=>simp
  |cons y s=>simp[List.getLast?_cons]
theorem vq{days:Int}:∀ {l:List Int} {last:Int} {k:Nat},jN days last (l.take k)=false->jN days last l=false
 | [],_,_,h=>by simpa[jN]using h
 |x::r,last,0,h=>by simp[jN]at h
 |x::r,last,k+1,h=>by
  simp only[eJ,jN]at h⊢;cases h1:(decide (last<x)&&decide (x<days))with
  |false=>rfl
  |true=>rw[h1,M8]at h;rw[M8];exact vq h
end Go.Cv
namespace Go.Proofs.YtkmbmfengcdmoaaGreatDoor
open Go.RowKit Go.W32 Go.ay Go.Cs Go.Lib Go.Opn Go.Mg Go.Cv

theorem Dc(cs:List Value)(h:cs.length=7):(Tryz.prog.info? 155).map (·.size)=some cs.length:=by rw[h];kernel_rfl
theorem Kd{cs:List Value}(hcl:cs.length=7)(hc1:∀v∈cs,v.oneCell'=true)(s t:Nat)(W0 W1:World)(b:Nat)(hb:b=W0.heap.size)(e1:W1=W0.alloc (.cells cs.toArray 155))(Q:Exit->Act->World->Prop)(ops:Array Oper)(rest:List Oper)(o:Oper)(a:Act)(hgd:o.guard=none)(ho:o.op= .store 155 (.tmp s) (.tmp t))(hx:a.eval (.tmp s)= .pointer (some ⟨b,0,none⟩))(hy:a.eval (.tmp t)= .agg cs.toArray)(ju:Array Value)(hold:ju.size=7)(hk:wpList Tryz.prog ops Q rest (a.put o.dst undef) W1):wpList Tryz.prog ops Q (o::rest) a (W0.alloc (.cells ju 155)):=by rw[e1]at hk;exact Hk.aD hgd 155 (.tmp s) (.tmp t) ho b _ hx hy ju 155 hb (by rw[Dc cs hcl];simp) (by rw[hold];simp[hcl]) (all_oneCell_toArray hc1) hk
theorem Ep(a:zY):∀v∈ln a,v.oneCell'=true:=λv hv=>by
 simp only[ln,lC,DR,DW]at hv;rcases hv with rfl|rfl|rfl|rfl|rfl|rfl|rfl<;>rfl
set_option maxHeartbeats 4000000 in
theorem AJ(c:cZ)(W:World)(hc:dV W c)(hl:rW c)(hz:lk c):Calls Tryz.prog 98 #[.agg (cD c).toArray] W λe w'=>e= .returned (.bool (gy c.iU))/\Below W.heap.size W w':=by
 obtain⟨R,eR⟩:=x_ (λe w'=>e= .returned (.bool (gy c.iU))/\Below W.heap.size W w':Ending->World->Prop)
 rw[<-eR];have FIN:Hid (∀w' v,v=gy c.iU->Below W.heap.size W w'->R (.returned (.bool v)) w'):=h_ λw' v h hb=>by rw[eR,h];exact⟨rfl,hb⟩
 clear eR;have HV:Hid (gy c.iU=((decide (1<=c.aj)&&(decide (1<=c.days)&&(!decide (c.aE.length=0)&&lW c.aj c.aE)))&&(tR c.bP&&((c.bQ.all (r9 c.aj c.aE.length c.bP.length))&&jN c.days (-1) c.off)))):=h_ (by
  unfold gy lW cZ.iU;simp only[Ky])
 obtain⟨W1,cs,hx⟩:=uh W c;obtain⟨k0,k1,k2,k3,k4,k5,k6⟩:=jK.of (T:=27) (b:=W.heap.size) (w:=W1) (c:=c) (by rw[<-hx.cs];exact hx.row);have HK:Hid (∀w',Below W1.heap.size W1 w'->jK w' W.heap.size c/\w'.rangeAt W.heap.size 0 cs/\dV w' c):=h_ λw' hb=>⟨jK.of (T:=27) (by rw[<-hx.cs];exact hx.row.below hb hx.row.lt),(hx.row.below hb hx.row.lt).rg,hc.below (hx.below.trans (hb.mono hx.below.size)) (aL _)⟩
 have E1:=h_ hx.e;have HB1:=h_ hx.below;have HI:=h_ (ig cs (by rw[hx.cs];rfl));have CH:=h_ (IL c W1 (HK.out W1 (Below.refl _ _)).2.2 hl.h hl.p);have CQ:Hid (∀w',Below W1.heap.size W1 w'->Calls Tryz.prog 155 #[.slice c.uA c.bP.length c.uc] w' (zZ c.bP w')):=h_ λw' hb=>Pb c.uA c.uc c.bP w' (HK.out w' hb).2.2.u hz.uc (by have:=hl.u;omega)
 have CA:=h_ (λa w=>KS c a w);rw[<-hx.cs]at CH CA⊢;have HL:=h_ hl;have HZ:=h_ hz;clear hx hc hl hz k2 k3 k4 k6;by_cases h1:1<=c.aj;rotate_left
 ·have q1:decide (1<=c.aj)=false:=dy h1;have q1':decide (c.aj<1)=true:=dt (by omega);have HF:=h_ (FIN.out W1 false (by rw[HV.out];simp[q1]) HB1.out);clear FIN HV;go_enter Tryz.func98,Tryz.ntmps98;go_wp2_with (simp only[E1.out])
  exact HF.out
 have q1:decide (1<=c.aj)=true:=dt h1;have q1':decide (c.aj<1)=false:=dy (by omega);by_cases h2:1<=c.days;rotate_left
 ·have q2:decide (1<=c.days)=false:=dy h2;have q2':decide (c.days<1)=true:=dt (by omega);have HF:=h_ (FIN.out W1 false (by rw[HV.out];simp[q2]) HB1.out);clear FIN HV;go_enter Tryz.func98,Tryz.ntmps98;go_wp2_with (simp only[E1.out])
  exact HF.out
 have q2:decide (1<=c.days)=true:=dt h2;have q2':decide (c.days<1)=false:=dy (by omega);by_cases h3:c.aE.length=0
 ·have q3:decide (c.aE.length=0)=true:=dt h3;have q3':((c.aE.length:Int)==0)=true:=by simpa using h3
  have HF:=h_ (FIN.out W1 false (by rw[HV.out];simp[h3]) HB1.out);clear FIN HV h3;go_enter Tryz.func98,Tryz.ntmps98;go_wp2_with (simp only[E1.out])
  exact HF.out
 have q3:decide (c.aE.length=0)=false:=dy h3;have q3':((c.aE.length:Int)==0)=false:=by simp;intro e;exact h3 (by rw[e];rfl)
 obtain⟨HB,eHB⟩:=x_ (lW c.aj c.aE)
 rw[<-eHB]at CH HV;have HV2:Hid (gy c.iU=(HB&&(tR c.bP&&((c.bQ.all (r9 c.aj c.aE.length c.bP.length))&&jN c.days (-1) c.off)))):=h_ (by rw[HV.out,q1,q2,q3];rfl);have HML:=h_ (HK.out W1 (Below.refl _ _)).2.1;clear HV eHB h1 h2 h3 q1 q2 q3;go_enter Tryz.func98,Tryz.ntmps98;go_wp2_with (first
  |(simp only[E1.out])
  |(refine aH (.tmp 1) ?_;refine Row.still (Free.wq rfl) (Hk.aU 27 (.tmp 1) rfl W.heap.size 0 rfl cs _ HML.out Tryz.underlying27 rfl HI.out) ?_;simp only[Pt]))
 refine CH.out.mono ?_;rintro e w2 ⟨rfl,hb2⟩;obtain⟨⟨k0,k1,k2,k3,k4,k5,k6⟩,_,_⟩:=HK.out w2 hb2;have HB2:=h_ hb2;clear hb2 CH HML k0 k1 k4 k5 k6;cases HB with
 |false=>have HF:=h_ (FIN.out w2 false (by rw[HV2.out];rfl) (HB1.out.trans (HB2.out.mono HB1.out.size)));clear FIN HV2;go_wp2_with fail;exact HF.out
 |true=>
 go_wp2_with fail;refine(CQ.out w2 HB2.out).mono ?_;rintro e w3 ⟨⟨ix,rfl⟩,hb3⟩;have HB3:=h_ (HB2.out.trans (hb3.mono HB2.out.size));obtain⟨⟨k0,k1,k2,k3,k4,k5,k6⟩,_,_⟩:=HK.out w3 HB3.out;obtain⟨UB,eUB⟩:=x_ (tR c.bP)
 rw[<-eUB]at HV2⊢;clear hb3 CQ eUB k0 k1 k2 k4 k5;cases UB with
 |false=>have HF:=h_ (FIN.out w3 false (by rw[HV2.out];rfl) (HB1.out.trans (HB3.out.mono HB1.out.size)));clear FIN HV2;go_wp2_with fail;exact HF.out
 |true=>
 have HV3:Hid (gy c.iU=((c.bQ.all (r9 c.aj c.aE.length c.bP.length))&&jN c.days (-1) c.off)):=h_ (by rw[HV2.out];rfl);clear HV2;go_wp2_with fail;obtain⟨af,eaf⟩:=x_ (r9 c.aj c.aE.length c.bP.length)
 rw[<-eaf]at HV3;have CA2:Hid (∀a w,Calls Tryz.prog 156 #[.agg cs.toArray, .agg (ln a).toArray] w λe w'=>e= .returned (.bool (af a))/\Below w.heap.size w w'):=h_ λa w=>by rw[eaf];exact CA.out a w
 clear CA eaf k6 k3
 go_loopw [40] (λv wr=> ∃k:Nat,v= .int .i64 (k:Int)/\k<=c.bQ.length/\Hid ((c.bQ.take k).all af=true)/\Below W1.heap.size W1 wr) (λv _=>(c.bQ.length:Int).toNat- (RowKit.intOf v).toNat)
 case atStart=>exact⟨0,rfl,gu _,h_ rfl,HB3.out⟩
 case round=>
  obtain⟨k,rfl,hk,hal,hbw⟩:=hrel;have hkb:(k:Int)<=60:=by have:=HL.out.a;omega
  obtain⟨⟨k0,k1,k2,k3,k4,k5,k6⟩,hrg,hat⟩:=HK.out wr hbw;rcases pC hk with hkl|hkl
  ·have hki:(k:Int)<(c.bQ.length:Int):=by omega
   obtain⟨a,ea⟩:∃x,c.bQ[k]? =some x:=⟨_,eH hkl⟩
   have hA:=hat.a;obtain⟨b,off,eA⟩:=cG hA (by intro e;rw[e]at hkl;simp at hkl);rw[eA]at k3 hA⊢;obtain⟨ds,eds⟩:=x_ (ln a)
   have hdl:ds.length=7:=by rw[eds];rfl
   have HMk:Hid (wr.rangeAt b (off+k*7) ds):=h_ (by rw[eds];exact dq hA ea);have HIk:=h_ (Dc ds hdl);obtain⟨Wk,ek⟩:=x_ (wr.alloc (.cells ds.toArray 155))
   have hrk:Row Wk wr.heap.size 155 ds:=by rw[ek];exact Row.new _ _ _
   have hbk:Below wr.heap.size wr Wk:=by rw[ek];exact(Below.refl _ _).alloc (aL _) _
   have HSk:=h_ (Kd hdl (by rw[eds];exact Ep a) 6 43 wr Wk _ rfl ek);have HBk:=h_ (hbw.trans (hbk.mono hbw.size));have HMC:=h_ (HK.out Wk HBk.out).2.1;have HMA:=h_ hrk.rg;have CAk:=h_ (CA2.out a Wk);rw[<-eds]at CAk;obtain⟨v,ev⟩:=x_ (af a)
   rw[<-ev]at CAk;have EV:=h_ ev;have EA:=h_ ea;clear eds hdl ek hrk hbk hA ea ev eA hbw hrg hat hk k0 k1 k2 k4 k5 k6;go_wp2_with (first
    |(refine aH (.tmp 42) ?_;refine wpList_load_mid rfl 155 (.tmp 42) rfl b (off+k*7) rfl ds _ HMk.out Tryz.underlying155 rfl HIk.out ?_)
    |(refine aN (.tmp 6) ?_;refine HSk.out _ _ _ _ _ rfl rfl rfl rfl _ (by simp) ?_;simp only[Pt])
    |(refine aH (.tmp 1) ?_;refine wpList_load_mid rfl 27 (.tmp 1) rfl W.heap.size 0 rfl cs _ HMC.out Tryz.underlying27 rfl HI.out ?_)
    |(refine aH (.tmp 6) ?_;refine wpList_load_mid rfl 155 (.tmp 6) rfl wr.heap.size 0 rfl ds _ HMA.out Tryz.underlying155 rfl HIk.out ?_))
   refine CAk.out.mono ?_;rintro e w5 ⟨rfl,hb5⟩;have HB5:=h_ (HBk.out.trans (hb5.mono HBk.out.size));clear hb5 CAk;cases v with
   |true=>
    go_wp2_with fail
    go_roundw
    case rel=>exact⟨k+1,rfl,hkl,h_ (lI EA.out hal.out EV.out.symm),HB5.out⟩
    case measure=>simp[RowKit.intOf];omega
   |false=>have HF:=h_ (FIN.out w5 false (by rw[HV3.out,il EA.out EV.out.symm];rfl) (HB1.out.trans (HB5.out.mono HB1.out.size)));clear FIN HV3;go_wp2_with fail;exact HF.out
  ·have hki: ¬(k:Int)<(c.bQ.length:Int):=by omega
   have HV4:Hid (gy c.iU=jN c.days (-1) c.off):=h_ (by
    have:=hal.out;rw[np (by omega)]at this;rw[HV3.out,this];rfl)
   have HB4:=h_ hbw;clear HV3 hbw hal hrg hat hk hkl CA2 k0 k1 k2 k3 k4 k5;go_wp2_with fail;generalize wr=wo at*
   go_loopw [7,52] (λu v wr=> ∃k:Nat,v= .int .i64 (k:Int)/\k<=c.off.length/\u= .int .i64 (((c.off.take k).getLast?).getD (-1))/\Hid (jN c.days (-1) (c.off.take k)=true)/\wr=wo) (λ_ v _=>(c.off.length:Int).toNat- (RowKit.intOf v).toNat)
   case atStart=>exact⟨0,rfl,gu _,rfl,h_ rfl,rfl⟩
   case round=>
    obtain⟨k,rfl,hk,rfl,hal,hwo⟩:=hrel;subst hwo;obtain⟨⟨k0,k1,k2,k3,k4,k5,k6'⟩,hrg,hat⟩:=HK.out wr HB4.out;rcases pC hk with hkl|hkl
    ·have hki:(k:Int)<(c.off.length:Int):=by omega
     have hkb:(k:Int)+1<=9223372036854775807:=by have:=HZ.out.o;omega
     obtain⟨d,ed⟩:∃x,c.off[k]? =some x:=⟨_,eH hkl⟩
     have hO:=hat.o;obtain⟨b,off,eO⟩:=cG hO (by intro e;rw[e]at hkl;simp at hkl);rw[eO]at hO⊢;have cd:=fi hO ed;have hstep:=vr ed hal.out;obtain⟨L,eL⟩:=x_ (((c.off.take k).getLast?).getD (-1))
     rw[<-eL]at hstep⊢;have HSTP:=h_ hstep;have HLAST:Hid (((c.off.take (k+1)).getLast?).getD (-1)=d):=h_ (by rw[zX,ed,Option.toList_some,List.getLast?_append];rfl);have HLS:Hid (jN c.days (-1) (c.off.take (k+1))=false->jN c.days (-1) c.off=false):=h_ vq;clear hstep eL ed hO eO hrg hat hk k0 k1 k2 k3 k4 k6 k6';by_cases h1:L<d;rotate_left
     ·have q1:decide (d<=L)=true:=dt (by omega);have HF:=h_ (FIN.out wr false (by rw[HV4.out,HLS.out (by rw[HSTP.out,dy h1];rfl)]) (HB1.out.trans (HB4.out.mono HB1.out.size)));clear FIN HV4;go_wp2_with fail;exact HF.out
     have q1:decide (d<=L)=false:=dy (by omega);by_cases h2:d<c.days;rotate_left
     ·have q2:decide (c.days<=d)=true:=dt (by omega);have HF:=h_ (FIN.out wr false (by rw[HV4.out,HLS.out (by rw[HSTP.out,dy h2,R5])]) (HB1.out.trans (HB4.out.mono HB1.out.size)));clear FIN HV4;go_wp2_with fail;exact HF.out
     have q2:decide (c.days<=d)=false:=dy (by omega);have HNX:Hid (jN c.days (-1) (c.off.take (k+1))=true):=h_ (by rw[HSTP.out,dt h1,dt h2];rfl);go_wp2_with fail
     go_roundw
     case rel=>exact⟨k+1,rfl,hkl,by rw[HLAST.out],HNX,by trivial⟩
     case measure=>simp[RowKit.intOf];omega
    ·have hki: ¬(k:Int)<(c.off.length:Int):=by omega
     have HF:=h_ (FIN.out wr true (by have:=hal.out;rw[np (by omega)]at this;rw[HV4.out,this]) (HB1.out.trans (HB4.out.mono HB1.out.size)));clear FIN HV4 hal hk hkl;go_wp2_with fail;exact HF.out
end Go.Proofs.YtkmbmfengcdmoaaGreatDoor
