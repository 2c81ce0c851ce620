/- Package contract: validKind. Condition: the contract lies in memory. -/
import Derived.Test.YtkmbmfengcdmoaaGreatDoorZAN
set_option maxRecDepth 100000
set_option linter.all false
namespace Go.Cv
open Go Go.Cs
def oJ(H:Nat)(acs:List zY)(k:mT):Bool:=
 if k.kind==4 then(k.role== -1)&&((k.eQ==1)&&((k.cY==0)&& !k.fin))
 else if !ja H k.role||lz acs k.act then false
 else if k.kind==1 then decide (1<=k.eQ)&&(decide (k.eQ<=9)&&(decide (0<=k.cY)&&decide (k.cY<=400)))
 else if k.kind==2 then(k.eQ==1)&&(k.cY==0)
 else if k.kind==3 then(k.eQ==1)&&((k.cY==0)&& !k.fin)
 else false
end Go.Cv
namespace Go.Proofs.YtkmbmfengcdmoaaGreatDoor
open Go.RowKit Go.W32 Go.ay Go.Cs Go.Lib Go.Opn Go.Mg Go.Cv
structure rn (w:World) (b:Nat) (k:mT) (st:Value):Prop where
 q0:w.cell? ⟨b,0,none⟩=some (.int .i64 k.kind)
 q1:w.cell? ⟨b,1,none⟩=some (.int .i64 k.role)
 q2:w.cell? ⟨b,2,none⟩=some (.int .i64 k.act)
 q3:w.cell? ⟨b,3,none⟩=some (.int .i64 k.eQ)
 q4:w.cell? ⟨b,4,none⟩=some st
 q5:w.cell? ⟨b,5,none⟩=some (.int .i64 k.after)
 q6:w.cell? ⟨b,6,none⟩=some (.int .i64 k.cY)
 q7:w.cell? ⟨b,7,none⟩=some (.bool k.PH)
 q8:w.cell? ⟨b,8,none⟩=some (.bool k.fin)
 q9:w.cell? ⟨b,9,none⟩=some (.int .i64 k.fh)
 zi:w.cell? ⟨b,10,none⟩=some (.int .i64 k.resume)
 xH:w.cell? ⟨b,11,none⟩=some (.int .i64 k.num)
 xI:w.cell? ⟨b,12,none⟩=some (.int .i64 k.den)
 zj:w.cell? ⟨b,13,none⟩=some (.int .i64 k.unit)
 zW:w.cell? ⟨b,14,none⟩=some (.int .i64 k.toK)
 zk:w.cell? ⟨b,15,none⟩=some (.bool k.qx)
theorem rn.of{w:World}{b:Nat}{T:TypeId}{k:mT}{st:Value}(h:Row w b T (nA k st)):rn w b k st:=
 ⟨h.at rfl,h.at rfl,h.at rfl,h.at rfl,h.at rfl,h.at rfl,h.at rfl,h.at rfl,h.at rfl,h.at rfl,h.at rfl,h.at rfl,h.at rfl,h.at rfl,h.at rfl,h.at rfl⟩
theorem rn.Rp{w:World}{b:Nat}{T:TypeId}{k:Kl}(h:Row w b T (oz k)):rn w b k.1 (.slice k.2.1 k.1.start.length k.2.2):=rn.of h
set_option maxHeartbeats 4000000 in
theorem IY(c:cZ)(k:Kl)(W:World)(hc:dV W c):Calls Tryz.prog 157 #[.agg (cD c).toArray, .agg (oz k).toArray] W λe w'=>e= .returned (.bool (oJ c.aE.length c.bQ k.1))/\Below W.heap.size W w':=by
 obtain⟨R,eR⟩:=x_ (λe w'=>e= .returned (.bool (oJ c.aE.length c.bQ k.1))/\Below W.heap.size W w':Ending->World->Prop)
 rw[<-eR];have FIN:Hid (∀w' v,v=oJ c.aE.length c.bQ k.1->Below W.heap.size W w'->R (.returned (.bool v)) w'):=h_ λw' v h hb=>by rw[eR,h];exact⟨rfl,hb⟩
 clear eR;obtain⟨cs,ecs⟩:=x_ (cD c)
 obtain⟨ds,eds⟩:=x_ (oz k)
 obtain⟨hr1,hr2,hbw⟩:=tO W 27 34 cs ds;have CM0:=λi w=>wP c i w
 have CN0:∀i w,Below W.heap.size W w->_:=λi w hb=>Dp c i w (hc.below hb (aL _))
 rw[<-ecs]at CM0⊢;simp only[<-ecs]at CN0;rw[<-eds];generalize eW:(W.alloc (.cells cs.toArray 27)).alloc (.cells ds.toArray 34)=W2 at*;have E1:=h_ eW;have HQ:Hid (∀w',Below W2.heap.size W2 w'->rn w' (W.heap.size+1) k.1 (.slice k.2.1 k.1.start.length k.2.2)):=h_ λw' hb=>rn.Rp (T:=34) (by rw[<-eds];exact hr2.below hb hr2.lt)
 have HM:Hid (∀w',Below W2.heap.size W2 w'->w'.rangeAt W.heap.size 0 cs):=h_ λw' hb=>(hr1.below hb hr1.lt).rg
 have HI:=h_ (ig cs (by rw[ecs];rfl));have HB2:=h_ hbw;obtain⟨RB,eRB⟩:=x_ (ja c.aE.length k.1.role)
 obtain⟨NB,eNB⟩:=x_ (lz c.bQ k.1.act)
 have CM:=h_ (CM0 k.1.role);have CN:=h_ (λw hb=>CN0 k.1.act w hb);rw[<-eRB]at CM;rw[<-eNB]at CN;have HV:Hid (oJ c.aE.length c.bQ k.1=(if k.1.kind==4 then(k.1.role== -1)&&((k.1.eQ==1)&&((k.1.cY==0)&& !k.1.fin))
  else if !RB||NB then false
  else if k.1.kind==1 then decide (1<=k.1.eQ)&&(decide (k.1.eQ<=9)&&(decide (0<=k.1.cY)&&decide (k.1.cY<=400)))
  else if k.1.kind==2 then(k.1.eQ==1)&&(k.1.cY==0)
  else if k.1.kind==3 then(k.1.eQ==1)&&((k.1.cY==0)&& !k.1.fin)
  else false)):=h_ (by unfold oJ;rw[eRB,eNB])
 obtain⟨q0,q1,q2,q3,q4,q5,q6,q7,q8,q9,zi,xH,xI,zj,zW,zk⟩:=HQ.out W2 (Below.refl _ _);have HMl:=h_ (HM.out W2 (Below.refl _ _));obtain⟨⟨kind,role,act,eQ,start,after,cY,PH,fin,fh,resume,num,den,unit,dest,qx⟩,kA,kc⟩:=k;simp only at q0 q1 q2 q3 q6 q8 HV FIN CM CN HQ;clear ecs eds hr1 hr2 hbw CM0 CN0 eW eRB eNB q4 q5 q7 q9 zi xH xI zj zW zk hc;by_cases h4:kind=4
 ·have b4:(kind==4)=true:=by simpa using h4
  have HF:Hid (∀v,v=((role== -1)&&((eQ==1)&&((cY==0)&& !fin)))->R (.returned (.bool v)) W2):=h_ λv h=>FIN.out W2 v (by rw[HV.out,b4,h];rfl) HB2.out
  clear FIN HV h4 CM CN;by_cases h1:role= -1
  ·have b1:(role== -1)=true:=by simpa using h1
   by_cases h2:eQ=1
   ·have b2:(eQ==1)=true:=by simpa using h2
    by_cases h3:cY=0
    ·have b3:(cY==0)=true:=by simpa using h3
     have HG:=h_ (HF.out (!fin) (by rw[b1,b2,b3];rfl));clear h1 h2 h3 HF;go_enter Tryz.func157,Tryz.ntmps157;go_wp2_with (simp only[E1.out])
     exact HG.out
    ·have b3:(cY==0)=false:=by simpa using h3
     have HG:=h_ (HF.out false (by rw[b3];simp));clear h1 h2 h3 HF;go_enter Tryz.func157,Tryz.ntmps157;go_wp2_with (simp only[E1.out])
     exact HG.out
   ·have b2:(eQ==1)=false:=by simpa using h2
    have HG:=h_ (HF.out false (by rw[b2];simp));clear h1 h2 HF;go_enter Tryz.func157,Tryz.ntmps157;go_wp2_with (simp only[E1.out])
    exact HG.out
  ·have b1:(role== -1)=false:=by simpa using h1
   have HG:=h_ (HF.out false (by rw[b1];simp));clear h1 HF;go_enter Tryz.func157,Tryz.ntmps157;go_wp2_with (simp only[E1.out])
   exact HG.out
 have b4:(kind==4)=false:=by simpa using h4
 clear h4;go_enter Tryz.func157,Tryz.ntmps157;go_wp2_with (first
  |(simp only[E1.out])
  |(refine aH (.tmp 2) ?_;refine Row.still (Free.wq rfl) (Hk.aU 27 (.tmp 2) rfl W.heap.size 0 rfl cs _ HMl.out Tryz.underlying27 rfl HI.out) ?_;simp only[Pt]))
 refine(CM.out _).mono ?_;rintro e w3 ⟨rfl,hb3⟩;obtain⟨q0,q1,q2,q3,q4,q5,q6,q7,q8,q9,zi,xH,xI,zj,zW,zk⟩:=HQ.out w3 hb3;have HM3:=h_ (HM.out w3 hb3);have HB3:=h_ (HB2.out.trans (hb3.mono HB2.out.size));have HB23:=h_ hb3;clear hb3 CM HMl q4 q5 q7 q9 zi xH xI zj zW zk;cases RB with
 |false=>have HF:=h_ (FIN.out w3 false (by rw[HV.out,b4];rfl) HB3.out);clear FIN HV;go_wp2_with fail;exact HF.out
 |true=>
 go_wp2_with (refine aH (.tmp 2) ?_;refine Row.still (Free.wq rfl) (Hk.aU 27 (.tmp 2) rfl W.heap.size 0 rfl cs _ HM3.out Tryz.underlying27 rfl HI.out) ?_;simp only[Pt])
 refine(CN.out w3 HB3.out).mono ?_;rintro e w4 ⟨rfl,hb4⟩;obtain⟨q0,q1,q2,q3,q4,q5,q6,q7,q8,q9,zi,xH,xI,zj,zW,zk⟩:=HQ.out w4 (HB23.out.trans (hb4.mono HB23.out.size));have HB4:=h_ (HB3.out.trans (hb4.mono HB3.out.size));clear hb4 CN HM3 q1 q2 q4 q5 q7 q9 zi xH xI zj zW zk;cases NB with
 |true=>have HF:=h_ (FIN.out w4 false (by rw[HV.out,b4];rfl) HB4.out);clear FIN HV;go_wp2_with fail;exact HF.out
 |false=>
 have HF:Hid (∀v,v=(if kind==1 then decide (1<=eQ)&&(decide (eQ<=9)&&(decide (0<=cY)&&decide (cY<=400)))
  else if kind==2 then(eQ==1)&&(cY==0)else if kind==3 then(eQ==1)&&((cY==0)&& !fin)else false)->R (.returned (.bool v)) w4):=h_ λv h=>FIN.out w4 v (by rw[HV.out,b4,h];rfl) HB4.out
 clear FIN HV HB3 HB4 HB23 HB2 HM HQ E1 HI;by_cases k1:kind=1
 ·have b1:(kind==1)=true:=by simpa using k1
  have HG:Hid (∀v,v=(decide (1<=eQ)&&(decide (eQ<=9)&&(decide (0<=cY)&&decide (cY<=400))))->R (.returned (.bool v)) w4):=h_ λv h=>HF.out v (by rw[b1,h];rfl)
  clear k1 HF;by_cases h1:1<=eQ;rotate_left
  ·have d1:decide (1<=eQ)=false:=dy h1;have HH:=h_ (HG.out false (by rw[d1];rfl));clear HG;go_wp2_with fail;exact HH.out
  have d1:decide (1<=eQ)=true:=dt h1;by_cases h2:eQ<=9;rotate_left
  ·have d2:decide (eQ<=9)=false:=dy h2;have HH:=h_ (HG.out false (by rw[d2];simp));clear HG;go_wp2_with fail;exact HH.out
  have d2:decide (eQ<=9)=true:=dt h2;by_cases h3:0<=cY;rotate_left
  ·have d3:decide (0<=cY)=false:=dy h3;have HH:=h_ (HG.out false (by rw[d3];simp));clear HG;go_wp2_with fail;exact HH.out
  have d3:decide (0<=cY)=true:=dt h3;have HH:=h_ (HG.out (decide (cY<=400)) (by rw[d1,d2,d3];rfl));clear HG;by_cases h5:cY<=400
  ·have d5:decide (cY<=400)=true:=dt h5;rw[d5]at HH;go_wp2_with fail;exact HH.out
  ·have d5:decide (cY<=400)=false:=dy h5;rw[d5]at HH;go_wp2_with fail;exact HH.out
 have b1:(kind==1)=false:=by simpa using k1
 by_cases k2:kind=2
 ·have b2:(kind==2)=true:=by simpa using k2
  have HG:Hid (∀v,v=((eQ==1)&&(cY==0))->R (.returned (.bool v)) w4):=h_ λv h=>HF.out v (by rw[b1,b2,h];rfl)
  clear k1 k2 HF;by_cases h2:eQ=1
  ·have c2:(eQ==1)=true:=by simpa using h2
   have HH:=h_ (HG.out (cY==0) (by rw[c2];rfl));clear HG h2;go_wp2_with fail;exact HH.out
  ·have c2:(eQ==1)=false:=by simpa using h2
   have HH:=h_ (HG.out false (by rw[c2];rfl));clear HG h2;go_wp2_with fail;exact HH.out
 have b2:(kind==2)=false:=by simpa using k2
 by_cases k3:kind=3
 ·have b3:(kind==3)=true:=by simpa using k3
  have HG:Hid (∀v,v=((eQ==1)&&((cY==0)&& !fin))->R (.returned (.bool v)) w4):=h_ λv h=>HF.out v (by rw[b1,b2,b3,h];rfl)
  clear k1 k2 k3 HF;by_cases h2:eQ=1
  ·have c2:(eQ==1)=true:=by simpa using h2
   by_cases h3:cY=0
   ·have c3:(cY==0)=true:=by simpa using h3
    have HH:=h_ (HG.out (!fin) (by rw[c2,c3];rfl));clear HG h2 h3;go_wp2_with fail;exact HH.out
   ·have c3:(cY==0)=false:=by simpa using h3
    have HH:=h_ (HG.out false (by rw[c3];simp));clear HG h2 h3;go_wp2_with fail;exact HH.out
  ·have c2:(eQ==1)=false:=by simpa using h2
   have HH:=h_ (HG.out false (by rw[c2];rfl));clear HG h2;go_wp2_with fail;exact HH.out
 ·have b3:(kind==3)=false:=by simpa using k3
  have HH:=h_ (HF.out false (by rw[b1,b2,b3];rfl));clear k1 k2 k3 HF;go_wp2_with fail;exact HH.out
end Go.Proofs.YtkmbmfengcdmoaaGreatDoor
