/- The reference of layer 15: Small. Condition: the contract lies in memory. -/
import Derived.Test.YtkmbmfengcdmoaaGreatDoorZBL
import Derived.Test.YtkmbmfengcdmoaaGreatDoorZBH
import Derived.Test.YtkmbmfengcdmoaaGreatDoorZBF
import Derived.Test.YtkmbmfengcdmoaaGreatDoorZAL
import Derived.Test.YtkmbmfengcdmoaaGreatDoorZAS
import Derived.Test.YtkmbmfengcdmoaaGreatDoorZAO
set_option linter.all false
set_option maxRecDepth 100000
namespace Go.Proofs.YtkmbmfengcdmoaaGreatDoor
open Go.RowKit Go.ay Go.Cs Go.Jn Go.Dk Go.Ho Go.Apl Go.Sg Go.Cv

theorem GH.Ci{n m:Nat}{s:HS}(h:GH n s m)(hn:4<=n)(hm:m<900000){l:List aV}(hl:Own s s.me l)(hk:s.pubs.getD s.me.toNat 0=cQ s.secret){day:Int}{body:ByteArray}(hd0: -9223372036854775808<=day)(hd1:day<=9223372036854775807)(hb:body.size<=1000000000)
  (ha:s.js.d.bH=false) (he:eI l s.me s.secret day body=0) (hz:(aP (dn l s.me s.secret day body)).size<=2000) (hr:dG s.js.bW+4+(aP (dn l s.me s.secret day body)).size<=32*((n-2) / 2)):
  (s.add n day body).2=(dn l s.me s.secret day body,0)/\dA n s m (dn l s.me s.secret day body) (s.add n day body).1/\Own (s.add n day body).1 s.me (l++ [dn l s.me s.secret day body]):=by
 rcases h.add hn hm hl hk hd0 hd1 hb with⟨c,_,_,_,_,q⟩|⟨q1,_,q3,q4⟩|⟨_,_,q3⟩
 ·have:=(q he hz).2;omega
 ·exact⟨q1,q3,q4⟩
 ·have:=q3.arm;rw[ha]at this;cases this
theorem GH.zM{n m:Nat}{s:HS}(h:GH n s m)(hn:4<=n)(hm:m<900000){e:aV}(ho:e.Ok)(hp:e.prev.size<=1000000000)(hb:e.body.size<=1000000000)(ha:s.js.d.bH=false)(hne:(aP e,e)∉s.aw)(hg:gB s.aj s.pubs e (aP e)=true)(hr:dG s.js.bW+4+(aP e).size<=32*((n-2) / 2)):
  (s.take n e).2=0/\dA n s m e (s.take n e).1:=by
 rcases h.take hn hm ho hp hb with⟨c,_,_,_,_,q⟩|⟨_,_,q⟩|⟨_,q⟩|⟨q1,q2⟩|⟨_,q⟩
 ·have:=(q hg).2;omega
 ·have:=(dB hg).2.2;rw[q]at this;cases this
 ·exact absurd q hne
 ·exact⟨q1,q2⟩
 ·have:=q.arm;rw[ha]at this;cases this
theorem GH.MT{n m:Nat}{s:HS}(h:GH n s m){e:aV}(hpl:dj s.aj e=true)(hz:(aP e).size<=2000)(hne:(aP e,e)∉s.aw)(hsg:nM e (s.pubs.getD e.house.toNat 0)=false):s.take n e=(s,17):=by
 unfold HS.take;rw[if_neg (by rw[h.run];decide),if_neg (by rw[hpl];decide),if_neg (by omega)];have h3: ¬(Mk.get s.aw (aP e)).isSome=true:=λh3=>by
  cases hg:Mk.get s.aw (aP e)with
  |none=>rw[hg]at h3;cases h3
  |some x=>
   have hm:=Mk.get_mem hg
   have:=kQ (h.en.mem hm);rw[<-this]at hm;exact hne hm
 rw[if_neg h3,if_pos (show gB s.aj s.pubs e (aP e)=false by unfold gB;rw[hsg,hpl];simp)]
theorem mK{α β:Type}{x:α×β}{b:β}(h:x.2=b):x=(x.1,b):=by rw[<-h]
theorem Ga(b:List UInt8):dG [b]=4+b.length:=rfl
theorem Gb(a b:List UInt8):dG [a,b]=4+a.length+(4+b.length):=rfl
theorem dA.pubs{n m:Nat}{s s':HS}{e:aV}(h:dA n s m e s'):s'.pubs=s.pubs/\s'.me=s.me/\s'.secret=s.secret/\s'.aj=s.aj/\s'.bQ=s.bQ/\s'.days=s.days/\s'.aw=s.aw++ [(aP e,e)]:=by have e:=h.eq;refine⟨?_, ?_, ?_, ?_, ?_, ?_, ?_⟩<;>rw[e]
theorem dA.bW{n m:Nat}{s s':HS}{e:aV}(h:dA n s m e s')(hs:s.js.bW=s.aw.map λp=>p.1.data.toList):s'.js.bW=s.js.bW++ [(aP e).data.toList]:=by rw[h.gh.bW,h.pubs.2.2.2.2.2.2,uE,hs];rfl
def gq:List Int:= [16807,49]
def o8:HS:=⟨2,1,10,0,5,gq,OV 40,true,[]⟩
def Br:HS:=⟨2,1,10,1,2,gq,OV 40,true,[]⟩
theorem Pe(b1 b2:Nat):yR (rJ b1 b2) 0 5 gq 40=o8:=rfl
theorem Pf(b1 b2:Nat):yR (rJ b1 b2) 1 2 gq 40=Br:=rfl
theorem Tn:fT 2:=by decide
theorem Rw(b1 b2:Nat):oO (rJ b1 b2) 0 5 gq=true:=
 wR ⟨Iq b1 b2,by decide,by show(0:Int)<2;decide,rfl,by decide,by unfold lA;rw[if_pos zx],oU⟩
theorem Rx(b1 b2:Nat):oO (rJ b1 b2) 1 2 gq=true:=
 wR ⟨Iq b1 b2,by decide,by show(1:Int)<2;decide,rfl,by decide,by unfold lA;rw[if_pos Tn],RC⟩
theorem Ti(b1 b2:Nat):oO (rJ b1 b2) 0 2 gq=false:=jO (λh=>by
 have:=h.2.2.2.2.2.2;rw[RC]at this;cases this)
theorem QI:GH 40 o8 0:=Ba (c:=rJ 0 0) (by decide) (by decide) (Rw 0 0)
theorem Su:GH 40 Br 0:=Ba (c:=rJ 0 0) (by decide) (by decide) (Rx 0 0)
theorem TN:Own o8 0 []:=Dq (n:=40) (Rw 0 0) (by decide) (by show(0:Int)<2;decide)
theorem Ud:o8.pubs.getD o8.me.toNat 0=cQ o8.secret:=oU.symm
theorem Pq(s:HS)(h1:s.bQ=1)(h2:s.days=10):dE s jA=true:=by unfold dE;rw[h1,h2];decide
theorem Tv(s:HS)(h1:s.bQ=1)(h2:s.days=10):dE s xB=true:=by unfold dE;rw[h1,h2];decide
theorem Tu(s:HS)(h1:s.bQ=1)(h2:s.days=10):dE s nR=true:=by unfold dE;rw[h1,h2];decide
theorem Jt:jA.Ok:=⟨by decide,by decide,by decide,by decide,by decide,by decide,by decide,by decide,by decide,by decide⟩
theorem NC:xB.Ok:=⟨by decide,by decide,by decide,by decide,by decide,by decide,by decide,by decide,by decide,by decide⟩
theorem Js:nR.Ok:=⟨by decide,by decide,by decide,by decide,by decide,by decide,by decide,by decide,by decide,by decide⟩
theorem QF:o8.file 40 jA=o8.add 40 4 jk:=by rw[oE (l:= []) rfl TN QI.en,if_neg (by rw[Pq _ rfl rfl];decide),if_neg (show ¬((cg o8 []).any λy=>y.ref==jA.ref)=true from λh=>by cases h),vQ];rfl
theorem vY:dn [] o8.me o8.secret 4 jk=bF:=rfl
theorem SK:(o8.add 40 4 jk).2=(dn [] o8.me o8.secret 4 jk,0)/\dA 40 o8 0 (dn [] o8.me o8.secret 4 jk) (o8.add 40 4 jk).1/\Own (o8.add 40 4 jk).1 o8.me ([]++ [dn [] o8.me o8.secret 4 jk]):=
 QI.Ci (l:= []) (day:=4) (body:=jk) (by decide) (by decide) TN Ud (by decide) (by decide) (by decide) rfl v7 (by rw[vY,oX];decide) (by rw[vY,oX];decide)
theorem QA:∃s1,o8.file 40 jA=(s1,bF,0)/\dA 40 o8 0 bF s1/\Own s1 0 [bF]:=by have h:=SK;rw[vY]at h;exact⟨(o8.add 40 4 jk).1,by rw[QF];exact mK h.1,h.2.1,h.2.2⟩
noncomputable def iP:HS:=Classical.choose QA
theorem yz:o8.file 40 jA=(iP,bF,0)/\dA 40 o8 0 bF iP/\Own iP 0 [bF]:=P9 QA
theorem oS:iP.pubs=gq/\iP.me=0/\iP.secret=5/\iP.aj=2/\iP.bQ=1/\iP.days=10/\iP.aw= [(aP bF,bF)]:=yz.2.1.pubs
theorem TS:iP.js.bW= [(aP bF).data.toList]:=yz.2.1.bW rfl
theorem xF:GH 40 iP 1:=yz.2.1.gh
theorem T3:iP.js.d.bH=false:=yz.2.1.arm
theorem Ro:Own iP iP.me [bF]:=by rw[oS.2.1];exact yz.2.2
theorem TL:iP.pubs.getD iP.me.toNat 0=cQ iP.secret:=by rw[oS.1,oS.2.1,oS.2.2.1];exact oU.symm
theorem wC(s:HS)(h1:s.bQ=1)(h2:s.days=10):cg s [bF]= [jA]:=by show kx s [] bF=_;unfold kx;have hb:bF.body=jk:=rfl;have hd:bF.day=4:=rfl;rw[hb,qX Jt vQ,hd];dsimp only;rw[Pq s h1 h2];rfl
theorem OD:iP.file 40 jA=(iP,aM,9):=by rw[oE xF.run Ro xF.en,if_neg (by rw[Pq _ oS.2.2.2.2.1 oS.2.2.2.2.2.1];decide),if_pos (by rw[wC _ oS.2.2.2.2.1 oS.2.2.2.2.2.1];rfl)]
theorem S6:iP.file 40 xB=(iP,aM,15):=by
 rw[oE xF.run Ro xF.en,if_neg (by rw[Tv _ oS.2.2.2.2.1 oS.2.2.2.2.2.1];decide),if_neg (by rw[wC _ oS.2.2.2.2.1 oS.2.2.2.2.2.1];decide)];have hs:(iT xB).size<=136:=nu NC;have hE:eI [bF] iP.me iP.secret xB.cJ (iT xB)=15:=by rw[oS.2.1,oS.2.2.1];exact K0 _ (by omega)
 rcases xF.add (by decide) (by decide) Ro TL (day:=xB.cJ) (body:=iT xB) (by decide) (by decide) (by omega)with⟨c,q1,_,_,q4,_⟩|⟨_,q2,_⟩|⟨_,q2,_⟩
 ·rw[q1,q4 (by rw[hE];decide),hE]
 ·rw[hE]at q2;cases q2
 ·rw[hE]at q2;cases q2
theorem Tm:iP.GG 40 uk=iP.add 40 5 gL:=by rw[Pg xF.run Ro xF.en,if_neg (by rw[oS.2.1];show ¬((0:Int)≠0);decide),if_neg (by show ¬(tx (kv.zero).text).size=0;rw[tq];decide)];show iP.add 40 5 (⟨(Ja uk (tx kv.zero.text)).toArray⟩:ByteArray)=_;rw[Fk]
theorem vZ:dn [bF] iP.me iP.secret 5 gL=cU:=by rw[oS.2.1,oS.2.2.1];rfl
theorem SM:(iP.add 40 5 gL).2=(dn [bF] iP.me iP.secret 5 gL,0)/\dA 40 iP 1 (dn [bF] iP.me iP.secret 5 gL) (iP.add 40 5 gL).1/\Own (iP.add 40 5 gL).1 iP.me ([bF]++ [dn [bF] iP.me iP.secret 5 gL]):=by have hr:=Dw;exact xF.Ci (l:= [bF]) (by decide) (by decide) Ro TL (day:=5) (body:=gL) (by decide) (by decide) (by decide) T3 (by rw[oS.2.1,oS.2.2.1];exact Ck) (by rw[vZ];omega) (by rw[vZ,TS,Ga,jP,oX];omega)
theorem QB:∃s2,iP.GG 40 uk=(s2,cU,0)/\dA 40 iP 1 cU s2/\Own s2 0 [bF,cU]:=by have h:=SM;rw[vZ,oS.2.1]at h;exact⟨(iP.add 40 5 gL).1,by rw[Tm];exact mK h.1,h.2.1,h.2.2⟩
noncomputable def ng:HS:=Classical.choose QB
theorem xe:iP.GG 40 uk=(ng,cU,0)/\dA 40 iP 1 cU ng/\Own ng 0 [bF,cU]:=P9 QB
theorem Mt:ng.pubs=gq/\ng.me=0/\ng.secret=5/\ng.aj=2/\ng.bQ=1/\ng.days=10/\ng.aw= [(aP bF,bF),(aP cU,cU)]:=by obtain⟨h1,h2,h3,h4,h5,h6,h7⟩:=xe.2.1.pubs;obtain⟨k1,k2,k3,k4,k5,k6,k7⟩:=oS;refine⟨by rw[h1,k1],by rw[h2,k2],by rw[h3,k3],by rw[h4,k4],by rw[h5,k5],by rw[h6,k6],by rw[h7,k7];rfl⟩
theorem TT:ng.js.bW= [bF,cU].map λe=>(aP e).data.toList:=by rw[xe.2.1.bW xF.bW,TS];rfl
theorem KF:GH 40 ng 2:=xe.2.1.gh
theorem IG(s:HS)(h1:s.aj=2)(h2:s.pubs=gq):gB s.aj s.pubs bF (aP bF)=true:=by have:=yz.2.1.gen;rw[h1,h2];exact this
theorem Jr:bF.Ok/\bF.prev.size<=1000000000/\bF.body.size<=1000000000:=ky [] 0 5 4 jk (by decide) (by decide) (by decide) (by decide) (by decide) (by decide)
theorem Rr:cU.Ok/\cU.prev.size<=1000000000/\cU.body.size<=1000000000:=ky [bF] 0 5 5 gL (by decide) (by decide) (by decide) (by decide) (by decide) (by decide)
theorem QC:∃s1,Br.take 40 bF=(s1,0)/\dA 40 Br 0 bF s1:=by have h:=Su.zM (by decide) (by decide) Jr.1 Jr.2.1 Jr.2.2 rfl (λh=>by cases h) (IG Br rfl rfl) (by rw[oX];decide);exact⟨(Br.take 40 bF).1,mK h.1,h.2⟩
noncomputable def nh:HS:=Classical.choose QC
theorem Ki:Br.take 40 bF=(nh,0)/\dA 40 Br 0 bF nh:=P9 QC
theorem Be:nh.pubs=gq/\nh.me=1/\nh.secret=2/\nh.aj=2/\nh.bQ=1/\nh.days=10/\nh.aw= [(aP bF,bF)]:=Ki.2.pubs
theorem PL:GH 40 nh 1:=Ki.2.gh
theorem NA:oy.Ok/\oy.prev.size<=1000000000/\oy.body.size<=1000000000:=by obtain⟨⟨h1,h2,h3,h4,_,_,h7,h8,h9,h10,h11,h12⟩,k1,k2⟩:=Rr;exact⟨⟨h1,h2,h3,h4,by show(-9223372036854775808:Int)<=6;decide,by show(6:Int)<=9223372036854775807;decide,h7,h8,h9,h10,h11,h12⟩,k1,k2⟩
theorem RQ:nh.take 40 oy=(nh,17):=by
 have hsg:nM oy (nh.pubs.getD oy.house.toNat 0)=false:=by rw[Be.1];exact Hl
 have hpl:dj nh.aj oy=true:=by rw[Be.2.2.2.1];unfold dj;decide
 have hsz:(aP oy).size<=2000:=by
  have:=j9 NA.1;have h1:oy.prev.size<=64:=by show(fF [bF]).size<=64;exact gW _
  have h2:oy.body.size<=100:=by show gL.size<=100;decide
  omega
 refine PL.MT hpl hsz ?_ hsg;rw[Be.2.2.2.2.2.2];intro q;have q':=vU.1 q
 have:=congrArg (λp:ByteArray×aV=>p.2.day) q';have h:(6:Int)=4:=this;cases h
noncomputable def jh:HS:= {ng with js:= {ng.js with d:=ng.js.d.fail 0 0}}
noncomputable def tG:HS:= {jh with js:= {jh.js with broken:=true},run:=false}
theorem rM:jh.pubs=gq/\jh.me=0/\jh.secret=5/\jh.bQ=1/\jh.days=10/\jh.run=true/\jh.aw=ng.aw/\jh.js.d=ng.js.d.fail 0 0/\jh.js.v=ng.js.v/\jh.js.a=ng.js.a/\jh.js.bW=ng.js.bW/\jh.js.broken=false:=by obtain⟨h1,h2,h3,_,h5,h6,_⟩:=Mt;unfold jh;exact⟨h1,h2,h3,h5,h6,KF.run,rfl,rfl,rfl,rfl,rfl,KF.j.brk⟩
theorem TO:Own jh jh.me [bF,cU]:=by rw[rM.2.1];exact⟨by rw[rM.2.2.2.2.2.2.1];exact xe.2.2.perm,by rw[rM.1];have:=xe.2.2.ch;rw[Mt.1]at this;exact this⟩
theorem Rq:jh.js.d.on=false:=by rw[rM.2.2.2.2.2.2.2.1];unfold DD.fail;rw[if_pos KF.j.on]
theorem OE(s:HS)(h1:s.bQ=1)(h2:s.days=10):cg s [bF,cU]= [jA]:=by
 have:=im s [bF] cU;rw[show [bF,cU]= [bF]++ [cU] from rfl,this,wC s h1 h2];unfold kx;have hb:cU.body=gL:=rfl;rw[hb,qW];intro x _ h;have h1:=congrArg (λb:ByteArray=>b.data.toList.head?) h;have h2:∀k,(pE x k).data.toList.head? =some 102:=λk=>by
  induction k with
  |zero=>rfl
  |succ k ih=>show(pE x k++(⟨#[32]⟩++dec (l8 x k))).data.toList.head? =_;rw[R6,R8,List.head?_append,ih];rfl
 have h3:gL.data.toList.head? =some 108:=rfl;unfold iT at h1;rw[h2 6,h3]at h1;cases h1
theorem S5:jh.file 40 nR=(tG,aM,21):=by
 have hen:EN jh.aw:=by rw[rM.2.2.2.2.2.2.1];exact KF.en
 have hs:(iT nR).size<=136:=nu Js;have e1:jh.file 40 nR=jh.add 40 9 (iT nR):=by rw[oE (l:= [bF,cU]) rM.2.2.2.2.2.1 TO hen,if_neg (by rw[Tu jh rM.2.2.2.1 rM.2.2.2.2.1];decide),if_neg (by rw[OE jh rM.2.2.2.1 rM.2.2.2.2.1];decide)];rfl
 have hC:bE jh jh.me= [bF,cU]:=TO.ou hen;have hE:eI [bF,cU] jh.me jh.secret 9 (iT nR)=0:=by rw[rM.2.1,rM.2.2.1];exact KY _ (by omega)
 obtain⟨e,ee⟩:=x_ (jh.next 9 (iT nR))
 have hee:e=dn [bF,cU] jh.me jh.secret 9 (iT nR):=by rw[ee];unfold HS.next;rw[hC]
 have hsz:(aP e).size<=338:=by
  have hm:jh.me=0:=rM.2.1;rw[hm]at hee;have ok:=ky [bF,cU] 0 jh.secret 9 (iT nR) (by decide) (by decide) (by decide) (by decide) (by decide) (by omega);rw[<-hee]at ok
  have:=j9 ok.1;have h1:e.prev.size<=64:=by rw[hee];exact gW [bF,cU]
  have h2:e.body=iT nR:=by rw[hee];rfl
  rw[h2]at this;omega
 have hst:jh.store 40 e (aP e)=({jh with js:= {jh.js with broken:=true},run:=false},21):=by
  have hap:jh.js.append 40 (aP e).data.toList=({jh.js with broken:=true},21):=by
   refine Ad rM.2.2.2.2.2.2.2.2.2.2.2 Rq ?_ (by rw[jP];omega) ?_
   ·rw[rM.2.2.2.2.2.2.2.2.1]
    have:=KF.j.num;omega
   ·rw[rM.2.2.2.2.2.2.2.2.1,KF.j.len.1,TT];simp only[xJ,NP];rw[Gb,jP,jP,jP,oX]
    have:=Dw;omega
  unfold HS.store;rw[hap];rfl
 have hadd:jh.add 40 9 (iT nR)=({jh with js:= {jh.js with broken:=true},run:=false},aM,21):=by unfold HS.add;rw[hC,hE,if_neg (by decide), <-ee,if_neg (by omega),hst];rfl
 rw[e1,hadd];rfl
theorem QD:tG.file 40 nR=(tG,aM,22):=Ez (by unfold tG;rfl)
theorem T8:tG.js.d.start=(ng.js.d.fail 0 0).start:=by
 have:tG.js.d=jh.js.d:=by unfold tG;rfl
 rw[this,rM.2.2.2.2.2.2.2.1]
theorem O3:dR 40 tG.js.d.start=(0,some (ng.js.v,ng.js.a,[bF,cU].map λe=>(aP e).data.toList)):=by rw[T8, <-TT];exact(KF.j.back (by decide) 0 0).1
noncomputable def sG:HS:=⟨2,1,10,0,5,gq,⟨tG.js.d.start,ng.js.v,ng.js.a,[bF,cU].map λe=>(aP e).data.toList,false⟩,true,eP [bF,cU]⟩
theorem Tg:aP bF≠aP cU:=λh=>by
 have:=congrArg aV.day (kQ h);have h:(4:Int)=5:=this;cases h
theorem Rk:([bF,cU].map aP).Nodup:=by simp only[xJ,NP];exact NT.2 ⟨λh=>Tg (vU.1 h),NT.2 ⟨λh=>(by cases h),List.nodup_nil⟩⟩
theorem yV:∀e∈ [bF,cU],e.Ok/\e.prev.size<=1000000/\e.body.size<=1000000/\gB 2 gq e (aP e)=true:=by
 intro e he;rcases lC.1 he with rfl|he
 ·exact⟨Jr.1,by show(0:Nat)<=_;decide,by show jk.size<=_;decide,IG Br rfl rfl⟩
 ·rw[vU]at he;subst he;refine⟨Rr.1, ?_,by show gL.size<=_;decide, ?_⟩
  ·have:(fF [bF]).size<=64:=gW _;show(fF [bF]).size<=_;omega
  ·have:=xe.2.1.gen;rw[oS.2.2.2.1,oS.1]at this;exact this
theorem S3:EN sG.aw:=uT (λe he=>⟨(yV e he).1,(yV e he).2.1,(yV e he).2.2.1⟩) Rk (by decide)
theorem QW:lv sG:=yZ (c:=rJ 0 0) (Rw 0 0) S3
theorem Qz:sG.aw=ng.aw:=by rw[Mt.2.2.2.2.2.2];rfl
theorem oG:Own sG 0 [bF,cU]:=by
 refine⟨?_, ?_⟩
 ·rw[Qz];exact xe.2.2.perm
 ·have:=xe.2.2.ch;rw[Mt.1]at this;exact this
theorem J7:bJ sG.aw 1= []:=by
 have h:(bJ sG.aw 1).length=0:=by rw[kY];rfl
 exact Ky.1 h
theorem SO:ug sG= [bF,cU]:=by have h0:bJ sG.aw 0= [bF,cU]:=oG.sorted S3;have h1:=J7;show mV sG.aw 2=_;rw[jT,jT];show([]++bJ sG.aw 0)++bJ sG.aw 1=_;rw[h0,h1];rfl
theorem Ra:vh sG= [2,0]:=by have h0:bJ sG.aw 0= [bF,cU]:=oG.sorted S3;have h1:=J7;show(List.range 2).map (vj sG.aw)=_;show [kM (bJ sG.aw 0),kM (bJ sG.aw 1)]=_;rw[h0,h1];rfl
theorem OG:dP nh 0= [jA]/\dP nh 1= []:=by
 have hb:Own nh 0 [bF]:=by
  refine⟨?_, ?_⟩
  ·rw[Be.2.2.2.2.2.2];exact P5 _
  ·have:=yz.2.2.ch;rw[oS.1]at this;rw[Be.1];exact this
 refine⟨?_, ?_⟩
 ·unfold dP;rw[hb.ou PL.en];exact wC _ Be.2.2.2.2.1 Be.2.2.2.2.2.1
 ·unfold dP
  have:bE nh 1= []:=by
   have h0:bJ nh.aw 1= []:=by
    have h:(bJ nh.aw 1).length=0:=by rw[kY,Be.2.2.2.2.2.2];rfl
    exact Ky.1 h
   unfold bE fA;rw[h0,List.take_nil]
  rw[this];rfl
end Go.Proofs.YtkmbmfengcdmoaaGreatDoor
namespace Go.Proofs.YtkmbmfengcdmoaaGreatDoor
open Go.RowKit Go.ay Go.Jn Go.Dk Go.Ho
structure xO (we w:World) (n1:Nat) (p1:Pl) (s1:HS) (n2:Nat) (p2:Pl) (s2:HS):Prop where
 a:HC we w n1 p1 s1
 b:HC we w n2 p2 s2
 off:∀k,p1.F k-> ¬p2.F k
section
variable {we w w':World} {n1 n2:Nat} {p1 p2:Pl} {s1 s2 s':HS} {v:Value} {e:Ending}
theorem xO.swap(h:xO we w n1 p1 s1 n2 p2 s2):xO we w n2 p2 s2 n1 p1 s1:=⟨h.b,h.a,λk hk hk'=>h.off k hk' hk⟩
theorem xO.grow(h:xO we w n1 p1 s1 n2 p2 s2)(hb:Below w.heap.size w w'):xO we w' n1 p1 s1 n2 p2 s2:=⟨h.a.grow hb,h.b.grow hb,h.off⟩
theorem bS.beside(h:HC we w n1 p1 s1)(hb:HC we w n2 p2 s2)(off:∀k,p1.F k-> ¬p2.F k)(hp:bS we w n1 p1 s' v e w'):
  e= .returned v/\∃p',p'.o=p1.o/\p'.b=p1.b/\p'.bs=p1.bs/\xO we w' n1 p' s' n2 p2 s2/\aJ p1.F w w'/\(∀k,p'.F k->p1.F k\/w.heap.size<=k):=by
 obtain⟨h0,p',q1,q2,q3,q4,q5,q6⟩:=hp;exact⟨h0,p',q1,q2,q3,⟨q4,hb.bD q5 (λk hk f=>off k f hk) (λk f=>h.ju f),λk hk hk'=>(q6 k hk).elim (λf=>off k f hk') (λf=>by have:=hb.lt hk';omega)⟩,q5,q6⟩
end
open Go.Mp Go.Lib
theorem take_nil(e0:aV)(w:World):Calls Tryz.prog 13 #[.pointer none, .agg (aK e0).toArray] w λe w'=>e= .returned (.int .i64 1)/\Below w.heap.size w w':=by
 obtain⟨R,eR⟩:=x_ (λe w'=>e= .returned (.int .i64 1)/\Below w.heap.size w w':Ending->World->Prop)
 rw[<-eR];obtain⟨cs,ecs⟩:=x_ (aK e0)
 obtain⟨V,eV⟩:=x_ (w.alloc (.cells cs.toArray 42))
 have EV:Hid (w.alloc (.cells cs.toArray 42)=V):=h_ eV.symm;have HF:Hid (R (.returned (.int .i64 1)) V):=h_ (by rw[eR,eV];exact⟨rfl,(Below.refl _ _).alloc (aL _) _⟩);rw[<-ecs];clear eR ecs eV;go_enter Tryz.func13,Tryz.ntmps13;go_wp2_with (simp only[EV.out])
 (try go_ret);exact HF.out
theorem yu(w:World):Calls Tryz.prog 14 #[.pointer none] w λe w'=>e= .returned (.slice none 0 0)/\w=w':=by go_enter Tryz.func14,Tryz.ntmps14;go_wp2_with fail;go_ret;exact⟨rfl,rfl⟩
section
variable {we w w':World} {n:Nat} {p:Pl} {s:HS} {v:Value} {e:Ending} {d:DD}
theorem HC.ly(h:HC we w n p s)(q:eM w p.b p.bs p.bm n p.pv d v e w'):bS we w n p {s with js:= {s.js with d:=d}} v e w':=by
 obtain⟨h1,bm',pv',h2,h3,h4⟩:=h.pj.ly q;refine⟨h1,{p with bm:=bm',pv:=pv'},rfl,rfl,rfl,h.NK (rv':=p.rv) h2 h3 h4,h3.mono (λk _ f=> .inr f), ?_⟩;intro k hk;rcases hk with hk|hk
 ·exact .inl (.inl hk)
 ·exact(h4 k hk).imp (λh=> .inr h) id
theorem HC.fail(h:HC we w n p s)(x y:Int)(hx0: -9223372036854775808<=x)(hx1:x<=9223372036854775807)(hy0: -9223372036854775808<=y)(hy1:y<=9223372036854775807):
  Calls Tryz.prog 24 #[.pointer (some ⟨p.b,0,none⟩), .int .i64 x, .int .i64 y] w (bS we w n p {s with js:= {s.js with d:=s.js.d.fail x y}} (.tuple #[])):=
 (oD h.pj.j.ly x y hx0 hx1).mono λ_ _ q=>h.ly q
theorem HC.start(h:HC we w n p s):Calls Tryz.prog 25 #[.pointer (some ⟨p.b,0,none⟩)] w (bS we w n p {s with js:= {s.js with d:=s.js.d.start}} (.tuple #[])):=
 (Ie h.pj.j.ly).mono λ_ _ q=>h.ly q
theorem HC.arm(h:HC we w n p s)(x y z:Int)(hx0: -9223372036854775808<=x)(hx1:x<=9223372036854775807)(hy0: -9223372036854775808<=y)(hy1:y<=9223372036854775807)(hz0: -9223372036854775808<=z)(hz1:z<=9223372036854775807):
  Calls Tryz.prog 21 #[.pointer (some ⟨p.b,0,none⟩), .int .i64 x, .int .i64 y, .int .i64 z] w (bS we w n p {s with js:= {s.js with d:=s.js.d.arm x y z}} (.tuple #[])):=
 (OA h.pj.j.ly x y z hx0 hx1 hy0 hy1 hz0 hz1).mono λ_ _ q=>h.ly q
end
end Go.Proofs.YtkmbmfengcdmoaaGreatDoor
namespace Go.Proofs.YtkmbmfengcdmoaaGreatDoor
open Go.RowKit Go.ay Go.Jn Go.Dk Go.Ho Go.Lib

abbrev Bk:=Nat×List Value×TypeId
structure St (we w:World) (n1:Nat) (p1:Pl) (s1:HS) (n2:Nat) (p2:Pl) (s2:HS) (L:List Bk):Prop where
 two:xO we w n1 p1 s1 n2 p2 s2
 bg:∀x∈L,ay w x.1 x.2.1 x.2.2/\ ¬p1.F x.1/\ ¬p2.F x.1
section
variable {we w w':World} {n1 n2:Nat} {p1 p2:Pl} {s1 s2 s':HS} {v:Value} {e:Ending} {L:List Bk}
theorem St.base(h:St we w n1 p1 s1 n2 p2 s2 L):Below we.heap.size we w:=h.two.a.pj.e.bl
theorem St.nF(h:St we w n1 p1 s1 n2 p2 s2 L):cB w:=h.two.a.pj.e.h
theorem St.swap(h:St we w n1 p1 s1 n2 p2 s2 L):St we w n2 p2 s2 n1 p1 s1 L:=⟨h.two.swap,λx hx=>⟨(h.bg x hx).1,(h.bg x hx).2.2,(h.bg x hx).2.1⟩⟩
theorem St.grow(h:St we w n1 p1 s1 n2 p2 s2 L)(hb:Below w.heap.size w w'):St we w' n1 p1 s1 n2 p2 s2 L:=
 ⟨h.two.grow hb,λx hx=>⟨(h.bg x hx).1.below hb (h.bg x hx).1.lt,(h.bg x hx).2⟩⟩
theorem St.push(h:St we w n1 p1 s1 n2 p2 s2 L)(hb:Below w.heap.size w w'){b:Nat}{cs:List Value}{T:TypeId}(hk:ay w' b cs T)(hlo:w.heap.size<=b):St we w' n1 p1 s1 n2 p2 s2 ((b,cs,T)::L):=by
 refine⟨h.two.grow hb,λx hx=> ?_⟩;rcases lC.1 hx with rfl|hx
 ·exact⟨hk,λf=>by have:=h.two.a.lt f;omega,λf=>by have:=h.two.b.lt f;omega⟩
 ·exact(h.grow hb).bg x hx
theorem St.mr(h:St we w n1 p1 s1 n2 p2 s2 L)(hp:bS we w n1 p1 s' v e w'):e= .returned v/\∃p',p'.o=p1.o/\p'.b=p1.b/\St we w' n1 p' s' n2 p2 s2 L:=by obtain⟨h0,p',q1,q2,_,q4,q5,q6⟩:=hp.beside h.two.a h.two.b h.two.off;refine⟨h0,p',q1,q2,q4,λx hx=> ?_⟩;obtain⟨k1,k2,k3⟩:=h.bg x hx;exact⟨k1.bG (q5.block _ k1.lt k2),λf=>(q6 _ f).elim k2 (λg=>by have:=k1.lt;omega),k3⟩
theorem St.DJ(h:St we w n1 p1 s1 n2 p2 s2 L)(hp:bS we w n2 p2 s' v e w'):e= .returned v/\∃p',p'.o=p2.o/\p'.b=p2.b/\St we w' n1 p1 s1 n2 p' s' L:=by obtain⟨h0,p',q1,q2,q3⟩:=h.swap.mr hp;exact⟨h0,p',q1,q2,q3.swap⟩
theorem St.set(h:St we w n1 p1 s1 n2 p2 s2 L){L':List Bk}{b:Nat}{cs:List Value}{T:TypeId}(hm:(b,cs,T)∈L)(hlo:we.heap.size<=b)(hL:∀x∈L',x∈L/\x.1≠b)(i:Nat)(u:Value):
  St we (w.setCell ⟨b,i,none⟩ u) n1 p1 s1 n2 p2 s2 ((b,cs.set i u,T)::L'):=by
 obtain⟨k1,k2,k3⟩:=h.bg _ hm;have hk:aJ (λk=>k=b) w (w.setCell ⟨b,i,none⟩ u):=(aJ.refl (λk=>k=b) w).setCell (p:=⟨b,i,none⟩) (λ_=>rfl) _;refine⟨⟨h.two.a.bD hk (λk f e=>k2 (by subst e;exact f)) (λk e=>by subst e;exact hlo),h.two.b.bD hk (λk f e=>k3 (by subst e;exact f)) (λk e=>by subst e;exact hlo),h.two.off⟩,λx hx=> ?_⟩;rcases lC.1 hx with rfl|hx
 ·exact⟨k1.set i u,k2,k3⟩
 ·obtain⟨hx1,hne⟩:=hL x hx;obtain⟨j1,j2,j3⟩:=h.bg x hx1;exact⟨j1.bG (hk.block _ j1.lt hne),j2,j3⟩
theorem GH.lim{n m:Nat}{s:HS}(h:GH n s m):s.js.d.aF.length<=900000/\s.js.bW.length<=1000000:=by refine⟨by rw[h.j.aF];exact gu _, ?_⟩;rw[h.bW,rm];exact h.en.e.jX
end
end Go.Proofs.YtkmbmfengcdmoaaGreatDoor
namespace Go.Proofs.YtkmbmfengcdmoaaGreatDoor
open Go.RowKit Go.W32 Go.ay Go.Cs Go.Lib Go.Opn Go.Mg

set_option maxHeartbeats 1000000 in
theorem AS(A:Option Addr)(c:Nat)(a:List Int)(B:Option Addr)(d:Nat)(b:List Int)(W:World)(ha:SL W 1 Cs.encI A a)(hb:SL W 1 Cs.encI B b)(hn:a.length<=4611686018427387903)(hm:b.length<=4611686018427387903):
  Calls Tryz.prog 41 #[.slice A a.length c, .slice B b.length d] W λe w'=>e= .returned (.bool (decide (a=b)))/\Below W.heap.size W w':=by
 obtain⟨R,eR⟩:=x_ (λe w'=>e= .returned (.bool (decide (a=b)))/\Below W.heap.size W w':Ending->World->Prop)
 rw[<-eR];have FIN:Hid (∀w' v,v=decide (a=b)->Below W.heap.size W w'->R (.returned (.bool v)) w'):=h_ λw' v h hb=>by rw[eR,h];exact⟨rfl,hb⟩
 clear eR;have HA:=h_ ha;have HB:=h_ hb;clear ha hb;go_enter Tryz.func41,Tryz.ntmps41;by_cases hl:a.length=b.length
 ·have hli:(a.length:Int)=(b.length:Int):=by omega
  go_wp2_with fail
  go_loopw [5] (λv wr=> ∃k:Nat,v= .int .i64 (k:Int)/\k<=a.length/\a.take k=b.take k/\Below W.heap.size W wr) (λv _=>(a.length:Int).toNat- (RowKit.intOf v).toNat)
  case atStart=>exact⟨0,rfl,gu _,rfl,Below.refl _ _⟩
  case round=>
   obtain⟨k,rfl,hk,ht,hbw⟩:=hrel;rcases pC hk with hkl|hkl
   ·have hki:(k:Int)<(a.length:Int):=by omega
    have hkj:(k:Int)<(b.length:Int):=by omega
    obtain⟨ba,oa,rfl⟩:=cG HA.out (by rintro rfl;simp at hkl);obtain⟨bb,ob,rfl⟩:=cG HB.out (λe=>by have h:=congrArg List.length e;rw[qA]at h;omega);obtain⟨x,ex⟩:∃x,a[k]? =some x:=⟨_,eH hkl⟩
    obtain⟨y,ey⟩:∃y,b[k]? =some y:=⟨_,eH (by omega)⟩
    have HC:Hid (wr.drew.cell? ⟨ba,oa+k,none⟩=some (.int .i64 x)/\wr.drew.cell? ⟨bb,ob+k,none⟩=some (.int .i64 y)):=h_ ⟨fi ((HA.out.below hbw (aL _)).drew) ex,fi ((HB.out.below hbw (aL _)).drew) ey⟩;have HT:=h_ ht;have EX:=h_ ex;have EY:=h_ ey;have HBW:=h_ hbw.drew;clear ht ex ey hbw hk;by_cases hxy:x=y
    ·subst hxy;go_wp2_with fail;refine Fre7.dZ 9 [] (λ_ w'=>w'=wr.drew) (by kernel_rfl) (by kernel_rfl) (by kernel_rfl) rfl ?_;simp only[eJ,dT];iterate 9 (apply Fre7.ae (Free.wq rfl) rfl;(intro s w' hB;have hB:w'=wr.drew:=hB;subst hB;obtain⟨hc1,hc2⟩:=HC.out;go_light;go_simp<;>rfl);(try simp only[Pt]))
     apply Fre7.ax;intro wz hB;have hB:wz=wr.drew:=hB;subst hB;simp only[fm,fo];go_wp2_with fail
     go_roundw
     case rel=>exact⟨k+1,rfl,hkl,Gs EX.out EY.out HT.out rfl,HBW.out⟩
     case measure=>simp[RowKit.intOf];omega
    ·have HF:=h_ (FIN.out wr.drew false (dy (Rm EX.out EY.out hxy)).symm HBW.out);go_wp2_with fail;refine Fre7.dZ 9 [] (λ_ w'=>w'=wr.drew) (by kernel_rfl) (by kernel_rfl) (by kernel_rfl) rfl ?_;simp only[eJ,dT];iterate 9 (apply Fre7.ae (Free.wq rfl) rfl;(intro s w' hB;have hB:w'=wr.drew:=hB;subst hB;obtain⟨hc1,hc2⟩:=HC.out;go_light;go_simp<;>rfl);(try simp only[Pt]))
     apply Fre7.ax;intro wz hB;have hB:wz=wr.drew:=hB;subst hB;simp only[fm,fo];go_wp2_with fail;exact HF.out
   ·have hki: ¬(k:Int)<(a.length:Int):=by omega
    have hF:=FIN.out wr true (dt (by
     have h1:=ht;rw[np (by omega),np (by omega)]at h1;exact h1)).symm hbw
    have HF:=h_ hF;clear hF ht hbw;go_wp2_with fail;exact HF.out
 ·have hli: ¬(a.length:Int)=(b.length:Int):=by omega
  have HF:=h_ (FIN.out W false (dy (λe=>hl (by rw[e]))).symm (Below.refl _ _));go_wp2_with fail;exact HF.out
end Go.Proofs.YtkmbmfengcdmoaaGreatDoor
namespace Go.Cv
open Go Go.Cs
def iR(m:Nat)(c:cZ):Bool:= !(decide (20<c.aE.length)||decide (30<c.bP.length)||decide (70<c.bQ.length)||decide (m<c.iH.length)||decide (100<c.off.length))&&c.iH.all λq=>decide (q.1.start.length<=20)
end Go.Cv
namespace Go.Proofs.YtkmbmfengcdmoaaGreatDoor
open Go.RowKit Go.W32 Go.ay Go.Cs Go.Lib Go.Opn Go.Mg Go.Cv

set_option maxHeartbeats 2000000 in
theorem zF(m:Nat)(c:cZ)(W:World)(hc:dV W c)(hz:lk c)(hm:m<=1000):Calls Tryz.prog 33 #[.agg (cD c).toArray, .int .i64 (m:Int)] W λe w'=>e= .returned (.bool (iR m c))/\Below W.heap.size W w':=by
 obtain⟨R,eR⟩:=x_ (λe w'=>e= .returned (.bool (iR m c))/\Below W.heap.size W w':Ending->World->Prop)
 rw[<-eR];have FIN:Hid (∀w' v,iR m c=v->Below W.heap.size W w'->R (.returned (.bool v)) w'):=h_ λw' v h hb=>by rw[eR,h];exact⟨rfl,hb⟩
 clear eR;obtain⟨W1,cs,hx⟩:=uh W c;have E1:=h_ hx.e;have HB1:=h_ hx.below;have f1:=hx.row.at (show cs[1]? =some (.slice c.hA c.aE.length c.hc) by rw[hx.cs];rfl);have f2:=hx.row.at (show cs[2]? =some (.slice c.uA c.bP.length c.uc) by rw[hx.cs];rfl);have f3:=hx.row.at (show cs[3]? =some (.slice c.aA c.bQ.length c.ac) by rw[hx.cs];rfl);have f4:=hx.row.at (show cs[4]? =some (.slice c.kA c.iH.length c.kc) by rw[hx.cs];rfl);have f6:=hx.row.at (show cs[6]? =some (.slice c.oA c.off.length c.oc) by rw[hx.cs];rfl);rw[<-hx.cs];have HK:=h_ (hc.k.below hx.below (aL _));have hkz:=hz.k;clear hx hc hz;go_enter Tryz.func33,Tryz.ntmps33;by_cases h1:20<c.aE.length
 ·have q1:decide ((20:Int)<(c.aE.length:Int))=true:=dt (by omega);have HF:=h_ (FIN.out W1 false (by unfold iR;simp[h1]) HB1.out);clear h1;go_wp2_with (simp only[E1.out])
  exact HF.out
 have q1:decide ((20:Int)<(c.aE.length:Int))=false:=dy (by omega);by_cases h2:30<c.bP.length
 ·have q2:decide ((30:Int)<(c.bP.length:Int))=true:=dt (by omega);have HF:=h_ (FIN.out W1 false (by unfold iR;simp[h2]) HB1.out);clear h1 h2;go_wp2_with (simp only[E1.out])
  exact HF.out
 have q2:decide ((30:Int)<(c.bP.length:Int))=false:=dy (by omega);by_cases h3:70<c.bQ.length
 ·have q3:decide ((70:Int)<(c.bQ.length:Int))=true:=dt (by omega);have HF:=h_ (FIN.out W1 false (by unfold iR;simp[h3]) HB1.out);clear h1 h2 h3;go_wp2_with (simp only[E1.out])
  exact HF.out
 have q3:decide ((70:Int)<(c.bQ.length:Int))=false:=dy (by omega);by_cases h4:m<c.iH.length
 ·have q4:decide (m<c.iH.length)=true:=dt h4;have HF:=h_ (FIN.out W1 false (by unfold iR;simp[h4]) HB1.out);clear h1 h2 h3 h4;go_wp2_with (simp only[E1.out])
  exact HF.out
 have q4:decide (m<c.iH.length)=false:=dy h4;by_cases h5:100<c.off.length
 ·have q5:decide ((100:Int)<(c.off.length:Int))=true:=dt (by omega);have HF:=h_ (FIN.out W1 false (by unfold iR;simp[h5]) HB1.out);clear h1 h2 h3 h4 h5;go_wp2_with (simp only[E1.out])
  exact HF.out
 have q5:decide ((100:Int)<(c.off.length:Int))=false:=dy (by omega);have HS:Hid (iR m c=c.iH.all λq=>decide (q.1.start.length<=20)):=h_ (by unfold iR;simp[h1,h2,h3,h4,h5]);have hk12:c.iH.length<=1000:=by omega
 clear h1 h2 h3 h4 h5;go_wp2_with (simp only[E1.out])
 go_loopw [5] (λv wr=> ∃(k:Nat),v= .int .i64 (k:Int)/\k<=c.iH.length/\wr=W1/\Hid ((c.iH.take k).all (λq=>decide (q.1.start.length<=20))=true)) (λv _=>(c.iH.length:Int).toNat- (RowKit.intOf v).toNat)
 case atStart=>exact⟨0,rfl,gu _,rfl,h_ (by simp)⟩
 case round=>
  obtain⟨k,rfl,hk,rfl,HA⟩:=hrel;rcases pC hk with hkl|hkl
  ·have hki:(k:Int)<(c.iH.length:Int):=by omega
   obtain⟨ba,oa,ea⟩:=cG HK.out (by intro e;rw[e]at hkl;simp at hkl);obtain⟨x,ex⟩:∃x,c.iH[k]? =some x:=⟨_,eH hkl⟩
   have hsl:=HK.out;rw[ea]at hsl f4;have d4:=dq hsl ex 4 (.slice x.2.1 x.1.start.length x.2.2) rfl;clear hsl;by_cases hs:x.1.start.length<=20
   ·have q6:decide ((20:Int)<(x.1.start.length:Int))=false:=dy (by omega);have HM:=h_ (lI ex HA.out (dt hs));clear hs ex ea;go_wp2_with fail
    go_roundw
    case rel=>exact⟨k+1,rfl,hkl,(by first|rfl|trivial),HM⟩
    case measure=>simp[RowKit.intOf];omega
   ·have q6:decide ((20:Int)<(x.1.start.length:Int))=true:=dt (by omega);have HF:=h_ (FIN.out wr false (by rw[HS.out];exact il ex (dy hs)) HB1.out);clear hs ex ea;go_wp2_with fail;exact HF.out
  ·have hki: ¬(k:Int)<(c.iH.length:Int):=by omega
   have HF:=h_ (FIN.out wr true (by have h:=HA.out;rw[np (by omega)]at h;rw[HS.out];exact h) HB1.out);go_wp2_with fail;exact HF.out
end Go.Proofs.YtkmbmfengcdmoaaGreatDoor
