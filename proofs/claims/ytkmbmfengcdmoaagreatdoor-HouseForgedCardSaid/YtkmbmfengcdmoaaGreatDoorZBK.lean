/- Package house, plain: houses whose own entries are a chain; what a house holds. No condition. -/
import Derived.Test.YtkmbmfengcdmoaaGreatDoorZBJ
import Derived.Test.YtkmbmfengcdmoaaGreatDoorZBH
import Derived.Test.YtkmbmfengcdmoaaGreatDoorZAU
import Derived.Test.YtkmbmfengcdmoaaGreatDoorZAT
import Derived.Test.YtkmbmfengcdmoaaGreatDoorZBG
import Derived.Test.YtkmbmfengcdmoaaGreatDoorZAH
set_option maxRecDepth 100000
set_option linter.all false
namespace Go.Proofs.YtkmbmfengcdmoaaGreatDoor
open Go.RowKit Go.W32 Go.ay Go.Cs Go.Jn Go.Dk Go.Ho Go.Opn Go.Maps Go.WideMaps Go.Apl Go.Mg Go.Rf Go.Lib Go.Cv

theorem tf{c:cZ}{own secret:Int}{pubs:List Int}(h:oO c own secret pubs=true):jo c.iU=0/\0<=own/\own<c.aj/\(pubs.length:Int)=c.aj/\pubs.all iW=true/\lA secret=0/\cQ secret=pubs.getD own.toNat 0:=by unfold oO at h;simpa only[ua,uD]using h
theorem jO{c:cZ}{own secret:Int}{pubs:List Int}(h: ¬(jo c.iU=0/\0<=own/\own<c.aj/\(pubs.length:Int)=c.aj/\pubs.all iW=true/\lA secret=0/\cQ secret=pubs.getD own.toNat 0)):oO c own secret pubs=false:=by
 cases hq:oO c own secret pubs with
 |false=>rfl
 |true=>exact absurd (tf hq) h
theorem wR{c:cZ}{own secret:Int}{pubs:List Int}(h:jo c.iU=0/\0<=own/\own<c.aj/\(pubs.length:Int)=c.aj/\pubs.all iW=true/\lA secret=0/\cQ secret=pubs.getD own.toNat 0):oO c own secret pubs=true:=by unfold oO;simpa only[ua,uD]using h
theorem Re{K:List (Nat×Free.gN)}{V:World}{s0:HS}{jb n:Nat}{xs:List Value}(hK:K= [(10, .ind (oK n) (λx w=>w.ownsRow V.heap.size 3 1 (oK n x) n xs)),(12, .ind (λx=> .map (some x)) (λx w=>Mk.bL w Value.string qw fv x []/\V.heap.size<=x)),(14, .ind (λx=> .pointer (some ⟨x,0,none⟩)) (Made V s0 jb))]):Free.dm K:=by
 subst hK;intro j mk r hf y w1 w2 hr rr;simp only[Free.find]at hf
 repeat' split at hf
 ·cases hf;exact bC hr (λk e=>rr.block k (World.ownsRow.lt hr k e).2)
 ·cases hf;exact⟨hr.1.bD (rr.block _ hr.1.lt),hr.2⟩
 ·cases hf;exact hr.grow rr
 ·cases hf
set_option maxHeartbeats 4000000 in
theorem uY{we w:World}{b bs bm n:Nat}{pv:Value}{d:DD}{c:cZ}{own secret:Int}{pA:Option Addr}{pc:Nat}{pubs:List Int}{v:Nat×Nat×Nat}{a:Nat}{r:List (List UInt8)}(es:List aV)
  (hT:cB we) (hE:gK we) (hb:Below we.heap.size we w) (hd:aI w b bs bm pv d n) (hf:∀k,Fp b bs bm pv k->we.heap.size<=k) (ho:dR n d=(0,some (v,a,r))) (hr:r=es.map λe=>(aP e).data.toList)
  (hc:dV w c) (hz:lk c) (hp:SL w 1 Cs.encI pA pubs) (hpl:pubs.length<=4611686018427387903)
  (hok:∀e∈es,e.Ok/\e.prev.size<=1000000/\e.body.size<=1000000/\gB c.aj pubs e (aP e)=true) (hnd:(es.map aP).Nodup) (hfew:es.length<=1000000):
  Calls Tryz.prog 20 #[.agg (cD c).toArray, .int .i64 own, .int .i64 secret, .slice pA pubs.length pc, .pointer (some ⟨b,0,none⟩)] w (GU we w b bs bm n pv c own secret pubs ⟨d,v,a,r,false⟩ es):=by
 obtain⟨R,eR⟩:=x_ (GU we w b bs bm n pv c own secret pubs ⟨d,v,a,r,false⟩ es)
 rw[<-eR];have FN:Hid (∀w',oO c own secret pubs=false->Below w.heap.size w w'->R (.returned (.tuple #[.pointer none, .int .i64 1])) w'):=h_ λw' h hb'=>by rw[eR];exact⟨hb', .inl ⟨h,rfl⟩⟩
 have FY:Hid (∀w' (p:Pl),oO c own secret pubs=true->Below w.heap.size w w'->p.b=b->p.bs=bs->p.bm=bm->p.pv=pv->(∀k,p.F k->Fp b bs bm pv k\/w.heap.size<=k)->HC we w' n p ⟨c.aj,c.bQ.length,c.days,own,secret,pubs,⟨d,v,a,r,false⟩,true,eP es⟩->R (.returned (.tuple #[.pointer (some ⟨p.o.hb,0,none⟩), .int .i64 0])) w'):=h_ λw' p h hb' h1 h2 h3 h4 h5 h6=>by
  rw[eR];exact⟨hb', .inr ⟨h,p,h1,h2,h3,h4,h5,rfl,h6⟩⟩
 clear eR;obtain⟨W1,cs,hx⟩:=uh w c;have hws:=hb.size;have HK:Hid (∀w',Below W1.heap.size W1 w'->jK w' w.heap.size c/\w'.rangeAt w.heap.size 0 cs/\SL w' 1 Cs.encI pA pubs):=h_ λw' hb'=>⟨jK.of (T:=27) (by rw[<-hx.cs];exact hx.row.below hb' hx.row.lt),(hx.row.below hb' hx.row.lt).rg,hp.below (hx.below.trans (hb'.mono hx.below.size)) (aL _)⟩
 have E1:=h_ hx.e;have HB1:=h_ hx.below;have HI:=h_ (ig cs (by rw[hx.cs];rfl));have CV:=h_ (zP c W1 (hc.below hx.below (aL _)) hz);have CJ:Hid (∀w',Below w.heap.size w w'->Calls Tryz.prog 65 #[.pointer (some ⟨b,0,none⟩)] w' _):=h_ λw' hb'=>Fg hT (hb.trans (hb'.mono hb.size)) (hd.below hb') hf ho
 have HWE:=h_ hb;have HT:=h_ hT;have HE:=h_ hE;have HPL:=h_ hpl;have HOK:=h_ hok;have HND:=h_ hnd;have HR:=h_ hr;have HFW:=h_ hfew;rw[<-hx.cs]at CV⊢;have HMC:=h_ (HK.out W1 (Below.refl _ _)).2.1;unfold Aa at CV;have HZB:Hid (dV w c):=h_ hc;clear hx hT hE hb hd hf ho hr hc hz hp hpl hok hnd hfew hws;obtain⟨EC,eEC⟩:=x_ (jo c.iU)
 rw[<-eEC]at CV;have hEC:=Ay c.iU;rw[<-eEC]at hEC;have EEC:=h_ eEC;clear eEC;go_enter Tryz.func20,Tryz.ntmps20;go_wp2_with (first
  |(simp only[E1.out])
  |(refine aH (.tmp 5) ?_;refine wpList_load_mid rfl 27 (.tmp 5) rfl w.heap.size 0 rfl cs _ HMC.out Tryz.underlying27 rfl HI.out ?_))
 refine CV.out.mono ?_;rintro e w2 ⟨⟨i0,rfl⟩,hb2⟩;have HB2:=h_ (HB1.out.trans (hb2.mono HB1.out.size));obtain⟨⟨q0,_,_,q3,_,q5,_⟩,_,hsl⟩:=HK.out w2 hb2;have HK2:Hid (∀w',Below w2.heap.size w2 w'->jK w' w.heap.size c/\SL w' 1 Cs.encI pA pubs):=h_ λw' hb'=>⟨(HK.out w' (hb2.trans (hb'.mono hb2.size))).1,(HK.out w' (hb2.trans (hb'.mono hb2.size))).2.2⟩
 clear hb2 CV HMC q3 q5 HK;rcases hEC with rfl|rfl|rfl;rotate_left
 ·have HF:=h_ (FN.out w2 (jO (λh=>by have:=EEC.out;omega)) HB2.out);clear FN FY;go_wp2_with fail;(try go_ret);exact HF.out
 ·have HF:=h_ (FN.out w2 (jO (λh=>by have:=EEC.out;omega)) HB2.out);clear FN FY;go_wp2_with fail;(try go_ret);exact HF.out
 by_cases h1:own<0
 ·have t1:decide (own<0)=true:=dt h1;have HF:=h_ (FN.out w2 (jO (λh=>by omega)) HB2.out);clear FN FY h1;go_wp2_with fail;(try go_ret);exact HF.out
 have t1:decide (own<0)=false:=dy h1;by_cases h2:c.aj<=own
 ·have t2:decide (c.aj<=own)=true:=dt h2;have HF:=h_ (FN.out w2 (jO (λh=>by omega)) HB2.out);clear FN FY h1 h2;go_wp2_with fail;(try go_ret);exact HF.out
 have t2:decide (c.aj<=own)=false:=dy h2;by_cases h3:(pubs.length:Int)=c.aj;rotate_left
 ·have t3:((pubs.length:Int) !=c.aj)=true:=by simpa using h3
  have HF:=h_ (FN.out w2 (jO (λh=>h3 h.2.2.2.1)) HB2.out);clear FN FY h1 h2 h3;go_wp2_with fail;(try go_ret);exact HF.out
 have t3:((pubs.length:Int) !=c.aj)=false:=by simpa using h3
 obtain⟨j,rfl⟩:∃j:Nat,own=(j:Int):=⟨own.toNat,by omega⟩
 have hj:j<pubs.length:=by omega
 have H1:=h_ (show(0:Int)<=(j:Int)/\(j:Int)<c.aj by omega);have H3:=h_ h3;have HJ:=h_ hj;obtain⟨ba,oa,ea⟩:=cG hsl (by intro e;rw[e]at hj;simp at hj);subst ea;have HSL:=h_ hsl;clear h1 h2 h3 hj hsl;go_wp2_with fail;clear t1 t2 t3 q0
 go_loopw [52] (λu wr=> ∃k:Nat,u= .int .i64 (k:Int)/\k<=pubs.length/\wr=w2/\Hid ((pubs.take k).all iW=true)) (λu _=>(pubs.length:Int).toNat- (RowKit.intOf u).toNat)
 case atStart=>exact⟨0,rfl,gu _,rfl,h_ rfl⟩
 case round=>
  obtain⟨k,rfl,hk,rfl,HAL⟩:=hrel;rcases pC hk with hkl|hkl
  ·have hki:(k:Int)<(pubs.length:Int):=by omega
   obtain⟨x,ex⟩:∃x,pubs[k]? =some x:=⟨_,eH hkl⟩
   have q1:=fi HSL.out ex;have EX:=h_ ex;have HKL:=h_ hkl;have HPB:=HPL.out;clear ex hk hkl;by_cases g1:x<1
   ·have t1:decide (x<1)=true:=dt g1;have HF:=h_ (FN.out wr (jO (λh=>by
     have:=uH EX.out (by unfold iW;rw[dy (show ¬1<=x by omega)];rfl);rw[this]at h;cases h.2.2.2.2.1)) HB2.out)
    clear FN FY g1;go_wp2_with fail;(try go_ret);exact HF.out
   have t1:decide (x<1)=false:=dy g1;by_cases g2:2147483646<x
   ·have t2:decide ((2147483646:Int)<x)=true:=dt g2;have HF:=h_ (FN.out wr (jO (λh=>by
     have:=uH EX.out (by unfold iW;rw[dy (show ¬x<=2147483646 by omega)];simp);rw[this]at h;cases h.2.2.2.2.1)) HB2.out)
    clear FN FY g1 g2;go_wp2_with fail;(try go_ret);exact HF.out
   have t2:decide ((2147483646:Int)<x)=false:=dy g2;have HM:=h_ (DZ EX.out HAL.out (by unfold iW;rw[dt (show 1<=x by omega),dt (show x<=2147483646 by omega)];rfl));clear g1 g2;go_wp2_with fail
   go_roundw
   case rel=>exact⟨k+1,rfl,HKL.out,(by first|rfl|trivial),HM⟩
   case measure=>have:=HKL.out;simp[RowKit.intOf];omega
  ·have hki: ¬(k:Int)<(pubs.length:Int):=by omega
   have HA2:Hid (pubs.all iW=true):=h_ (by have h:=HAL.out;rw[np (by omega)]at h;exact h);clear HAL hk hkl;go_wp2_with fail;refine(rQ secret wr).mono ?_;rintro e w' ⟨rfl,rfl⟩;obtain⟨PE,ePE⟩:=x_ (lA secret)
   obtain⟨PV,ePV⟩:=x_ (cQ secret)
   have hPE:PE=0\/PE=1:=by rw[ePE];unfold lA;split<;>simp
   obtain⟨y,ey⟩:∃y,pubs[j]? =some y:=⟨_,eH HJ.out⟩
   have qy:=fi HSL.out ey;have HY:Hid (pubs.getD (j:Int).toNat 0=y):=h_ (by rw[tZ,BX,ey];rfl);rw[<-ePE, <-ePV];have EPE:=h_ ePE;have EPV:=h_ ePV;clear ePE ePV ey;rcases hPE with rfl|rfl;rotate_left
   ·have HF:=h_ (FN.out wr (jO (λh=>by have:=EPE.out;omega)) HB2.out);clear FN FY;go_wp2_with fail;(try go_ret);exact HF.out
   have hji:(j:Int)<(pubs.length:Int):=by have:=HJ.out;omega
   have HPB:=HPL.out;by_cases g1:PV=y;rotate_left
   ·have t1:(PV !=y)=true:=by simpa using g1
    have HF:=h_ (FN.out wr (jO (λh=>g1 (by rw[EPV.out,h.2.2.2.2.2.2,HY.out]))) HB2.out);clear FN FY g1;go_wp2_with fail;(try go_ret);exact HF.out
   have t1:(PV !=y)=false:=by simpa using g1
   have HOB:Hid (oO c (j:Int) secret pubs=true):=h_ (wR ⟨EEC.out.symm,H1.out.1,H1.out.2,H3.out,HA2.out,EPE.out.symm,by rw[<-EPV.out,g1,HY.out]⟩);have CJ2:=h_ (CJ.out wr HB2.out);clear FN g1 EPE EPV HY HA2 CJ;go_wp2_with fail;refine CJ2.out.mono ?_;rintro e V ⟨jb,rv,A,tc,rfl,hpj,hrow,hoff,hbV,hjf⟩;clear qy t1 hki CJ2;have HPJ:=h_ hpj;have HROW:=h_ hrow;have HOFF:=h_ hoff;have HBV:=h_ hbV;have HJF:=h_ hjf;have HQ:Hid (∀w'',Below V.heap.size V w''->w''.cell? ⟨w.heap.size,0,none⟩=some (.int .i64 c.aj)/\w''.cell? ⟨w.heap.size,3,none⟩=some (.slice c.aA c.bQ.length c.ac)/\w''.cell? ⟨w.heap.size,5,none⟩=some (.int .i64 c.days)):=h_ λw'' h=>by
    obtain⟨⟨u0,_,_,u3,_,u5,_⟩,_⟩:=HK2.out w'' (hbV.trans (h.mono hbV.size));exact⟨u0,u3,u5⟩
   have CC:=h_ (λw'' (h:Below V.heap.size V w'')=>Ak (some ⟨ba,oa,none⟩) pc pubs w'' (HK2.out w'' (hbV.trans (h.mono hbV.size))).2 (by have:=H3.out;have:=H1.out;have:=EEC.out;have h12:=sD EEC.out.symm;omega));obtain⟨s0,es0⟩:=x_ (⟨c.aj,c.bQ.length,c.days,(j:Int),secret,pubs,⟨d,v,a,r,false⟩,true,[]⟩:HS)
   have ES0:=h_ es0;clear hpj hrow hoff hbV hjf es0;go_wp2_with fail;refine Free.ai 16 [(10, .ind (oK pubs.length) (λx w=>w.ownsRow V.heap.size 3 1 (oK pubs.length x) pubs.length (pubs.flatMap Cs.encI))),(12, .ind (λx=> .map (some x)) (λx w=>Mk.bL w Value.string qw fv x []/\V.heap.size<=x)),(14, .ind (λx=> .pointer (some ⟨x,0,none⟩)) (Made V s0 jb))] (λy=>Below V.heap.size V y) (by kernel_rfl) (by kernel_rfl) (Re rfl) (Below.refl _ _).drew (λ_ _ h g=>h.trans (Below.mono g h.size)) ?_;simp only[eJ,dT];iterate 10 (apply Free.ae (Free.wq rfl) rfl;(intro w' hB hA;cases HQ.out w' hB;clear hA hB;go_light;go_simp<;>rfl);(try simp only[Pt]))
   apply Free.aR (Free.wq rfl) rfl
   ·intro w'' hB hA;refine Free.au (f:=66) (args:= #[.slice (some ⟨ba,oa,none⟩) pubs.length pc]) (by clear hB hA;go_simp<;>rfl) ?_;refine(CC.out w'' hB).mono ?_;rintro e w3 ⟨A',c',rfl,hown,hb3⟩;have hA2:(A'=none/\c'=0)\/∃g,A'=some ⟨g,0,none⟩:=by
     rcases hown.2 with⟨h1,_⟩|⟨g,cap,cur,h1,_⟩
     ·injection h1 with h1 _ h3;exact .inl ⟨h1,h3⟩
     ·injection h1 with h1 _ h3;exact .inr ⟨g,h1⟩
    obtain⟨x,rfl,rfl⟩:=Hb hA2;exact⟨_,rfl,hb3,x,rfl,qn hown hB.size⟩
   intro x10;simp only[Pt];iterate 1 (apply Free.ae (Free.wq rfl) rfl;(intro w' hB hA;cases HQ.out w' hB;clear hA hB;go_light;go_simp<;>rfl);(try simp only[Pt]))
   apply Free.aR (Free.wq rfl) rfl
   ·intro w'' hB hA;have hmm:= @run_makeMap Tryz.prog;exact Free.cq (v:= .map (some w''.heap.size)) (w':=w''.alloc (.map #[] 0)) (by clear hB hA;go_light;go_simp<;>rfl) ⟨(Below.refl _ _).alloc (aL _) _,w''.heap.size,rfl,Mk.bL.made w'',hB.size⟩
   intro x12;simp only[Pt];iterate 2 (first|(apply Free.ae (Free.wq rfl) rfl;(intro w' hB hA;cases HQ.out w' hB;clear hA hB;go_light;go_simp<;>rfl);(try simp only[Pt]))|(apply Free.aR (Free.wq rfl) rfl;(intro w'' hB hA;have h12:=hA (12,_) dH (by kernel_rfl);have h10:=hA (10,_) (iB _ dH) (by kernel_rfl);dsimp only at h12 h10;refine Free.cq (v:= .pointer (some ⟨w''.heap.size,0,none⟩)) (w':=w''.alloc (.cells (wm ⟨w''.heap.size,jb,x12,aS x10,cS x10⟩ s0).toArray 104)) (by rw[ES0.out];clear hB hA h12 h10;go_light;go_simp<;>rfl) ⟨(Below.refl _ _).alloc (aL _) _,w''.heap.size,rfl, ?_⟩;exact uw hB ES0.out h12 h10)))
   intro x14;simp only[Pt];iterate 1 (apply Free.ae (Free.wq rfl) rfl;(intro w' hB hA;cases HQ.out w' hB;clear hA hB;go_light;go_simp<;>rfl);(try simp only[Pt]))
   apply Free.ax;intro w3 hb3 _ hh;have h14:=hh _ dH;dsimp only at h14;simp only[fm,fo];obtain⟨o,rfl,ejb,hro,m1,m2,m3⟩:=h14.ex;obtain⟨p,ep⟩:=x_ (⟨o,b,bs,bm,pv,rv⟩:Pl)
   have hRe:G7 we V w3 n p s0 (.slice A r.length tc) r:=L0 HPJ.out HROW.out HOFF.out hb3 ep (by rw[ES0.out]) ejb hro m1 m2 m3;obtain⟨hbk,ehb⟩:=x_ o.hb
   have EHB:Hid (hbk=p.o.hb):=h_ (by rw[ep,ehb]);have HMB:Hid (V.heap.size<=p.o.mb):=h_ (by rw[ep];exact m1);have HPF:Hid (∀k,p.F k->Fp b bs bm pv k\/w.heap.size<=k):=h_ (LY ep HJF.out m1 m2 (λk hk=>(m3 k hk).1) (fO HB2.out.size HBV.out.size) HB2.out.size ejb);have HP4:Hid (p.b=b/\p.bs=bs/\p.bm=bm/\p.pv=pv):=h_ (by rw[ep];exact⟨rfl,rfl,rfl,rfl⟩);have hrl:r.length=es.length:=by rw[HR.out,rm]
   rw[<-ehb];have HRE:=h_ hRe;have HRL:=h_ hrl;clear hb3 hh h14 ejb hro m1 m2 m3 hRe HQ CC ehb ep HPJ HROW HOFF HJF;rw[hrl];clear hrl;go_wp2_with fail
   go_loopw [104] (λu wr=> ∃k:Nat,u= .int .i64 (k:Int)/\k<=es.length/\G7 we V wr n p {s0 with aw:=eP (es.take k)} (.slice A r.length tc) r) (λu _=>(es.length:Int).toNat- (RowKit.intOf u).toNat)
   case atStart=>exact⟨0,rfl,gu _,by
     have h:=HRE.out;have e0: {s0 with aw:=eP (es.take 0)}=s0:=by rw[ES0.out];rfl
     rw[e0];exact h⟩
   case round=>
    obtain⟨k,rfl,hk,hri⟩:=hrel;obtain⟨w4,ew4⟩:=x_ wr
    subst ew4;have hel:=HFW.out;rcases pC hk with hkl|hkl
    ·have hki:(k:Int)<(es.length:Int):=by omega
     obtain⟨e0,ee⟩:∃e0,es[k]? =some e0:=⟨_,eH hkl⟩
     obtain⟨g,og,eA,hcell⟩:=JU hri.row HR.out ee;subst eA;have HRI:=h_ hri;have HKL:=h_ hkl;have EE:=h_ ee;obtain⟨o1,o2,o3,o4⟩:=HOK.out e0 (ue ee);obtain⟨tx0,etx⟩:=x_ (aP e0)
     rw[<-etx]at hcell;have hwb:=HWE.out.trans ((HB2.out.trans ((HBV.out.trans (hri.bl.mono HBV.out.size)).mono HB2.out.size)).mono HWE.out.size);have CP:=h_ (za e0 w4 o1 o2 o3 (HT.out.below hwb (aL _)) (HE.out.below hwb (aL _)));have CG:=h_ (λw' (h:Below w4.heap.size w4 w')=>qN p.o {s0 with aw:=eP (es.take k)} e0 tx0 w' (hri.grow h).hc.hr (by rw[ES0.out];exact H3.out) o1 (by omega) (by omega) (HT.out.below (hwb.trans (h.mono hwb.size)) (aL _)));have HGN:Hid (gB s0.aj s0.pubs e0 tx0=true):=h_ (by rw[ES0.out,etx];exact o4);have HTX:Hid (qw tx0):=h_ (by have:=j9 o1;unfold qw maxLen;rw[etx];omega);have ETX:=h_ etx;rw[<-etx]at CP;obtain⟨cs0,ec0⟩:=x_ (aK e0)
     have hc0:cs0.length=7:=by rw[ec0];rfl
     have HI0:=h_ (cE cs0 hc0);have HO0:Hid (∀u∈cs0,u.oneCell'=true):=h_ (by rw[ec0];exact cm e0);have HC0:=h_ hc0;unfold fv at CP;rw[<-ec0]at CP CG;have EC0:=h_ ec0;rw[<-EHB.out]at CG;dsimp only at CG;rw[HGN.out]at CG;clear hk hkl ee hri o1 o2 o3 o4 etx ec0 hc0 hwb;go_wp2_with fail;refine CP.out.mono ?_;rintro e w5 ⟨rfl,hb5⟩;obtain⟨w6,e6⟩:=x_ (w5.alloc (.cells cs0.toArray 42))
     have hb6:Below w4.heap.size w4 w6:=by rw[e6];exact hb5.alloc hb5.size _
     have hbk6:ay w6 w5.heap.size cs0 42:=by rw[e6];exact ay.new w5 _ _
     have HE6:=h_ e6;have HB6:=h_ hb6;have HM6:Hid (∀w',Below w6.heap.size w6 w'->w'.rangeAt w5.heap.size 0 cs0):=h_ λw' h=>rg_of (hbk6.below h hbk6.lt)
     have HM60:=h_ (HM6.out w6 (Below.refl _ _));clear hb5 e6 hb6 hbk6 hcell;go_wp2_with (first
      |(refine aN (.tmp 24) ?_;refine Hk.aD rfl 42 (.tmp 24) (.tmp 111) rfl w5.heap.size cs0.toArray rfl rfl _ 42 rfl (by rw[HI0.out];simp) (by simp[HC0.out]) (all_oneCell_toArray HO0.out) ?_;rw[<-HE6.out];simp only[Pt])
      |(refine aH (.tmp 24) ?_;refine Row.still (Free.wq rfl) (Hk.aU 42 (.tmp 24) rfl w5.heap.size 0 rfl cs0 _ HM60.out Tryz.underlying42 rfl HI0.out) ?_;simp only[Pt]))
     refine(CG.out w6 HB6.out).mono ?_;rintro e w7 ⟨rfl,hb7⟩;have HR7:=h_ (HRI.out.grow (HB6.out.trans (hb7.mono HB6.out.size)));have HM7:Hid (∀w',Below w7.heap.size w7 w'->w'.rangeAt w5.heap.size 0 cs0):=h_ λw' h=>HM6.out w' (hb7.trans (h.mono hb7.size))
     have c8:=HR7.out.hc.hr.bg.ag 8 _ rfl;rw[<-EHB.out]at c8;have HQ8:Hid (∀w',Below w7.heap.size w7 w'->w'.cell? ⟨hbk,8,none⟩=some (.map (some p.o.mb))):=h_ λw' h=>aO c8 h
     clear hb7 c8;go_wp2_with fail;refine Free.ai 6 [] (λy=>Below w7.heap.size w7 y) (by kernel_rfl) (by kernel_rfl) (Free.aW (λj mk r hf=>by cases hf)) (Below.refl _ _).drew (λ_ _ h g=>h.trans (Below.mono g h.size)) ?_;simp only[eJ,dT];iterate 6 (first|(apply Free.ae (Free.wq rfl) rfl;(intro w' hB hA;exact Hk.aU 42 (.tmp 24) rfl w5.heap.size 0 rfl cs0 _ (HM7.out w' hB) Tryz.underlying42 rfl HI0.out);simp only[Pt])|(apply Free.ae (Free.wq rfl) rfl;(intro w' hB hA;have q8:=HQ8.out w' hB;clear hA hB;go_light;go_simp<;>rfl);(try simp only[Pt])))
     apply Free.ax;intro wz hzb _ _;simp only[fm,fo];have hR8:=HR7.out.grow hzb;obtain⟨w9,hr9,hm9,hg9,z9⟩:=hR8.hc.hr.mp.store kH Tryz.underlying102 HTX.out e0;have k9:aJ (λk=>k=p.o.mb) wz w9:=(aJ.refl (λk=>k=p.o.mb) wz).grown hg9 (λk e _=>by injection e with e;exact e.symm);have G:Hid (G7 we V w9 n p {s0 with aw:=eP (es.take (k+1))} (.slice (some ⟨g,og,none⟩) r.length tc) r):=h_ (by
      have h:=hR8.DK HMB.out hm9 k9;dsimp only at h;rw[ETX.out,Aw HND.out EE.out]at h;exact h)
     have hr4:(Instr.mapUpdate 102 (.map (some p.o.mb)) (.string tx0) (.agg cs0.toArray)).run Tryz.prog wz= .ok () w9:=by rw[EC0.out];exact hr9
     clear hR8 hr9 hm9 hg9 z9 k9 hzb HQ8;go_wp2_with fail
     go_roundw
     case rel=>
      have key:∃k':Nat,(Value.int .i64 ((k:Int)+1))= .int .i64 (k':Int)/\k'<=es.length/\G7 we V w9 n p {s0 with aw:=eP (es.take k')} (.slice (some ⟨g,og,none⟩) r.length tc) r:=⟨k+1,rfl,HKL.out,G.out⟩
      first
       |exact key
       |((repeat apply Exists.intro);exact⟨key,rfl⟩)
     case measure=>have:=HKL.out;simp[RowKit.intOf];omega
    ·have hki: ¬(k:Int)<(es.length:Int):=by omega
     have HF:Hid (R (.returned (.tuple #[.pointer (some ⟨hbk,0,none⟩), .int .i64 0])) w4):=h_ (by
      have h:=hri.hc;rw[np (by omega),ES0.out]at h;rw[EHB.out];exact FY.out w4 p HOB.out (HB2.out.trans ((HBV.out.trans (hri.bl.mono HBV.out.size)).mono HB2.out.size)) HP4.out.1 HP4.out.2.1 HP4.out.2.2.1 HP4.out.2.2.2 HPF.out h)
     clear FY hri hk hkl;go_wp2_with fail;(try go_ret);exact HF.out
end Go.Proofs.YtkmbmfengcdmoaaGreatDoor
namespace Go.Proofs.YtkmbmfengcdmoaaGreatDoor
open Go.RowKit Go.ay Go.Jn Go.Dk Go.Ho Go.Opn Go.Maps Go.WideMaps Go.Apl Go.Mg Go.Rf Go.Lib
structure OI (W:World) (u:Value) (l:List Int) (w:World):Prop where
 own:w.ownsRow W.heap.size 3 1 u l.length (l.flatMap Cs.encI)
 below:Below W.heap.size W w
theorem OI.nil(W:World):OI W (.slice none 0 0) [] W:=⟨World.ownsRow_nil _ _ _ _,Below.refl _ _⟩
theorem OI.grow{W w w':World}{u:Value}{l:List Int}(h:OI W u l w)(hb:Below w.heap.size w w'):OI W u l w':=
 ⟨bC h.own (λk e=>hb.block k (World.ownsRow.lt h.own k e).2),h.below.trans (hb.mono h.below.size)⟩
theorem Ml(x:Int)(w:World):(Instr.buildSlice 22 1 #[(0, .int .i64 x)]).run Tryz.prog w= .ok (.slice (some ⟨w.heap.size,0,none⟩) 1 1) (w.alloc (.cells #[.int .i64 x] 3)):=by kernel_rfl
theorem KX{W w:World}{u:Value}{l:List Int}{x:Int}(h:OI W u l w)(hn:(l.length+1)*8<=140737488355328)(s y:Operand)(Q:Exit->Act->World->Prop)(ops:Array Oper)(rest:List Oper)(o:Oper)(a:Act)(hgd:o.guard=none)
  (ho:o.op= .call {callee:= .builtin .append,args:= #[s,y],argTypes:= #[22,22]}) (hs:a.eval s=u) (hx:a.eval y= .slice (some ⟨w.heap.size,0,none⟩) 1 1)
  (hk:∀u' w',Hid (OI W u' (l++ [x]) w'/\(w.alloc (.cells #[.int .i64 x] 3)).grownBy w' u.ownBlock)->wpList Tryz.prog ops Q rest (a.put o.dst u') w'):wpList Tryz.prog ops Q (o::rest) a (w.alloc (.cells #[.int .i64 x] 3)):=by
 obtain⟨i,hi,hz0,hz1,hz2⟩:=Ns;have hb:Below w.heap.size w (w.alloc (.cells #[.int .i64 x] 3)):=(Below.refl _ _).alloc (aL _) _;have h1:=h.grow hb;have hsl:SL (w.alloc (.cells #[.int .i64 x] 3)) 1 Cs.encI (some ⟨w.heap.size,0,none⟩) [x]:=mO (T:=3) (ay.new w [.int .i64 x] 3);have hsz:=h1.below.size;refine dF hgd s y 22 ho W.heap.size 3 i _ 8 Tryz.underlying22 hi hz0 hz1 hz2 rfl (by decide) (λ_=>rfl) (λx v hv=>by simp[Cs.encI]at hv;subst hv;rfl) u l.length _ hs h1.own (some ⟨w.heap.size,0,none⟩) 1 [x] hx hsl (by show l.length+1<=_;unfold maxLen;omega) (by show(l.length+1)*8<=_;omega) hsz ?_;intro u' w9 h9 hg9 _;refine hk u' w9 (h_ ⟨⟨by rw[fu,DU];exact h9,h1.below.trans ⟨hg9.os,hg9.tape,hg9.output,hg9.size,λj hj=>hg9.block j (by omega) (λe=>by have:=(World.ownsRow.lt h1.own j e.symm).1;omega)⟩⟩,hg9⟩)
end Go.Proofs.YtkmbmfengcdmoaaGreatDoor
namespace Go.Jn
open Go Go.Dk
structure TD (n:Nat) (s:JS) (m:Nat):Prop where
 ok:s.d.Ok n
 on:s.d.on=true
 aF:s.d.aF= []
 arm:s.d.bH=false
 brk:s.broken=false
 found:Found n s.d.st s.v s.a s.bW
 num:s.v.1<=m
structure mU (n:Nat) (s:JS) (m:Nat):Prop where
 ok:s.d.Ok n
 on:s.d.on=true
 aF:s.d.aF= []
 brk:s.broken=false
 found:Found n s.d.st s.v s.a s.bW
 OH:nr n s.d.st s.v s.a
 num:s.v.1<=m
structure Nf (n:Nat) (s:JS) (m:Nat) (r1 r2:List (List UInt8)):Prop where
 ok:s.d.Ok n
 off:s.d.on=false
 aF:s.d.aF= []
 brk:s.broken=true
 back:∃v a r,Found n s.d.st v a r/\nr n s.d.st v a/\v.1<=m/\(r=r1\/r=r2)
theorem mU.new{n:Nat}(hn:4<=n)(h2:n<=4000):mU n ⟨DD.new n,(0,0,0),0,[],false⟩ 0:=⟨DD.Ok.new (by omega) h2,rfl,rfl,rfl,(qm hn).1,(qm hn).2,aL _⟩
theorem mU.len{n:Nat}{s:JS}{m:Nat}(h:mU n s m):s.v.2.2=dG s.bW/\∀b∈s.bW,b.length<=2000:=uX h.ok.len h.found
theorem Oe{n:Nat}{d:DD}(h:d.Ok n){x y z:Int}(hx0: -9223372036854775808<=x)(hx1:x<=9223372036854775807)(hy0: -9223372036854775808<=y)(hy1:y<=9223372036854775807)(hz0: -9223372036854775808<=z)(hz1:z<=9223372036854775807):(d.arm x y z).Ok n:=by
 unfold DD.arm;split
 ·exact⟨h.len,h.sec,h.jX,hx0,hx1,hy0,hy1,hz0,hz1,h.n1,h.n2⟩
 ·exact h
theorem mU.arm{n:Nat}{s:JS}{m:Nat}(h:mU n s m){x y z:Int}(hx0: -9223372036854775808<=x)(hx1:x<=9223372036854775807)(hy0: -9223372036854775808<=y)(hy1:y<=9223372036854775807)(hz0: -9223372036854775808<=z)(hz1:z<=9223372036854775807):mU n {s with d:=s.d.arm x y z} m:=by
 have h0:=Oe h.ok hx0 hx1 hy0 hy1 hz0 hz1;have e:s.d.arm x y z= {s.d with bH:=decide (0<=x),after:=x,writes:=y,bytes:=z}:=by unfold DD.arm;rw[if_pos h.on]
 exact⟨h0,by rw[e];exact h.on,by rw[e];exact h.aF,h.brk,by rw[e];exact h.found,by rw[e];exact h.OH,h.num⟩
theorem mU.append{n:Nat}{s:JS}{m:Nat}(hn:4<=n)(h:mU n s m)(hm:m<999999999)(b:List UInt8):
  (2000<b.length/\s.append n b=(s,3))\/(b.length<=2000/\32*((n-2) / 2)<dG (s.bW++ [b])/\s.append n b=(s,19))\/
   ((s.append n b).2=0/\mU n (s.append n b).1 (m+1)/\(s.append n b).1.bW=s.bW++ [b]/\(s.append n b).1.d.bH=s.d.bH)\/
   ((s.append n b).2=21/\s.d.bH=true/\Nf n (s.append n b).1 (m+1) s.bW (s.bW++ [b])):=by
 have hbr:=h.brk;have hl:=h.len.1;have hnum:=h.num;have hro:dG (s.bW++ [b])=s.v.2.2+(4+b.length):=by rw[kR,hl];show _+(4+b.length+0)=_;omega
 by_cases hb:2000<b.length
 ·exact .inl ⟨hb,by unfold JS.append;rw[if_neg (by rw[hbr];decide),if_pos hb]⟩
 ·by_cases hr:32*((n-2) / 2)<s.v.2.2+(4+b.length)
  ·exact .inr (.inl ⟨by omega,by rw[hro];exact hr,by unfold JS.append;rw[if_neg (by rw[hbr];decide),if_neg hb,if_pos (.inl hr)]⟩)
  ·have sp:=xT (b:=b) h.ok h.on h.aF hn h.found (by omega) (by omega) (by omega);have e:s.append n b=if(cy n s.a s.v.1 s.v.2.1 s.v.2.2 (bR b) s.d).2=0 then
     ({d:=(cy n s.a s.v.1 s.v.2.1 s.v.2.2 (bR b) s.d).1,v:=(s.v.1+1,s.v.2.1,s.v.2.2+(bR b).length),a:=1-s.a,bW:=s.bW++ [b],broken:=false},0)
     else({s with d:=(cy n s.a s.v.1 s.v.2.1 s.v.2.2 (bR b) s.d).1,broken:=true},(cy n s.a s.v.1 s.v.2.1 s.v.2.2 (bR b) s.d).2):=by
    unfold JS.append;rw[if_neg (by rw[hbr];decide),if_neg hb,if_neg (by omega)]
   obtain⟨r1,⟨r2,r3,r4,r5,r6,r7⟩|⟨r2,r3,r4,r5,r6⟩⟩:=sp
   ·rw[if_pos r2]at e;rw[e];exact .inr (.inr (.inl ⟨rfl,⟨r1,r3,r4,rfl,r6,r7,by show s.v.1+1<=m+1;omega⟩,rfl,r5⟩))
   ·rw[r2,if_neg (show ¬((21:Int)=0) by decide)]at e;rw[e];refine .inr (.inr (.inr ⟨rfl,r3,⟨r1,r4,r5,rfl, ?_⟩⟩));rcases r6 h.OH with⟨f1,f2⟩|⟨f1,f2⟩
    ·exact⟨_,_,_,f1,f2,by omega, .inl rfl⟩
    ·exact⟨_,_,_,f1,f2,by show s.v.1+1<=m+1;omega, .inr rfl⟩
theorem AB{n:Nat}{d:DD}(x y:Int)(h:d.Ok n)(hp:d.aF= []):((d.fail x y).start).Ok n/\((d.fail x y).start).on=true/\((d.fail x y).start).aF= []/\((d.fail x y).start).bH=false/\((d.fail x y).start).st=d.st:=by
 refine⟨(h.fail x y).start,rfl, ?_,rfl, ?_⟩
 ·unfold DD.fail DD.start;split
  ·rfl
  ·exact hp
 ·unfold DD.fail DD.start;split
  ·show settled d.st d.aF _ _=d.st;rw[hp];rfl
  ·rfl
theorem EI{n:Nat}{d:DD}{v:Nat×Nat×Nat}{a m:Nat}{r:List (List UInt8)}(x y:Int)(hn:4<=n)(hok:d.Ok n)(hp:d.aF= [])(hf:Found n d.st v a r)(hfi:nr n d.st v a)(hm:v.1<=m):
  dR n (d.fail x y).start=(0,some (v,a,r))/\mU n ⟨(d.fail x y).start,v,a,r,false⟩ m/\((d.fail x y).start).bH=false:=by
 obtain⟨h0,h1,h2,h3,h4⟩:=AB x y hok hp;rw[<-h4]at hf hfi;exact⟨th h1 hn (by rw[Lx h2];exact hf),⟨h0,h1,h2,rfl,hf,hfi,hm⟩,h3⟩
theorem mU.back{n:Nat}{s:JS}{m:Nat}(hn:4<=n)(h:mU n s m)(x y:Int):dR n (s.d.fail x y).start=(0,some (s.v,s.a,s.bW))/\mU n ⟨(s.d.fail x y).start,s.v,s.a,s.bW,false⟩ m/\((s.d.fail x y).start).bH=false:=
 EI x y hn h.ok h.aF h.found h.OH h.num
end Go.Jn
namespace Go.Proofs.YtkmbmfengcdmoaaGreatDoor
open Go.RowKit Go.ay Go.Jn Go.Dk Go.Ho
structure EN (aw:dv):Prop where
 e:Nc aw
 nd:(aw.map (·.1)).Nodup
structure Own (s:HS) (j:Int) (l:List aV):Prop where
 perm:(j6 s.aw j).Perm (l.map aP)
 ch:(iA l j (s.pubs.getD j.toNat 0)).1=0
theorem Mi{aw:dv}{j:Int}{t:ByteArray}(h:t∈j6 aw j):∃x,(t,x)∈aw/\x.house=j:=by unfold j6 at h;obtain⟨p,hp,rfl⟩:=nS.1 h;obtain⟨h1,h2⟩:=PY.1 hp;exact⟨p.2,h1,by simpa using h2⟩
theorem EN.get{aw:dv}(h:EN aw){x:aV}(hx:(aP x,x)∈aw):fP aw (aP x)=x:=by unfold fP;rw[Mk.get_some h.nd hx];rfl
theorem EN.mem{aw:dv}(h:EN aw){x:aV}{t:ByteArray}(hx:(t,x)∈aw):t=aP x:=h.e.eq _ hx
theorem EN.has{aw:dv}(h:EN aw){x:aV}{j:Int}(hx:aP x∈j6 aw j):(aP x,x)∈aw/\x.house=j:=by obtain⟨y,h1,h2⟩:=Mi hx;have e:=kQ (h.mem h1);subst e;exact⟨h1,h2⟩
theorem Gk{aw:dv}(hn:EN aw){j:Int}{l:List aV}(hp:(j6 aw j).Perm (l.map aP))(hs:∀(i:Nat) x,l[i]? =some x->x.seq=(i:Int)):bJ aw j=l:=by
 have hm:∀x∈l,fP aw (aP x)=x:=λx hx=>hn.get (hn.has (hp.mem_iff.2 (nS.2 ⟨x,hx,rfl⟩))).1
 have h1:nO aw j=l.map aP:=by
  unfold nO;refine tL ((dY _ _).trans hp) (mq _ _) ?_;unfold z7;rw[List.pairwise_map,List.pairwise_iff_getElem];intro a b ha hb hab;have e1:=hs a _ (eH ha);have e2:=hs b _ (eH hb);have f1:nL aw (aP l[a])=(a:Int):=by unfold nL;rw[hm _ (KM ha)];exact e1
  have f2:nL aw (aP l[b])=(b:Int):=by unfold nL;rw[hm _ (KM hb)];exact e2
  rintro(q|q)
  ·rw[f1,f2]at q;omega
  ·have:=q.1;rw[f1,f2]at this;omega
 unfold bJ;rw[h1,PS];exact(List.map_congr_left (λx hx=>by exact hm x hx)).trans (List.map_id l)
theorem uO{l:List aV}(hs:∀(i:Nat) x,l[i]? =some x->x.seq=(i:Int)):∀k n,n+k=l.length->jD l k n=l.length
 |0,n,h=>by rw[jD];omega
 |k+1,n,h=>by
  have hn:n<l.length:=by omega
  have hc:Hw l n:=by
   refine⟨hn, ?_, ?_⟩
   ·rw[eH hn];exact congrArg some (hs n _ (eH hn))
   ·by_cases e:n+1=l.length
    ·exact .inl e
    ·right;have h1:n+1<l.length:=by omega
     rw[eH h1];intro q;have q':(l[n+1]).seq=(n:Int):=by injection q
     have:=hs (n+1) _ (eH h1);omega
  rw[uP hc];exact uO hs k (n+1) (by omega)
theorem uN{l:List aV}{house pub:Int}:∀(n k:Nat),(gi l house pub n k).1=0->gi l house pub n k=(0, -1)
 |0,_,_=>rfl
 |n+1,k,h=>by
  rw[gi]at h⊢;split
  ·rfl
  ·rename_i e he;rw[he]at h;simp only at h;by_cases h0:iD l k e house pub=0
   ·rw[if_pos h0]at h⊢;exact uN n (k+1) h
   ·rw[if_neg h0]at h;dsimp only at h;exact absurd h h0
theorem Lh{l:List aV}{house pub:Int}(h:(iA l house pub).1=0):iA l house pub=(0, -1):=by
 unfold iA at h⊢;split
 ·rename_i hk;rw[if_pos hk]at h;exact uN _ _ h
 ·rename_i hk;rw[if_neg hk]at h;cases h
theorem Ap{l:List aV}{j pub:Int}(h:(iA l j pub).1=0):fA l j pub=l:=by
 have hs:∀(i:Nat) x,l[i]? =some x->x.seq=(i:Int):=λi x hx=>(sj h i x hx).2.1
 have e1:pV l=l.length:=uO hs _ 0 (by omega);have e2:Ej l j pub=l.length:=by unfold Ej;rw[e1,KK,Lh h,if_neg (show ¬((-1:Int)≥0) by decide)]
 unfold fA;rw[e2,KK]
theorem Own.sorted{s:HS}{j:Int}{l:List aV}(h:Own s j l)(hn:EN s.aw):bJ s.aw j=l:=Gk hn h.perm λi x hx=>(sj h.ch i x hx).2.1
theorem Own.ou{s:HS}{j:Int}{l:List aV}(h:Own s j l)(hn:EN s.aw):bE s j=l:=by unfold bE;rw[h.sorted hn];exact Ap h.ch
theorem Own.fork{s:HS}{l:List aV}(h:Own s s.me l)(hn:EN s.aw):gR s=false:=by unfold gR;rw[h.ou hn,h.sorted hn];simp
theorem EN.put{aw:dv}(h:EN aw){e:aV}(hne:∀p∈aw,p.1≠aP e)(ho:e.Ok)(hp:e.prev.size<=1000000000)(hb:e.body.size<=1000000000)(hf:aw.length<1000000):EN (aw++ [(aP e,e)]):=by
 refine⟨⟨λp hp'=> ?_,λp hp'=> ?_,by rw[fu,DT];omega⟩, ?_⟩
 ·rcases zT.1 hp' with q|q
  ·exact h.e.eq p q
  ·rw[vU]at q;subst q;rfl
 ·rcases zT.1 hp' with q|q
  ·exact h.e.ok p q
  ·rw[vU]at q;subst q;exact⟨ho,hp,hb⟩
 ·rw[uE,List.nodup_append];refine⟨h.nd,by simp,λa ha b hb'=> ?_⟩;simp only[xJ,NP,vU]at hb';subst hb';obtain⟨p,hp',rfl⟩:=nS.1 ha;exact hne p hp'
structure GH (n:Nat) (s:HS) (m:Nat):Prop where
 run:s.run=true
 j:mU n s.js m
 bW:s.js.bW=s.aw.map λp=>p.1.data.toList
 en:EN s.aw
 gen:∀p∈s.aw,gB s.aj s.pubs p.2 p.1=true
 inv:lv s
 jX:s.aw.length<=m
structure DH (n:Nat) (s:HS) (m:Nat) (e:aV) (s':HS):Prop where
 eq:s'= {s with js:=s'.js,run:=false}
 dead:Nf n s'.js (m+1) (s.aw.map λp=>p.1.data.toList) ((s.aw++ [(aP e,e)]).map λp=>p.1.data.toList)
 arm:s.js.d.bH=true
 new:∀p∈s.aw,p.1≠aP e
 gen:gB s.aj s.pubs e (aP e)=true
structure dA (n:Nat) (s:HS) (m:Nat) (e:aV) (s':HS):Prop where
 gh:GH n s' (m+1)
 eq:s'= {s with js:=s'.js,aw:=s.aw++ [(aP e,e)]}
 arm:s'.js.d.bH=s.js.d.bH
 new:∀p∈s.aw,p.1≠aP e
 gen:gB s.aj s.pubs e (aP e)=true
theorem dB{aj:Int}{pubs:List Int}{e:aV}{t:ByteArray}(h:gB aj pubs e t=true):dj aj e=true/\t.size<=2000/\nM e (pubs.getD e.house.toNat 0)=true:=by unfold gB at h;simp only[ua,uD]at h;exact⟨h.1,by omega,h.2.2⟩
theorem Bj{aj:Int}{e:aV}(h:dj aj e=true):0<=e.house/\e.house<aj/\0<=e.seq/\e.seq<4000/\0<=e.day/\e.day<=2000:=by unfold dj at h;simpa only[ua,uD]using h
theorem Bm(l:List (List UInt8))(b:List UInt8):dG (l++ [b])=dG l+4+b.length:=by rw[kR];show _+(4+b.length+0)=_;omega
theorem A9{aw:dv}{t:ByteArray}(h:(Mk.get aw t).isSome=false):∀p∈aw,p.1≠t:=Mk.wE.1 (by cases hg:Mk.get aw t with|none=>rfl|some _=>rw[hg]at h;cases h)
theorem jP(b:ByteArray):b.data.toList.length=b.size:=by simp
theorem GH.store{n:Nat}{s:HS}{m:Nat}(h:GH n s m)(hn:4<=n)(hm:m<900000){e:aV}(hne:∀p∈s.aw,p.1≠aP e)(hg:gB s.aj s.pubs e (aP e)=true)(ho:e.Ok)(hp:e.prev.size<=1000000000)(hb:e.body.size<=1000000000):
  (s.store n e (aP e)=(s,19)/\32*((n-2) / 2)<dG s.js.bW+4+(aP e).size)\/
   ((s.store n e (aP e)).2=0/\dA n s m e (s.store n e (aP e)).1)\/((s.store n e (aP e)).2=21/\DH n s m e (s.store n e (aP e)).1):=by
 have hsz:=(dB hg).2.1;have hfew:=h.jX;have hrc:s.js.bW++ [(aP e).data.toList]=(s.aw++ [(aP e,e)]).map λp=>p.1.data.toList:=by rw[h.bW,uE];rfl
 rcases h.j.append hn (by omega) (aP e).data.toList with⟨q,_⟩|⟨q1,q2,q3⟩|⟨q3,q4,q5,q6⟩|⟨q3,q4,q5⟩
 ·rw[jP]at q;omega
 ·left;rw[Bm,jP]at q2;refine⟨?_,q2⟩;unfold HS.store;rw[q3];rfl
 ·right;left;have e1:s.store n e (aP e)=({s with js:=(s.js.append n (aP e).data.toList).1,aw:=s.aw++ [(aP e,e)]},0):=by unfold HS.store;rw[if_pos q3,Mk.mf hne]
  rw[e1];have hen:=h.en.put hne ho hp hb (by omega);refine⟨rfl,⟨h.run,q4, ?_,hen, ?_,⟨hen.e,h.inv.KH,h.inv.me,h.inv.pn,h.inv.KI⟩, ?_⟩,rfl,q6,hne,hg⟩
  ·show(s.js.append n (aP e).data.toList).1.bW=_;rw[q5,hrc]
  ·intro p hp';rcases zT.1 hp' with q|q
   ·exact h.gen p q
   ·rw[vU]at q;subst q;exact hg
  ·show(s.aw++ [(aP e,e)]).length<=_;rw[fu,DT];omega
 ·right;right;have e1:s.store n e (aP e)=({s with js:=(s.js.append n (aP e).data.toList).1,run:=false},21):=by unfold HS.store;rw[if_neg (by rw[q3];decide),if_neg (by rw[q3];decide)]
  rw[e1];refine⟨rfl,rfl, ?_,q4,hne,hg⟩;rw[hrc,h.bW]at q5;exact q5
end Go.Proofs.YtkmbmfengcdmoaaGreatDoor
