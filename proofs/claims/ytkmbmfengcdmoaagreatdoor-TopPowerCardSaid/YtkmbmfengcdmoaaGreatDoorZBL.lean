/- A sound journal whose disk may be armed; a failure of the power; plain. No condition. -/
import Derived.Test.YtkmbmfengcdmoaaGreatDoorZBK
import Derived.Test.YtkmbmfengcdmoaaGreatDoorZBI
import Derived.Test.YtkmbmfengcdmoaaGreatDoorZAV
import Derived.Test.YtkmbmfengcdmoaaGreatDoorZAU
set_option maxRecDepth 100000
set_option linter.all false
namespace Go.Proofs.YtkmbmfengcdmoaaGreatDoor
open Go.RowKit Go.W32 Go.ay Go.Cs Go.Jn Go.Dk Go.Ho Go.Opn Go.Maps Go.WideMaps Go.Apl Go.Mg Go.Rf Go.Lib Go.Cv

theorem tf{c:cZ}{own secret:Int}{bF:List Int}(h:oO c own secret bF=true):jo c.iU=0/\0<=own/\own<c.aj/\(bF.length:Int)=c.aj/\bF.all iW=true/\lA secret=0/\cQ secret=bF.getD own.toNat 0:=by unfold oO at h;simpa only[ua,uD]using h
theorem jO{c:cZ}{own secret:Int}{bF:List Int}(h: ¬(jo c.iU=0/\0<=own/\own<c.aj/\(bF.length:Int)=c.aj/\bF.all iW=true/\lA secret=0/\cQ secret=bF.getD own.toNat 0)):oO c own secret bF=false:=by
 cases hq:oO c own secret bF with
 |false=>rfl
 |true=>exact absurd (tf hq) h
theorem wR{c:cZ}{own secret:Int}{bF:List Int}(h:jo c.iU=0/\0<=own/\own<c.aj/\(bF.length:Int)=c.aj/\bF.all iW=true/\lA secret=0/\cQ secret=bF.getD own.toNat 0):oO c own secret bF=true:=by unfold oO;simpa only[ua,uD]using h
theorem Re{K:List (Nat×Free.gN)}{V:World}{f:HS}{jb n:Nat}{g:List Value}(d:K= [(10, .ind (oK n) (λx w=>w.ownsRow V.heap.size 3 1 (oK n x) n g)),(12, .ind (λx=> .map (some x)) (λx w=>Mk.bL w Value.string qw fv x []/\V.heap.size<=x)),(14, .ind (λx=> .pointer (some ⟨x,0,none⟩)) (Made V f jb))]):Free.dm K:=by
 subst d;intro j h r a y i l b c;simp only[Free.find]at a
 repeat' split at a
 ·cases a;exact bC b (λk e=>c.block k (World.ownsRow.lt b k e).2)
 ·cases a;exact⟨b.1.bD (c.block _ b.1.lt),b.2⟩
 ·cases a;exact b.grow c
 ·cases a
set_option maxHeartbeats 4000000 in
theorem uY{O w:World}{b bs bm n:Nat}{pv:Value}{d:DD}{c:cZ}{own secret:Int}{pA:Option Addr}{pc:Nat}{bF:List Int}{v:Nat×Nat×Nat}{a:Nat}{r:List (List UInt8)}(es:List aV)
  (hT:cB O) (hE:gK O) (hb:Below O.heap.size O w) (hd:aI w b bs bm pv d n) (hf:∀k,Fp b bs bm pv k->O.heap.size<=k) (ho:dR n d=(0,some (v,a,r))) (hr:r=es.map λe=>(aP e).data.toList)
  (hc:dV w c) (hz:lk c) (hp:SL w 1 Cs.encI pA bF) (An:bF.length<=4611686018427387903)
  (ww:∀e∈es,e.Ok/\e.prev.size<=1000000/\e.body.size<=1000000/\gB c.aj bF e (aP e)=true) (wn:(es.map aP).Nodup) (gc:es.length<=1000000):
  Calls Tryz.prog 20 #[.agg (cD c).toArray, .int .i64 own, .int .i64 secret, .slice pA bF.length pc, .pointer (some ⟨b,0,none⟩)] w (GU O w b bs bm n pv c own secret bF ⟨d,v,a,r,false⟩ es):=by
 obtain⟨R,eR⟩:=x_ (GU O w b bs bm n pv c own secret bF ⟨d,v,a,r,false⟩ es)
 rw[<-eR];have z:Hid (∀w',oO c own secret bF=false->Below w.heap.size w w'->R (.returned (.tuple #[.pointer none, .int .i64 1])) w'):=h_ λw' h m=>by rw[eR];exact⟨m, .inl ⟨h,rfl⟩⟩
 have Q:Hid (∀w' (p:Pl),oO c own secret bF=true->Below w.heap.size w w'->p.b=b->p.bs=bs->p.bm=bm->p.pv=pv->(∀k,p.F k->Fp b bs bm pv k\/w.heap.size<=k)->HC O w' n p ⟨c.aj,c.bQ.length,c.days,own,secret,bF,⟨d,v,a,r,false⟩,true,eP es⟩->R (.returned (.tuple #[.pointer (some ⟨p.o.hb,0,none⟩), .int .i64 0])) w'):=h_ λw' p h m E h2 X h4 h5 h6=>by
  rw[eR];exact⟨m, .inr ⟨h,p,E,h2,X,h4,h5,rfl,h6⟩⟩
 clear eR;obtain⟨W1,cs,L⟩:=uh w c;have If:=hb.size;have HK:Hid (∀w',Below W1.heap.size W1 w'->jK w' w.heap.size c/\w'.rangeAt w.heap.size 0 cs/\SL w' 1 Cs.encI pA bF):=h_ λw' m=>⟨jK.of (T:=27) (by rw[<-L.cs];exact L.row.below m L.row.lt),(L.row.below m L.row.lt).rg,hp.below (L.below.trans (m.mono L.below.size)) (aL _)⟩
 have E1:=h_ L.e;have m9:=h_ L.below;have HI:=h_ (ig cs (by rw[L.cs];rfl));have CV:=h_ (zP c W1 (hc.below L.below (aL _)) hz);have CJ:Hid (∀w',Below w.heap.size w w'->Calls Tryz.prog 65 #[.pointer (some ⟨b,0,none⟩)] w' _):=h_ λw' m=>Fg hT (hb.trans (m.mono hb.size)) (hd.below m) hf ho
 have ro:=h_ hb;have HT:=h_ hT;have HE:=h_ hE;have pm:=h_ An;have Gb:=h_ ww;have Fs:=h_ wn;have HR:=h_ hr;have Fd:=h_ gc;rw[<-L.cs]at CV⊢;have pi:=h_ (HK.out W1 (Below.refl _ _)).2.1;unfold Aa at CV;have Iq:Hid (dV w c):=h_ hc;clear L hT hE hb hd hf ho hr hc hz hp An ww wn gc If;obtain⟨EC,ci⟩:=x_ (jo c.iU)
 rw[<-ci]at CV;have rx:=Ay c.iU;rw[<-ci]at rx;have P:=h_ ci;clear ci;go_enter Tryz.func20,Tryz.ntmps20;go_wp2_with (first
  |(simp only[E1.out])
  |(refine aH (.tmp 5) ?_;refine wpList_load_mid rfl 27 (.tmp 5) rfl w.heap.size 0 rfl cs _ pi.out Tryz.underlying27 rfl HI.out ?_))
 refine CV.out.mono ?_;rintro e w2 ⟨⟨i0,rfl⟩,I⟩;have l:=h_ (m9.out.trans (I.mono m9.out.size));obtain⟨⟨q0,_,_,q3,_,q5,_⟩,_,m6⟩:=HK.out w2 I;have no:Hid (∀w',Below w2.heap.size w2 w'->jK w' w.heap.size c/\SL w' 1 Cs.encI pA bF):=h_ λw' m=>⟨(HK.out w' (I.trans (m.mono I.size))).1,(HK.out w' (I.trans (m.mono I.size))).2.2⟩
 clear I CV pi q3 q5 HK;rcases rx with rfl|rfl|rfl;rotate_left
 ·have B:=h_ (z.out w2 (jO (λh=>by have:=P.out;omega)) l.out);clear z Q;go_wp2_with fail;(try go_ret);exact B.out
 ·have B:=h_ (z.out w2 (jO (λh=>by have:=P.out;omega)) l.out);clear z Q;go_wp2_with fail;(try go_ret);exact B.out
 by_cases E:own<0
 ·have t1:decide (own<0)=true:=dt E;have B:=h_ (z.out w2 (jO (λh=>by omega)) l.out);clear z Q E;go_wp2_with fail;(try go_ret);exact B.out
 have t1:decide (own<0)=false:=dy E;by_cases h2:c.aj<=own
 ·have t2:decide (c.aj<=own)=true:=dt h2;have B:=h_ (z.out w2 (jO (λh=>by omega)) l.out);clear z Q E h2;go_wp2_with fail;(try go_ret);exact B.out
 have t2:decide (c.aj<=own)=false:=dy h2;by_cases X:(bF.length:Int)=c.aj;rotate_left
 ·have t3:((bF.length:Int) !=c.aj)=true:=by simpa using X
  have B:=h_ (z.out w2 (jO (λh=>X h.2.2.2.1)) l.out);clear z Q E h2 X;go_wp2_with fail;(try go_ret);exact B.out
 have t3:((bF.length:Int) !=c.aj)=false:=by simpa using X
 obtain⟨j,rfl⟩:∃j:Nat,own=(j:Int):=⟨own.toNat,by omega⟩
 have hj:j<bF.length:=by omega
 have H1:=h_ (show(0:Int)<=(j:Int)/\(j:Int)<c.aj by omega);have H3:=h_ X;have HJ:=h_ hj;obtain⟨ba,oa,ea⟩:=cG m6 (by intro e;rw[e]at hj;simp at hj);subst ea;have qr:=h_ m6;clear E h2 X hj m6;go_wp2_with fail;clear t1 t2 t3 q0
 go_loopw [52] (λu wr=> ∃k:Nat,u= .int .i64 (k:Int)/\k<=bF.length/\wr=w2/\Hid ((bF.take k).all iW=true)) (λu _=>(bF.length:Int).toNat- (RowKit.intOf u).toNat)
 case atStart=>exact⟨0,rfl,gu _,rfl,h_ rfl⟩
 case round=>
  obtain⟨k,rfl,hk,rfl,ip⟩:=hrel;rcases pC hk with t|t
  ·have d8:(k:Int)<(bF.length:Int):=by omega
   obtain⟨x,ex⟩:∃x,bF[k]? =some x:=⟨_,eH t⟩
   have q1:=fi qr.out ex;have EX:=h_ ex;have U:=h_ t;have Gs:=pm.out;clear ex hk t;by_cases N:x<1
   ·have t1:decide (x<1)=true:=dt N;have B:=h_ (z.out wr (jO (λh=>by
     have:=uH EX.out (by unfold iW;rw[dy (show ¬1<=x by omega)];rfl);rw[this]at h;cases h.2.2.2.2.1)) l.out)
    clear z Q N;go_wp2_with fail;(try go_ret);exact B.out
   have t1:decide (x<1)=false:=dy N;by_cases g2:2147483646<x
   ·have t2:decide ((2147483646:Int)<x)=true:=dt g2;have B:=h_ (z.out wr (jO (λh=>by
     have:=uH EX.out (by unfold iW;rw[dy (show ¬x<=2147483646 by omega)];simp);rw[this]at h;cases h.2.2.2.2.1)) l.out)
    clear z Q N g2;go_wp2_with fail;(try go_ret);exact B.out
   have t2:decide ((2147483646:Int)<x)=false:=dy g2;have HM:=h_ (DZ EX.out ip.out (by unfold iW;rw[dt (show 1<=x by omega),dt (show x<=2147483646 by omega)];rfl));clear N g2;go_wp2_with fail
   go_roundw
   case rel=>exact⟨k+1,rfl,U.out,(by first|rfl|trivial),HM⟩
   case measure=>have:=U.out;simp[RowKit.intOf];omega
  ·have d8: ¬(k:Int)<(bF.length:Int):=by omega
   have m8:Hid (bF.all iW=true):=h_ (by have h:=ip.out;rw[np (by omega)]at h;exact h);clear ip hk t;go_wp2_with fail;refine(rQ secret wr).mono ?_;rintro e w' ⟨rfl,rfl⟩;obtain⟨PE,co⟩:=x_ (lA secret)
   obtain⟨PV,i'⟩:=x_ (cQ secret)
   have Id:PE=0\/PE=1:=by rw[co];unfold lA;split<;>simp
   obtain⟨y,ey⟩:∃y,bF[j]? =some y:=⟨_,eH HJ.out⟩
   have qy:=fi qr.out ey;have HY:Hid (bF.getD (j:Int).toNat 0=y):=h_ (by rw[tZ,BX,ey];rfl);rw[<-co, <-i'];have ii:=h_ co;have io:=h_ i';clear co i' ey;rcases Id with rfl|rfl;rotate_left
   ·have B:=h_ (z.out wr (jO (λh=>by have:=ii.out;omega)) l.out);clear z Q;go_wp2_with fail;(try go_ret);exact B.out
   have I':(j:Int)<(bF.length:Int):=by have:=HJ.out;omega
   have Gs:=pm.out;by_cases N:PV=y;rotate_left
   ·have t1:(PV !=y)=true:=by simpa using N
    have B:=h_ (z.out wr (jO (λh=>N (by rw[io.out,h.2.2.2.2.2.2,HY.out]))) l.out);clear z Q N;go_wp2_with fail;(try go_ret);exact B.out
   have t1:(PV !=y)=false:=by simpa using N
   have F':Hid (oO c (j:Int) secret bF=true):=h_ (wR ⟨P.out.symm,H1.out.1,H1.out.2,H3.out,m8.out,ii.out.symm,by rw[<-io.out,N,HY.out]⟩);have m7:=h_ (CJ.out wr l.out);clear z N ii io HY m8 CJ;go_wp2_with fail;refine m7.out.mono ?_;rintro e V ⟨jb,rv,A,tc,rfl,z',g7,ge,K,ut⟩;clear qy t1 d8 m7;have pl:=h_ z';have f9:=h_ g7;have f8:=h_ ge;have S:=h_ K;have nl:=h_ ut;have HQ:Hid (∀i,Below V.heap.size V i->i.cell? ⟨w.heap.size,0,none⟩=some (.int .i64 c.aj)/\i.cell? ⟨w.heap.size,3,none⟩=some (.slice c.aA c.bQ.length c.ac)/\i.cell? ⟨w.heap.size,5,none⟩=some (.int .i64 c.days)):=h_ λi h=>by
    obtain⟨⟨u0,_,_,u3,_,u5,_⟩,_⟩:=no.out i (K.trans (h.mono K.size));exact⟨u0,u3,u5⟩
   have CC:=h_ (λi (h:Below V.heap.size V i)=>Ak (some ⟨ba,oa,none⟩) pc bF i (no.out i (K.trans (h.mono K.size))).2 (by have:=H3.out;have:=H1.out;have:=P.out;have dl:=sD P.out.symm;omega));obtain⟨s0,rt⟩:=x_ (⟨c.aj,c.bQ.length,c.days,(j:Int),secret,bF,⟨d,v,a,r,false⟩,true,[]⟩:HS)
   have H:=h_ rt;clear z' g7 ge K ut rt;go_wp2_with fail;refine Free.ai 16 [(10, .ind (oK bF.length) (λx w=>w.ownsRow V.heap.size 3 1 (oK bF.length x) bF.length (bF.flatMap Cs.encI))),(12, .ind (λx=> .map (some x)) (λx w=>Mk.bL w Value.string qw fv x []/\V.heap.size<=x)),(14, .ind (λx=> .pointer (some ⟨x,0,none⟩)) (Made V s0 jb))] (λy=>Below V.heap.size V y) (by kernel_rfl) (by kernel_rfl) (Re rfl) (Below.refl _ _).drew (λ_ _ h g=>h.trans (Below.mono g h.size)) ?_;simp only[eJ,dT];iterate 10 (apply Free.ae (Free.wq rfl) rfl;(intro w' q C;cases HQ.out w' q;clear C q;go_light;go_simp<;>rfl);(try simp only[Pt]))
   apply Free.aR (Free.wq rfl) rfl
   ·intro i q C;refine Free.au (f:=66) (args:= #[.slice (some ⟨ba,oa,none⟩) bF.length pc]) (by clear q C;go_simp<;>rfl) ?_;refine(CC.out i q).mono ?_;rintro e w3 ⟨A',c',rfl,gt,d6⟩;have H':(A'=none/\c'=0)\/∃g,A'=some ⟨g,0,none⟩:=by
     rcases gt.2 with⟨E,_⟩|⟨g,It,Iu,E,_⟩
     ·injection E with E _ X;exact .inl ⟨E,X⟩
     ·injection E with E _ X;exact .inr ⟨g,E⟩
    obtain⟨x,rfl,rfl⟩:=Hb H';exact⟨_,rfl,d6,x,rfl,qn gt q.size⟩
   intro Do;simp only[Pt];iterate 1 (apply Free.ae (Free.wq rfl) rfl;(intro w' q C;cases HQ.out w' q;clear C q;go_light;go_simp<;>rfl);(try simp only[Pt]))
   apply Free.aR (Free.wq rfl) rfl
   ·intro i q C;have Jh:= @run_makeMap Tryz.prog;exact Free.cq (v:= .map (some i.heap.size)) (w':=i.alloc (.map #[] 0)) (by clear q C;go_light;go_simp<;>rfl) ⟨(Below.refl _ _).alloc (aL _) _,i.heap.size,rfl,Mk.bL.made i,q.size⟩
   intro In;simp only[Pt];iterate 2 (first|(apply Free.ae (Free.wq rfl) rfl;(intro w' q C;cases HQ.out w' q;clear C q;go_light;go_simp<;>rfl);(try simp only[Pt]))|(apply Free.aR (Free.wq rfl) rfl;(intro i q C;have dl:=C (12,_) dH (by kernel_rfl);have ld:=C (10,_) (iB _ dH) (by kernel_rfl);dsimp only at dl ld;refine Free.cq (v:= .pointer (some ⟨i.heap.size,0,none⟩)) (w':=i.alloc (.cells (wm ⟨i.heap.size,jb,In,aS Do,cS Do⟩ s0).toArray 104)) (by rw[H.out];clear q C dl ld;go_light;go_simp<;>rfl) ⟨(Below.refl _ _).alloc (aL _) _,i.heap.size,rfl, ?_⟩;exact uw q H.out dl ld)))
   intro Js;simp only[Pt];iterate 1 (apply Free.ae (Free.wq rfl) rfl;(intro w' q C;cases HQ.out w' q;clear C q;go_light;go_simp<;>rfl);(try simp only[Pt]))
   apply Free.ax;intro w3 d6 _ hh;have li:=hh _ dH;dsimp only at li;simp only[fm,fo];obtain⟨o,rfl,kw,By,m1,m2,m3⟩:=li.ex;obtain⟨p,ep⟩:=x_ (⟨o,b,bs,bm,pv,rv⟩:Pl)
   have sm:G7 O V w3 n p s0 (.slice A r.length tc) r:=L0 pl.out f9.out f8.out d6 ep (by rw[H.out]) kw By m1 m2 m3;obtain⟨mt,jp⟩:=x_ o.hb
   have g8:Hid (mt=p.o.hb):=h_ (by rw[ep,jp]);have Fr:Hid (V.heap.size<=p.o.mb):=h_ (by rw[ep];exact m1);have Gu:Hid (∀k,p.F k->Fp b bs bm pv k\/w.heap.size<=k):=h_ (LY ep nl.out m1 m2 (λk hk=>(m3 k hk).1) (fO l.out.size S.out.size) l.out.size kw);have bi:Hid (p.b=b/\p.bs=bs/\p.bm=bm/\p.pv=pv):=h_ (by rw[ep];exact⟨rfl,rfl,rfl,rfl⟩);have m5:r.length=es.length:=by rw[HR.out,rm]
   rw[<-jp];have G':=h_ sm;have Io:=h_ m5;clear d6 hh li kw By m1 m2 m3 sm HQ CC jp ep pl f9 f8 nl;rw[m5];clear m5;go_wp2_with fail
   go_loopw [104] (λu wr=> ∃k:Nat,u= .int .i64 (k:Int)/\k<=es.length/\G7 O V wr n p {s0 with aw:=eP (es.take k)} (.slice A r.length tc) r) (λu _=>(es.length:Int).toNat- (RowKit.intOf u).toNat)
   case atStart=>exact⟨0,rfl,gu _,by
     have h:=G'.out;have M: {s0 with aw:=eP (es.take 0)}=s0:=by rw[H.out];rfl
     rw[M];exact h⟩
   case round=>
    obtain⟨k,rfl,hk,D⟩:=hrel;obtain⟨w4,H8⟩:=x_ wr
    subst H8;have I8:=Fd.out;rcases pC hk with t|t
    ·have d8:(k:Int)<(es.length:Int):=by omega
     obtain⟨M,ee⟩:∃M,es[k]? =some M:=⟨_,eH t⟩
     obtain⟨g,og,eA,Z⟩:=JU D.row HR.out ee;subst eA;have Hh:=h_ D;have U:=h_ t;have EE:=h_ ee;obtain⟨o1,o2,o3,o4⟩:=Gb.out M (ue ee);obtain⟨d9,J⟩:=x_ (aP M)
     rw[<-J]at Z;have an:=ro.out.trans ((l.out.trans ((S.out.trans (D.bl.mono S.out.size)).mono l.out.size)).mono ro.out.size);have CP:=h_ (za M w4 o1 o2 o3 (HT.out.below an (aL _)) (HE.out.below an (aL _)));have CG:=h_ (λw' (h:Below w4.heap.size w4 w')=>qN p.o {s0 with aw:=eP (es.take k)} M d9 w' (D.grow h).hc.hr (by rw[H.out];exact H3.out) o1 (by omega) (by omega) (HT.out.below (an.trans (h.mono an.size)) (aL _)));have Fk:Hid (gB s0.aj s0.bF M d9=true):=h_ (by rw[H.out,J];exact o4);have Hl:Hid (qw d9):=h_ (by have:=j9 o1;unfold qw maxLen;rw[J];omega);have E8:=h_ J;rw[<-J]at CP;obtain⟨s,W⟩:=x_ (aK M)
     have m4:s.length=7:=by rw[W];rfl
     have i9:=h_ (cE s m4);have Fw:Hid (∀u∈s,u.oneCell'=true):=h_ (by rw[W];exact cm M);have E9:=h_ m4;unfold fv at CP;rw[<-W]at CP CG;have D':=h_ W;rw[<-g8.out]at CG;dsimp only at CG;rw[Fk.out]at CG;clear hk t ee D o1 o2 o3 o4 J W m4 an;go_wp2_with fail;refine CP.out.mono ?_;rintro e w5 ⟨rfl,lw⟩;obtain⟨w6,e6⟩:=x_ (w5.alloc (.cells s.toArray 42))
     have ul:Below w4.heap.size w4 w6:=by rw[e6];exact lw.alloc lw.size _
     have Y:ay w6 w5.heap.size s 42:=by rw[e6];exact ay.new w5 _ _
     have E':=h_ e6;have i8:=h_ ul;have n8:Hid (∀w',Below w6.heap.size w6 w'->w'.rangeAt w5.heap.size 0 s):=h_ λw' h=>rg_of (Y.below h Y.lt)
     have ol:=h_ (n8.out w6 (Below.refl _ _));clear lw e6 ul Y Z;go_wp2_with (first
      |(refine aN (.tmp 24) ?_;refine Hk.aD rfl 42 (.tmp 24) (.tmp 111) rfl w5.heap.size s.toArray rfl rfl _ 42 rfl (by rw[i9.out];simp) (by simp[E9.out]) (all_oneCell_toArray Fw.out) ?_;rw[<-E'.out];simp only[Pt])
      |(refine aH (.tmp 24) ?_;refine Row.still (Free.wq rfl) (Hk.aU 42 (.tmp 24) rfl w5.heap.size 0 rfl s _ ol.out Tryz.underlying42 rfl i9.out) ?_;simp only[Pt]))
     refine(CG.out w6 i8.out).mono ?_;rintro e w7 ⟨rfl,d7⟩;have py:=h_ (Hh.out.grow (i8.out.trans (d7.mono i8.out.size)));have Fl:Hid (∀w',Below w7.heap.size w7 w'->w'.rangeAt w5.heap.size 0 s):=h_ λw' h=>n8.out w' (d7.trans (h.mono d7.size))
     have c8:=py.out.hc.hr.bg.ag 8 _ rfl;rw[<-g8.out]at c8;have pu:Hid (∀w',Below w7.heap.size w7 w'->w'.cell? ⟨mt,8,none⟩=some (.map (some p.o.mb))):=h_ λw' h=>aO c8 h
     clear d7 c8;go_wp2_with fail;refine Free.ai 6 [] (λy=>Below w7.heap.size w7 y) (by kernel_rfl) (by kernel_rfl) (Free.aW (λj mk r hf=>by cases hf)) (Below.refl _ _).drew (λ_ _ h g=>h.trans (Below.mono g h.size)) ?_;simp only[eJ,dT];iterate 6 (first|(apply Free.ae (Free.wq rfl) rfl;(intro w' q C;exact Hk.aU 42 (.tmp 24) rfl w5.heap.size 0 rfl s _ (Fl.out w' q) Tryz.underlying42 rfl i9.out);simp only[Pt])|(apply Free.ae (Free.wq rfl) rfl;(intro w' q C;have q8:=pu.out w' q;clear C q;go_light;go_simp<;>rfl);(try simp only[Pt])))
     apply Free.ax;intro wz C' _ _;simp only[fm,fo];have lm:=py.out.grow C';obtain⟨w9,At,v6,up,z9⟩:=lm.hc.hr.mp.store kH Tryz.underlying102 Hl.out M;have k9:aJ (λk=>k=p.o.mb) wz w9:=(aJ.refl (λk=>k=p.o.mb) wz).grown up (λk e _=>by injection e with e;exact e.symm);have G:Hid (G7 O V w9 n p {s0 with aw:=eP (es.take (k+1))} (.slice (some ⟨g,og,none⟩) r.length tc) r):=h_ (by
      have h:=lm.DK Fr.out v6 k9;dsimp only at h;rw[E8.out,Aw Fs.out EE.out]at h;exact h)
     have Jr:(Instr.mapUpdate 102 (.map (some p.o.mb)) (.string d9) (.agg s.toArray)).run Tryz.prog wz= .ok () w9:=by rw[D'.out];exact At
     clear lm At v6 up z9 k9 C' pu;go_wp2_with fail
     go_roundw
     case rel=>
      have key:∃k':Nat,(Value.int .i64 ((k:Int)+1))= .int .i64 (k':Int)/\k'<=es.length/\G7 O V w9 n p {s0 with aw:=eP (es.take k')} (.slice (some ⟨g,og,none⟩) r.length tc) r:=⟨k+1,rfl,U.out,G.out⟩
      first
       |exact key
       |((repeat apply Exists.intro);exact⟨key,rfl⟩)
     case measure=>have:=U.out;simp[RowKit.intOf];omega
    ·have d8: ¬(k:Int)<(es.length:Int):=by omega
     have B:Hid (R (.returned (.tuple #[.pointer (some ⟨mt,0,none⟩), .int .i64 0])) w4):=h_ (by
      have h:=D.hc;rw[np (by omega),H.out]at h;rw[g8.out];exact Q.out w4 p F'.out (l.out.trans ((S.out.trans (D.bl.mono S.out.size)).mono l.out.size)) bi.out.1 bi.out.2.1 bi.out.2.2.1 bi.out.2.2.2 Gu.out h)
     clear Q D hk t;go_wp2_with fail;(try go_ret);exact B.out
end Go.Proofs.YtkmbmfengcdmoaaGreatDoor
namespace Go.Proofs.YtkmbmfengcdmoaaGreatDoor
open Go.RowKit Go.ay Go.Jn Go.Dk Go.Ho Go.Opn Go.Maps Go.WideMaps Go.Apl Go.Mg Go.Rf Go.Lib
structure OI (W:World) (u:Value) (l:List Int) (w:World):Prop where
 own:w.ownsRow W.heap.size 3 1 u l.length (l.flatMap Cs.encI)
 below:Below W.heap.size W w
theorem OI.nil(W:World):OI W (.slice none 0 0) [] W:=⟨World.ownsRow_nil _ _ _ _,Below.refl _ _⟩
theorem OI.grow{W w w':World}{u:Value}{l:List Int}(h:OI W u l w)(a:Below w.heap.size w w'):OI W u l w':=
 ⟨bC h.own (λk e=>a.block k (World.ownsRow.lt h.own k e).2),h.below.trans (a.mono h.below.size)⟩
theorem Ml(x:Int)(w:World):(Instr.buildSlice 22 1 #[(0, .int .i64 x)]).run Tryz.prog w= .ok (.slice (some ⟨w.heap.size,0,none⟩) 1 1) (w.alloc (.cells #[.int .i64 x] 3)):=by kernel_rfl
theorem KX{W w:World}{u:Value}{l:List Int}{x:Int}(h:OI W u l w)(F:(l.length+1)*8<=140737488355328)(s y:Operand)(Q:Exit->Act->World->Prop)(ops:Array Oper)(rest:List Oper)(o:Oper)(a:Act)(f:o.guard=none)
  (A:o.op= .call {callee:= .builtin .append,args:= #[s,y],argTypes:= #[22,22]}) (B:a.eval s=u) (C:a.eval y= .slice (some ⟨w.heap.size,0,none⟩) 1 1)
  (z:∀d w',Hid (OI W d (l++ [x]) w'/\(w.alloc (.cells #[.int .i64 x] 3)).grownBy w' u.ownBlock)->wpList Tryz.prog ops Q rest (a.put o.dst d) w'):wpList Tryz.prog ops Q (o::rest) a (w.alloc (.cells #[.int .i64 x] 3)):=by
 obtain⟨i,t,m,n,p⟩:=Ns;have r:Below w.heap.size w (w.alloc (.cells #[.int .i64 x] 3)):=(Below.refl _ _).alloc (aL _) _;have c:=h.grow r;have g:SL (w.alloc (.cells #[.int .i64 x] 3)) 1 Cs.encI (some ⟨w.heap.size,0,none⟩) [x]:=mO (T:=3) (ay.new w [.int .i64 x] 3);have k:=c.below.size;refine dF f s y 22 A W.heap.size 3 i _ 8 Tryz.underlying22 t m n p rfl (by decide) (λ_=>rfl) (λx v hv=>by simp[Cs.encI]at hv;subst hv;rfl) u l.length _ B c.own (some ⟨w.heap.size,0,none⟩) 1 [x] C g (by show l.length+1<=_;unfold maxLen;omega) (by show(l.length+1)*8<=_;omega) k ?_;intro d D q b _;refine z d D (h_ ⟨⟨by rw[fu,DU];exact q,c.below.trans ⟨b.os,b.tape,b.output,b.size,λj E=>b.block j (by omega) (λe=>by have:=(World.ownsRow.lt c.own j e.symm).1;omega)⟩⟩,b⟩)
def vj(L:List aV):Prop:=∃(q:Nat) (x y:aV),L[q]? =some x/\L[q+1]? =some y/\y.seq=x.seq
open Classical in
noncomputable def oy (aw:dv) (j:Nat):Bool:=decide (vj (bJ aw (j:Int)))
noncomputable def fa (aw:dv) (k:Nat):List Int:=((List.range k).filter (oy aw)).map fun(j:Nat)=>(j:Int)
noncomputable def iK (s:HS):List Int:=fa s.aw s.aj.toNat
theorem rH(aw:dv)(k:Nat):(fa aw k).length<=k:=by unfold fa;rw[rm];exact fO (List.length_filter_le _ _) (by simp)
theorem rJ{aw:dv}{k:Nat}(h:vj (bJ aw (k:Int))):fa aw (k+1)=fa aw k++ [(k:Int)]:=by
 unfold fa;rw[RX,List.filter_append,uE]
 have:oy aw k=true:=by unfold oy;exact @dt _ (Classical.propDecidable _) h
 simp[this]
theorem vV{aw:dv}{k:Nat}(h: ¬vj (bJ aw (k:Int))):fa aw (k+1)=fa aw k:=by
 unfold fa;rw[RX,List.filter_append,uE]
 have:oy aw k=false:=by unfold oy;exact @dy _ (Classical.propDecidable _) h
 simp[this]
def oS(W:World)(l:List Int)(e:Ending)(w':World):Prop:=∃v,e= .returned v/\OI W v l w'
set_option maxHeartbeats 2000000 in
theorem oG(o:Lo)(s:HS)(W:World)(h:HR W o s)(F:lv s):Calls Tryz.prog 36 #[.pointer (some ⟨o.hb,0,none⟩)] W (oS W (iK s)):=by
 obtain⟨R,eR⟩:=x_ (oS W (iK s))
 rw[<-eR];have ci:=F.KI;have T:=F.KH;have d7:=F.me;obtain⟨N,eN⟩:∃N:Nat,s.aj=(N:Int):=⟨s.aj.toNat,by omega⟩
 have hL:iK s=fa s.aw N:=by unfold iK;rw[eN];rfl
 have X:Hid (∀b v,OI W v (fa s.aw N) b->R (.returned v) b):=h_ λb v C=>by rw[eR,hL];exact⟨v,rfl,C⟩
 have HN:Hid (N<=12):=h_ (by omega);have HF:Hid (s.aw.length<=1000000):=h_ F.e.jX;have c0:=h.bg.ag 0 _ rfl;rw[eN]at c0;have C1:=h_ (fun(j:Nat) b (hb:Below W.heap.size W b)=>kZ o s (j:Int) b (h.below hb) F.e);clear eR h F ci T d7 eN hL;go_enter Tryz.func36,Tryz.ntmps36;go_wp2_with fail
 go_loopw [3,13] (λu v wr=> ∃k:Nat,v= .int .i64 (k:Int)/\k<=N/\OI W u (fa s.aw k) wr) (λ_ v _=>(N:Int).toNat- (RowKit.intOf v).toNat)
 case atStart=>exact⟨0,rfl,gu _,OI.nil W⟩
 case round=>
  obtain⟨k,rfl,hk,m⟩:=hrel;obtain⟨W1,an⟩:=x_ wr
  subst an;have HO:=h_ m;have d8:=HN.out;rcases pC hk with t|t
  ·have d6:(k:Int)<(N:Int):=by omega
   have C2:=h_ (C1.out k W1 m.below);clear m;go_wp2_with fail;refine C2.out.mono ?_;rintro e w2 ⟨g,c,rfl,hc,co,a,z,P⟩;have A:=mm s.aw (k:Int);obtain⟨L,Z⟩:=x_ (bJ s.aw (k:Int))
   rw[<-Z]at a z hc A⊢;have gc:L.length<=1000000:=by have:=HF.out;omega
   have M:=h_ (HO.out.grow P);have O:=h_ a;have EL:=h_ Z;have f:=h_ t;clear hc co a z P Z A hk t;go_wp2_with fail;obtain⟨U,eU⟩:=x_ u3
   subst eU
   go_loopw [3,6] (λu v wi=> ∃i:Nat,u=U/\v= .int .i64 ((i:Int)+1)/\(i+1<=L.length\/i=0)/\Below w2.heap.size w2 wi/\Hid (∀q x y,q<i->L[q]? =some x->L[q+1]? =some y->y.seq≠x.seq)) (λ_ v _=>(L.length:Int).toNat- (RowKit.intOf v).toNat)
   case atStart=>exact⟨0,rfl,rfl, .inr rfl,Below.refl _ _,h_ (λq x y hq=>absurd hq (by omega))⟩
   case round=>
    obtain⟨i,rfl,rfl,S,l,K⟩:=hrel;obtain⟨D,bi⟩:=x_ wr
    subst bi;have I:=h_ l;by_cases p:i+1<L.length
    ·have dl:(i:Int)+1<(L.length:Int):=by omega
     obtain⟨x,ex⟩:∃x,L[i]? =some x:=⟨_,eH (by omega)⟩
     obtain⟨y,ey⟩:∃y,L[i+1]? =some y:=⟨_,eH p⟩
     have n:=bC O.out (λq e=>l.block q (World.ownsRow.lt O.out q e).2);obtain⟨A',c',V,_,w⟩:=gV bT n;injection V with V _ ec;subst ec;rw[<-V]at w;have m1:D.cell? ⟨g,i*7+1,none⟩=some (.int .i64 x.seq):=by have h:=dq w ex 1 (.int .i64 x.seq) rfl;rw[nW]at h;exact h
     have m2:D.cell? ⟨g,(i+1)*7+1,none⟩=some (.int .i64 y.seq):=by have h:=dq w ey 1 (.int .i64 y.seq) rfl;rw[nW]at h;exact h
     have d9:IntKind.i64.wrap ((i:Int)+1-1)=(i:Int):=by rw[IntWalk.i64_left,IntWalk.wrap64_in _ ⟨by omega,by omega⟩];omega
     have gt:IntKind.i64.wrap (i:Int)=(i:Int):=IntWalk.i64_in _ ⟨by omega,by omega⟩;have f9:(i:Int)<(L.length:Int):=by omega
     have ge:((i:Int)+1).toNat=i+1:=by omega
     have HQ:Hid (∀b,Below D.heap.size D b->b.cell? ⟨g,i*7+1,none⟩=some (.int .i64 x.seq)/\b.cell? ⟨g,(i+1)*7+1,none⟩=some (.int .i64 y.seq)):=h_ λb h=>⟨aO m1 h,aO m2 h⟩
     have EX:=h_ ex;have EY:=h_ ey;have J:=h_ p;clear ex ey n V w m1 m2 l S p;go_wp2_with fail;refine Free.ai 12 [] (λb=>Below D.heap.size D b) (by kernel_rfl) (by kernel_rfl) (Free.aW (λj mk r hf=>by cases hf)) (Below.refl _ _).drew (λ_ _ h g=>h.trans (Below.mono g h.size)) ?_;simp only[eJ,dT];iterate 12 (apply Free.ae rfl rfl;(intro b hB hA;cases HQ.out b hB;clear hA hB;go_light;go_simp<;>rfl);(try simp only[Pt]))
     apply Free.ax;intro wz hz _ _;simp only[fm,fo];have HZ:=h_ (I.out.trans (hz.mono I.out.size));clear hz HQ;by_cases H:y.seq=x.seq
     ·have t1:(y.seq==x.seq)=true:=by simpa using H
      have d:Hid (vj (bJ s.aw (k:Int))):=h_ (by rw[<-EL.out];exact⟨i,x,y,EX.out,EY.out,H⟩);have B:=h_ (M.out.grow HZ.out);have Q:((fa s.aw k).length+1)*8<=140737488355328:=by have:=rH s.aw k;have:=f.out;omega
      have Y:=h_ Q;have f8:=Ml (k:Int) wz;clear H Q;go_wp2_with (refine v8 (.tmp 37) (.tmp 39) ?_;go_loud (refine KX B.out Y.out (.tmp 37) (.tmp 39) _ _ _ _ _ rfl rfl rfl rfl ?_);intro u9 w9 H9;simp only[Pt])
      go_roundw
      case rel=>exact⟨k+1,rfl,f.out,by rw[rJ d.out];exact H9.out.1⟩
      case measure=>have:=f.out;simp[RowKit.intOf];omega
     ·have t1:(y.seq==x.seq)=false:=by simpa using H
      have G:Hid (∀q x y,q<i+1->L[q]? =some x->L[q+1]? =some y->y.seq≠x.seq):=h_ λq x' y' hq C E=>by
       rcases pC (Nat.le_of_lt_succ hq)with h|h
       ·exact K.out q x' y' h C E
       ·subst h;rw[EX.out]at C;rw[EY.out]at E;cases C;cases E;exact H
      clear H;go_wp2_with fail
      go_roundw
      case rel=>exact⟨i+1,rfl,by push_cast;rfl, .inl (by have:=J.out;omega),HZ.out,G⟩
      case measure=>have:=J.out;simp[RowKit.intOf];omega
    ·have dl: ¬(i:Int)+1<(L.length:Int):=by omega
     have d:Hid (¬vj (bJ s.aw (k:Int))):=h_ (by
      rw[<-EL.out];rintro⟨q,x,y,C,E,h3⟩
      have:=(jS.1 E).1;exact K.out q x y (by omega) C E h3)
     have B:=h_ (M.out.grow l);clear l S p;go_wp2_with fail
     go_roundw
     case rel=>exact⟨k+1,rfl,f.out,by rw[vV d.out];exact B.out⟩
     case measure=>have:=f.out;simp[RowKit.intOf];omega
  ·subst t;have G:=h_ (X.out W1 _ m);have d6: ¬((k:Nat):Int)<(k:Int):=by omega
   clear m;go_wp2_with fail;(try go_ret);exact G.out
end Go.Proofs.YtkmbmfengcdmoaaGreatDoor
namespace Go.Jn
open Go Go.Dk
structure mU (n:Nat) (s:JS) (m:Nat):Prop where
 ok:s.d.Ok n
 on:s.d.on=true
 aF:s.d.aF= []
 brk:s.broken=false
 found:Found n s.d.st s.v s.a s.bW
 OH:nr n s.d.st s.v s.a
 num:s.v.1<=m
structure Nf (n:Nat) (s:JS) (m:Nat) (r1 r2:List (List UInt8)):Prop where
 ok:s.d.Ok n
 off:s.d.on=false
 aF:s.d.aF= []
 brk:s.broken=true
 back:∃v a r,Found n s.d.st v a r/\nr n s.d.st v a/\v.1<=m/\(r=r1\/r=r2)
theorem mU.new{n:Nat}(a:4<=n)(b:n<=4000):mU n ⟨DD.new n,(0,0,0),0,[],false⟩ 0:=⟨DD.Ok.new (by omega) b,rfl,rfl,rfl,(qm a).1,(qm a).2,aL _⟩
theorem mU.more{n:Nat}{s:JS}{m a:Nat}(h:mU n s m)(hm:m<=a):mU n s a:=⟨h.ok,h.on,h.aF,h.brk,h.found,h.OH,fO h.num hm⟩
theorem mU.len{n:Nat}{s:JS}{m:Nat}(h:mU n s m):s.v.2.2=dG s.bW/\∀b∈s.bW,b.length<=2000:=uX h.ok.len h.found
theorem Oe{n:Nat}{d:DD}(h:d.Ok n){x y z:Int}(a: -9223372036854775808<=x)(b:x<=9223372036854775807)(c: -9223372036854775808<=y)(e:y<=9223372036854775807)(f: -9223372036854775808<=z)(g:z<=9223372036854775807):(d.arm x y z).Ok n:=by
 unfold DD.arm;split
 ·exact⟨h.len,h.sec,h.jX,a,b,c,e,f,g,h.n1,h.n2⟩
 ·exact h
theorem mU.arm{n:Nat}{s:JS}{m:Nat}(h:mU n s m){x y z:Int}(a: -9223372036854775808<=x)(b:x<=9223372036854775807)(c: -9223372036854775808<=y)(f:y<=9223372036854775807)(g: -9223372036854775808<=z)(i:z<=9223372036854775807):mU n {s with d:=s.d.arm x y z} m:=by
 have j:=Oe h.ok a b c f g i;have e:s.d.arm x y z= {s.d with bH:=decide (0<=x),after:=x,writes:=y,bytes:=z}:=by unfold DD.arm;rw[if_pos h.on]
 exact⟨j,by rw[e];exact h.on,by rw[e];exact h.aF,h.brk,by rw[e];exact h.found,by rw[e];exact h.OH,h.num⟩
theorem mU.append{n:Nat}{s:JS}{m:Nat}(x:4<=n)(h:mU n s m)(hm:m<999999999)(b:List UInt8):
  (2000<b.length/\s.append n b=(s,3))\/(b.length<=2000/\32*((n-2) / 2)<dG (s.bW++ [b])/\s.append n b=(s,19))\/
   ((s.append n b).2=0/\mU n (s.append n b).1 (m+1)/\(s.append n b).1.bW=s.bW++ [b]/\(s.append n b).1.d.bH=s.d.bH)\/
   ((s.append n b).2=21/\s.d.bH=true/\Nf n (s.append n b).1 (m+1) s.bW (s.bW++ [b])):=by
 have c:=h.brk;have w:=h.len.1;have r:=h.num;have j:dG (s.bW++ [b])=s.v.2.2+(4+b.length):=by rw[kR,w];show _+(4+b.length+0)=_;omega
 by_cases f:2000<b.length
 ·exact .inl ⟨f,by unfold JS.append;rw[if_neg (by rw[c];decide),if_pos f]⟩
 ·by_cases t:32*((n-2) / 2)<s.v.2.2+(4+b.length)
  ·exact .inr (.inl ⟨by omega,by rw[j];exact t,by unfold JS.append;rw[if_neg (by rw[c];decide),if_neg f,if_pos (.inl t)]⟩)
  ·have z:=xT (b:=b) h.ok h.on h.aF x h.found (by omega) (by omega) (by omega);have e:s.append n b=if(cy n s.a s.v.1 s.v.2.1 s.v.2.2 (bR b) s.d).2=0 then
     ({d:=(cy n s.a s.v.1 s.v.2.1 s.v.2.2 (bR b) s.d).1,v:=(s.v.1+1,s.v.2.1,s.v.2.2+(bR b).length),a:=1-s.a,bW:=s.bW++ [b],broken:=false},0)
     else({s with d:=(cy n s.a s.v.1 s.v.2.1 s.v.2.2 (bR b) s.d).1,broken:=true},(cy n s.a s.v.1 s.v.2.1 s.v.2.2 (bR b) s.d).2):=by
    unfold JS.append;rw[if_neg (by rw[c];decide),if_neg f,if_neg (by omega)]
   obtain⟨u,⟨k,l,o,p,q,y⟩|⟨k,l,o,p,q⟩⟩:=z
   ·rw[if_pos k]at e;rw[e];exact .inr (.inr (.inl ⟨rfl,⟨u,l,o,rfl,q,y,by show s.v.1+1<=m+1;omega⟩,rfl,p⟩))
   ·rw[k,if_neg (show ¬((21:Int)=0) by decide)]at e;rw[e];refine .inr (.inr (.inr ⟨rfl,l,⟨u,o,p,rfl, ?_⟩⟩));rcases q h.OH with⟨g,i⟩|⟨g,i⟩
    ·exact⟨_,_,_,g,i,by omega, .inl rfl⟩
    ·exact⟨_,_,_,g,i,by show s.v.1+1<=m+1;omega, .inr rfl⟩
theorem AB{n:Nat}{d:DD}(x y:Int)(h:d.Ok n)(a:d.aF= []):((d.fail x y).start).Ok n/\((d.fail x y).start).on=true/\((d.fail x y).start).aF= []/\((d.fail x y).start).bH=false/\((d.fail x y).start).st=d.st:=by
 refine⟨(h.fail x y).start,rfl, ?_,rfl, ?_⟩
 ·unfold DD.fail DD.start;split
  ·rfl
  ·exact a
 ·unfold DD.fail DD.start;split
  ·show settled d.st d.aF _ _=d.st;rw[a];rfl
  ·rfl
theorem EI{n:Nat}{d:DD}{v:Nat×Nat×Nat}{a m:Nat}{r:List (List UInt8)}(x y:Int)(k:4<=n)(e:d.Ok n)(l:d.aF= [])(c:Found n d.st v a r)(b:nr n d.st v a)(hm:v.1<=m):
  dR n (d.fail x y).start=(0,some (v,a,r))/\mU n ⟨(d.fail x y).start,v,a,r,false⟩ m/\((d.fail x y).start).bH=false:=by
 obtain⟨h,f,g,i,j⟩:=AB x y e l;rw[<-j]at c b;exact⟨th f k (by rw[Lx g];exact c),⟨h,f,g,rfl,c,b,hm⟩,i⟩
theorem mU.back{n:Nat}{s:JS}{m:Nat}(b:4<=n)(h:mU n s m)(x y:Int):dR n (s.d.fail x y).start=(0,some (s.v,s.a,s.bW))/\mU n ⟨(s.d.fail x y).start,s.v,s.a,s.bW,false⟩ m/\((s.d.fail x y).start).bH=false:=
 EI x y b h.ok h.aF h.found h.OH h.num
theorem Nf.again{n:Nat}{s:JS}{m:Nat}{b c:List (List UInt8)}(j:4<=n)(h:Nf n s m b c)(x y:Int):
  ∃v a r,dR n (s.d.fail x y).start=(0,some (v,a,r))/\mU n ⟨(s.d.fail x y).start,v,a,r,false⟩ m/\((s.d.fail x y).start).bH=false/\(r=b\/r=c):=by
 obtain⟨v,a,r,e,f,g,i⟩:=h.back;obtain⟨k,l,o⟩:=EI x y j h.ok h.aF e f g;exact⟨v,a,r,k,l,o,i⟩
end Go.Jn
