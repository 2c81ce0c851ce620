/- Package contract: validKind. Condition: the contract lies in memory. -/
import Derived.Test.YtkmbmfengcdmoaaGreatDoorZAN
set_option maxRecDepth 100000
set_option linter.all false
namespace Go.Cv
open Go
def jN(days:Int):Int->List Int->Bool
 |_,[]=>true
 |last,d::r=>(decide (last<d)&&decide (d<days))&&jN days d r
def gy(c:NV):Bool:=(decide (1<=c.aj)&&(decide (1<=c.days)&&(!decide (c.aE= [])&&(c.aE.all λh=>decide (0<=h)&&decide (h<c.aj)))))&&(tR c.bP&&((c.bQ.all (r9 c.aj c.aE.length c.bP.length))&&jN c.days (-1) c.off))
structure rW (c:cZ):Prop where
 p:c.aj<=12
 h:c.aE.length<=12
 u:c.bP.length<=20
 a:c.bQ.length<=60
 k:c.iH.length<=400
theorem vr{a:Int}:∀ {l:List Int} {last:Int} {k:Nat} {d:Int},l[k]? =some d->jN a last (l.take k)=true->jN a last (l.take (k+1))=(decide (((l.take k).getLast?).getD last<d)&&decide (d<a))
 | [],_,_,_,h,_=>by simp at h
 |x::r,last,0,d,h,_=>by
  simp at h;subst h;show jN a last [x]=_;simp only[jN,Bool.and_true];rfl
 |x::r,last,k+1,d,h,hk=>by
  simp only[List.getElem?_cons_succ]at h;simp only[eJ,jN,ua,uD]at hk
  have:=vr (last:=x) h hk.2;simp only[eJ,jN,dt hk.1.1,dt hk.1.2,M8];rw[this];congr 2;cases hr:r.take k with
  |nil=>simp
  |cons y s=>simp[List.getLast?_cons]
theorem vq{a:Int}:∀ {l:List Int} {last:Int} {k:Nat},jN a last (l.take k)=false->jN a last l=false
 | [],_,_,h=>by simpa[jN]using h
 |x::r,last,0,h=>by simp[jN]at h
 |x::r,last,k+1,h=>by
  simp only[eJ,jN]at h⊢;cases h1:(decide (last<x)&&decide (x<a))with
  |false=>rfl
  |true=>rw[h1,M8]at h;rw[M8];exact vq h
end Go.Cv
namespace Go.Proofs.YtkmbmfengcdmoaaGreatDoor
open Go.RowKit Go.W32 Go.ay Go.Cs Go.Lib Go.Opn Go.Mg Go.Cv

theorem Dc(cs:List Value)(h:cs.length=7):(Tryz.prog.info? 155).map (·.size)=some cs.length:=by rw[h];kernel_rfl
theorem Kd{cs:List Value}(c:cs.length=7)(f:∀v∈cs,v.oneCell'=true)(s t:Nat)(e h:World)(b:Nat)(k:b=e.heap.size)(j:h=e.alloc (.cells cs.toArray 155))(Q:Exit->Act->World->Prop)(ops:Array Oper)(rest:List Oper)(o:Oper)(a:Act)(g:o.guard=none)(l:o.op= .store 155 (.tmp s) (.tmp t))(m:a.eval (.tmp s)= .pointer (some ⟨b,0,none⟩))(n:a.eval (.tmp t)= .agg cs.toArray)(ju:Array Value)(d:ju.size=7)(i:wpList Tryz.prog ops Q rest (a.put o.dst undef) h):wpList Tryz.prog ops Q (o::rest) a (e.alloc (.cells ju 155)):=by rw[j]at i;exact Hk.aD g 155 (.tmp s) (.tmp t) l b _ m n ju 155 k (by rw[Dc cs c];simp) (by rw[d];simp[c]) (all_oneCell_toArray f) i
theorem Ep(a:zY):∀v∈ln a,v.oneCell'=true:=λv hv=>by
 simp only[ln,lC,DR,DW]at hv;rcases hv with rfl|rfl|rfl|rfl|rfl|rfl|rfl<;>rfl
set_option maxHeartbeats 4000000 in
theorem AJ(c:cZ)(W:World)(hc:dV W c)(hl:rW c)(hz:lk c):Calls Tryz.prog 98 #[.agg (cD c).toArray] W λe w'=>e= .returned (.bool (gy c.iU))/\Below W.heap.size W w':=by
 obtain⟨R,eR⟩:=x_ (λe w'=>e= .returned (.bool (gy c.iU))/\Below W.heap.size W w':Ending->World->Prop)
 rw[<-eR];have f:Hid (∀w' v,v=gy c.iU->Below W.heap.size W w'->R (.returned (.bool v)) w'):=h_ λw' v h Z=>by rw[eR,h];exact⟨rfl,Z⟩
 clear eR;have G:Hid (gy c.iU=((decide (1<=c.aj)&&(decide (1<=c.days)&&(!decide (c.aE.length=0)&&lW c.aj c.aE)))&&(tR c.bP&&((c.bQ.all (r9 c.aj c.aE.length c.bP.length))&&jN c.days (-1) c.off)))):=h_ (by
  unfold gy lW cZ.iU;simp only[Ky])
 obtain⟨s,cs,q⟩:=uh W c;obtain⟨I,J,K,M,C,O,P⟩:=jK.of (T:=27) (b:=W.heap.size) (w:=s) (c:=c) (by rw[<-q.cs];exact q.row);have N:Hid (∀w',Below s.heap.size s w'->jK w' W.heap.size c/\w'.rangeAt W.heap.size 0 cs/\dV w' c):=h_ λw' Z=>⟨jK.of (T:=27) (by rw[<-q.cs];exact q.row.below Z q.row.lt),(q.row.below Z q.row.lt).rg,hc.below (q.below.trans (Z.mono q.below.size)) (aL _)⟩
 have E1:=h_ q.e;have g:=h_ q.below;have HI:=h_ (ig cs (by rw[q.cs];rfl));have CH:=h_ (IL c s (N.out s (Below.refl _ _)).2.2 hl.h hl.p);have CQ:Hid (∀w',Below s.heap.size s w'->Calls Tryz.prog 155 #[.slice c.uA c.bP.length c.uc] w' (zZ c.bP w')):=h_ λw' Z=>Pb c.uA c.uc c.bP w' (N.out w' Z).2.2.u hz.uc (by have:=hl.u;omega)
 have CA:=h_ (λa w=>KS c a w);rw[<-q.cs]at CH CA⊢;have HL:=h_ hl;have HZ:=h_ hz;clear q hc hl hz K M C P;by_cases h1:1<=c.aj;rotate_left
 ·have q1:decide (1<=c.aj)=false:=dy h1;have kw:decide (c.aj<1)=true:=dt (by omega);have j:=h_ (f.out s false (by rw[G.out];simp[q1]) g.out);clear f G;go_enter Tryz.func98,Tryz.ntmps98;go_wp2_with (simp only[E1.out])
  exact j.out
 have q1:decide (1<=c.aj)=true:=dt h1;have kw:decide (c.aj<1)=false:=dy (by omega);by_cases h2:1<=c.days;rotate_left
 ·have q2:decide (1<=c.days)=false:=dy h2;have ld:decide (c.days<1)=true:=dt (by omega);have j:=h_ (f.out s false (by rw[G.out];simp[q2]) g.out);clear f G;go_enter Tryz.func98,Tryz.ntmps98;go_wp2_with (simp only[E1.out])
  exact j.out
 have q2:decide (1<=c.days)=true:=dt h2;have ld:decide (c.days<1)=false:=dy (by omega);by_cases Y:c.aE.length=0
 ·have q3:decide (c.aE.length=0)=true:=dt Y;have li:((c.aE.length:Int)==0)=true:=by simpa using Y
  have j:=h_ (f.out s false (by rw[G.out];simp[Y]) g.out);clear f G Y;go_enter Tryz.func98,Tryz.ntmps98;go_wp2_with (simp only[E1.out])
  exact j.out
 have q3:decide (c.aE.length=0)=false:=dy Y;have li:((c.aE.length:Int)==0)=false:=by simp;intro e;exact Y (by rw[e];rfl)
 obtain⟨HB,f8⟩:=x_ (lW c.aj c.aE)
 rw[<-f8]at CH G;have l:Hid (gy c.iU=(HB&&(tR c.bP&&((c.bQ.all (r9 c.aj c.aE.length c.bP.length))&&jN c.days (-1) c.off)))):=h_ (by rw[G.out,q1,q2,q3];rfl);have d9:=h_ (N.out s (Below.refl _ _)).2.1;clear G f8 h1 h2 Y q1 q2 q3;go_enter Tryz.func98,Tryz.ntmps98;go_wp2_with (first
  |(simp only[E1.out])
  |(refine aH (.tmp 1) ?_;refine Row.still (Free.wq rfl) (Hk.aU 27 (.tmp 1) rfl W.heap.size 0 rfl cs _ d9.out Tryz.underlying27 rfl HI.out) ?_;simp only[Pt]))
 refine CH.out.mono ?_;rintro e w2 ⟨rfl,an⟩;obtain⟨⟨I,J,K,M,C,O,P⟩,_,_⟩:=N.out w2 an;have E:=h_ an;clear an CH d9 I J C O P;cases HB with
 |false=>have j:=h_ (f.out w2 false (by rw[l.out];rfl) (g.out.trans (E.out.mono g.out.size)));clear f l;go_wp2_with fail;exact j.out
 |true=>
 go_wp2_with fail;refine(CQ.out w2 E.out).mono ?_;rintro e w3 ⟨⟨ix,rfl⟩,gc⟩;have Q:=h_ (E.out.trans (gc.mono E.out.size));obtain⟨⟨I,J,K,M,C,O,P⟩,_,_⟩:=N.out w3 Q.out;obtain⟨UB,f9⟩:=x_ (tR c.bP)
 rw[<-f9]at l⊢;clear gc CQ f9 I J K C O;cases UB with
 |false=>have j:=h_ (f.out w3 false (by rw[l.out];rfl) (g.out.trans (Q.out.mono g.out.size)));clear f l;go_wp2_with fail;exact j.out
 |true=>
 have A:Hid (gy c.iU=((c.bQ.all (r9 c.aj c.aE.length c.bP.length))&&jN c.days (-1) c.off)):=h_ (by rw[l.out];rfl);clear l;go_wp2_with fail;obtain⟨af,X⟩:=x_ (r9 c.aj c.aE.length c.bP.length)
 rw[<-X]at A;have dl:Hid (∀a w,Calls Tryz.prog 156 #[.agg cs.toArray, .agg (ln a).toArray] w λe w'=>e= .returned (.bool (af a))/\Below w.heap.size w w'):=h_ λa w=>by rw[X];exact CA.out a w
 clear CA X P M
 go_loopw [40] (λv wr=> ∃k:Nat,v= .int .i64 (k:Int)/\k<=c.bQ.length/\Hid ((c.bQ.take k).all af=true)/\Below s.heap.size s wr) (λv _=>(c.bQ.length:Int).toNat- (RowKit.intOf v).toNat)
 case atStart=>exact⟨0,rfl,gu _,h_ rfl,Q.out⟩
 case round=>
  obtain⟨k,rfl,hk,m,y⟩:=hrel;have i9:(k:Int)<=60:=by have:=HL.out.a;omega
  obtain⟨⟨I,J,K,M,C,O,P⟩,H,t⟩:=N.out wr y;rcases pC hk with i|i
  ·have ci:(k:Int)<(c.bQ.length:Int):=by omega
   obtain⟨a,ea⟩:∃x,c.bQ[k]? =some x:=⟨_,eH i⟩
   have hA:=t.a;obtain⟨b,co,eA⟩:=cG hA (by intro e;rw[e]at i;simp at i);rw[eA]at M hA⊢;obtain⟨V,B⟩:=x_ (ln a)
   have bi:V.length=7:=by rw[B];rfl
   have io:Hid (wr.rangeAt b (co+k*7) V):=h_ (by rw[B];exact dq hA ea);have d7:=h_ (Dc V bi);obtain⟨Wk,ek⟩:=x_ (wr.alloc (.cells V.toArray 155))
   have g7:Row Wk wr.heap.size 155 V:=by rw[ek];exact Row.new _ _ _
   have gt:Below wr.heap.size wr Wk:=by rw[ek];exact(Below.refl _ _).alloc (aL _) _
   have i8:=h_ (Kd bi (by rw[B];exact Ep a) 6 43 wr Wk _ rfl ek);have S:=h_ (y.trans (gt.mono y.size));have ii:=h_ (N.out Wk S.out).2.1;have g8:=h_ g7.rg;have D:=h_ (dl.out a Wk);rw[<-B]at D;obtain⟨v,ev⟩:=x_ (af a)
   rw[<-ev]at D;have EV:=h_ ev;have EA:=h_ ea;clear B bi ek g7 gt hA ea ev eA y H t hk I J K C O P;go_wp2_with (first
    |(refine aH (.tmp 42) ?_;refine wpList_load_mid rfl 155 (.tmp 42) rfl b (co+k*7) rfl V _ io.out Tryz.underlying155 rfl d7.out ?_)
    |(refine aN (.tmp 6) ?_;refine i8.out _ _ _ _ _ rfl rfl rfl rfl _ (by simp) ?_;simp only[Pt])
    |(refine aH (.tmp 1) ?_;refine wpList_load_mid rfl 27 (.tmp 1) rfl W.heap.size 0 rfl cs _ ii.out Tryz.underlying27 rfl HI.out ?_)
    |(refine aH (.tmp 6) ?_;refine wpList_load_mid rfl 155 (.tmp 6) rfl wr.heap.size 0 rfl V _ g8.out Tryz.underlying155 rfl d7.out ?_))
   refine D.out.mono ?_;rintro e w5 ⟨rfl,ge⟩;have d6:=h_ (S.out.trans (ge.mono S.out.size));clear ge D;cases v with
   |true=>
    go_wp2_with fail
    go_roundw
    case rel=>exact⟨k+1,rfl,i,h_ (lI EA.out m.out EV.out.symm),d6.out⟩
    case measure=>simp[RowKit.intOf];omega
   |false=>have j:=h_ (f.out w5 false (by rw[A.out,il EA.out EV.out.symm];rfl) (g.out.trans (d6.out.mono g.out.size)));clear f A;go_wp2_with fail;exact j.out
  ·have ci: ¬(k:Int)<(c.bQ.length:Int):=by omega
   have r:Hid (gy c.iU=jN c.days (-1) c.off):=h_ (by
    have:=m.out;rw[np (by omega)]at this;rw[A.out,this];rfl)
   have F:=h_ y;clear A y m H t hk i dl I J K M C O;go_wp2_with fail;generalize wr=wo at*
   go_loopw [7,52] (λu v wr=> ∃k:Nat,v= .int .i64 (k:Int)/\k<=c.off.length/\u= .int .i64 (((c.off.take k).getLast?).getD (-1))/\Hid (jN c.days (-1) (c.off.take k)=true)/\wr=wo) (λ_ v _=>(c.off.length:Int).toNat- (RowKit.intOf v).toNat)
   case atStart=>exact⟨0,rfl,gu _,rfl,h_ rfl,rfl⟩
   case round=>
    obtain⟨k,rfl,hk,rfl,m,i'⟩:=hrel;subst i';obtain⟨⟨I,J,K,M,C,O,jp⟩,H,t⟩:=N.out wr F.out;rcases pC hk with i|i
    ·have ci:(k:Int)<(c.off.length:Int):=by omega
     have i9:(k:Int)+1<=9223372036854775807:=by have:=HZ.out.o;omega
     obtain⟨d,ed⟩:∃x,c.off[k]? =some x:=⟨_,eH i⟩
     have hO:=t.o;obtain⟨b,co,eO⟩:=cG hO (by intro e;rw[e]at i;simp at i);rw[eO]at hO⊢;have cd:=fi hO ed;have n:=vr ed m.out;obtain⟨L,eL⟩:=x_ (((c.off.take k).getLast?).getD (-1))
     rw[<-eL]at n⊢;have z:=h_ n;have U:Hid (((c.off.take (k+1)).getLast?).getD (-1)=d):=h_ (by rw[zX,ed,Option.toList_some,List.getLast?_append];rfl);have d8:Hid (jN c.days (-1) (c.off.take (k+1))=false->jN c.days (-1) c.off=false):=h_ vq;clear n eL ed hO eO H t hk I J K M C P jp;by_cases h1:L<d;rotate_left
     ·have q1:decide (d<=L)=true:=dt (by omega);have j:=h_ (f.out wr false (by rw[r.out,d8.out (by rw[z.out,dy h1];rfl)]) (g.out.trans (F.out.mono g.out.size)));clear f r;go_wp2_with fail;exact j.out
     have q1:decide (d<=L)=false:=dy (by omega);by_cases h2:d<c.days;rotate_left
     ·have q2:decide (c.days<=d)=true:=dt (by omega);have j:=h_ (f.out wr false (by rw[r.out,d8.out (by rw[z.out,dy h2,R5])]) (g.out.trans (F.out.mono g.out.size)));clear f r;go_wp2_with fail;exact j.out
     have q2:decide (c.days<=d)=false:=dy (by omega);have ip:Hid (jN c.days (-1) (c.off.take (k+1))=true):=h_ (by rw[z.out,dt h1,dt h2];rfl);go_wp2_with fail
     go_roundw
     case rel=>exact⟨k+1,rfl,i,by rw[U.out],ip,by trivial⟩
     case measure=>simp[RowKit.intOf];omega
    ·have ci: ¬(k:Int)<(c.off.length:Int):=by omega
     have j:=h_ (f.out wr true (by have:=m.out;rw[np (by omega)]at this;rw[r.out,this]) (g.out.trans (F.out.mono g.out.size)));clear f r m hk i;go_wp2_with fail;exact j.out
end Go.Proofs.YtkmbmfengcdmoaaGreatDoor
namespace Go.Cv
open Go Go.Cs
def oJ(H:Nat)(acs:List zY)(k:mT):Bool:=
 if k.kind==4 then(k.role== -1)&&((k.eQ==1)&&((k.cY==0)&& !k.fin))
 else if !ja H k.role||lz acs k.act then false
 else if k.kind==1 then decide (1<=k.eQ)&&(decide (k.eQ<=9)&&(decide (0<=k.cY)&&decide (k.cY<=400)))
 else if k.kind==2 then(k.eQ==1)&&(k.cY==0)
 else if k.kind==3 then(k.eQ==1)&&((k.cY==0)&& !k.fin)
 else false
end Go.Cv
namespace Go.Proofs.YtkmbmfengcdmoaaGreatDoor
open Go.RowKit Go.W32 Go.ay Go.Cs Go.Lib Go.Opn Go.Mg Go.Cv
structure rn (w:World) (b:Nat) (k:mT) (st:Value):Prop where
 q0:w.cell? ⟨b,0,none⟩=some (.int .i64 k.kind)
 q1:w.cell? ⟨b,1,none⟩=some (.int .i64 k.role)
 q2:w.cell? ⟨b,2,none⟩=some (.int .i64 k.act)
 q3:w.cell? ⟨b,3,none⟩=some (.int .i64 k.eQ)
 q4:w.cell? ⟨b,4,none⟩=some st
 q5:w.cell? ⟨b,5,none⟩=some (.int .i64 k.after)
 q6:w.cell? ⟨b,6,none⟩=some (.int .i64 k.cY)
 q7:w.cell? ⟨b,7,none⟩=some (.bool k.PH)
 q8:w.cell? ⟨b,8,none⟩=some (.bool k.fin)
 q9:w.cell? ⟨b,9,none⟩=some (.int .i64 k.fh)
 zi:w.cell? ⟨b,10,none⟩=some (.int .i64 k.resume)
 xH:w.cell? ⟨b,11,none⟩=some (.int .i64 k.num)
 xI:w.cell? ⟨b,12,none⟩=some (.int .i64 k.den)
 zj:w.cell? ⟨b,13,none⟩=some (.int .i64 k.unit)
 zW:w.cell? ⟨b,14,none⟩=some (.int .i64 k.toK)
 zk:w.cell? ⟨b,15,none⟩=some (.bool k.qx)
theorem rn.of{w:World}{b:Nat}{T:TypeId}{k:mT}{st:Value}(h:Row w b T (nA k st)):rn w b k st:=
 ⟨h.at rfl,h.at rfl,h.at rfl,h.at rfl,h.at rfl,h.at rfl,h.at rfl,h.at rfl,h.at rfl,h.at rfl,h.at rfl,h.at rfl,h.at rfl,h.at rfl,h.at rfl,h.at rfl⟩
theorem rn.Rp{w:World}{b:Nat}{T:TypeId}{k:Kl}(h:Row w b T (oz k)):rn w b k.1 (.slice k.2.1 k.1.start.length k.2.2):=rn.of h
set_option maxHeartbeats 4000000 in
theorem IY(c:cZ)(k:Kl)(W:World)(hc:dV W c):Calls Tryz.prog 157 #[.agg (cD c).toArray, .agg (oz k).toArray] W λe w'=>e= .returned (.bool (oJ c.aE.length c.bQ k.1))/\Below W.heap.size W w':=by
 obtain⟨R,eR⟩:=x_ (λe w'=>e= .returned (.bool (oJ c.aE.length c.bQ k.1))/\Below W.heap.size W w':Ending->World->Prop)
 rw[<-eR];have j:Hid (∀w' v,v=oJ c.aE.length c.bQ k.1->Below W.heap.size W w'->R (.returned (.bool v)) w'):=h_ λw' v h z=>by rw[eR,h];exact⟨rfl,z⟩
 clear eR;obtain⟨O,x⟩:=x_ (cD c)
 obtain⟨ds,I⟩:=x_ (oz k)
 obtain⟨K,L,Z⟩:=tO W 27 34 O ds;have B:=λi w=>wP c i w
 have C:∀i w,Below W.heap.size W w->_:=λi w z=>Dp c i w (hc.below z (aL _))
 rw[<-x]at B⊢;simp only[<-x]at C;rw[<-I];generalize eW:(W.alloc (.cells O.toArray 27)).alloc (.cells ds.toArray 34)=W2 at*;have N:=h_ eW;have X:Hid (∀w',Below W2.heap.size W2 w'->rn w' (W.heap.size+1) k.1 (.slice k.2.1 k.1.start.length k.2.2)):=h_ λw' z=>rn.Rp (T:=34) (by rw[<-I];exact L.below z L.lt)
 have HM:Hid (∀w',Below W2.heap.size W2 w'->w'.rangeAt W.heap.size 0 O):=h_ λw' z=>(K.below z K.lt).rg
 have HI:=h_ (ig O (by rw[x];rfl));have s:=h_ Z;obtain⟨RB,H⟩:=x_ (ja c.aE.length k.1.role)
 obtain⟨NB,G⟩:=x_ (lz c.bQ k.1.act)
 have Q:=h_ (B k.1.role);have S:=h_ (λw z=>C k.1.act w z);rw[<-H]at Q;rw[<-G]at S;have t:Hid (oJ c.aE.length c.bQ k.1=(if k.1.kind==4 then(k.1.role== -1)&&((k.1.eQ==1)&&((k.1.cY==0)&& !k.1.fin))
  else if !RB||NB then false
  else if k.1.kind==1 then decide (1<=k.1.eQ)&&(decide (k.1.eQ<=9)&&(decide (0<=k.1.cY)&&decide (k.1.cY<=400)))
  else if k.1.kind==2 then(k.1.eQ==1)&&(k.1.cY==0)
  else if k.1.kind==3 then(k.1.eQ==1)&&((k.1.cY==0)&& !k.1.fin)
  else false)):=h_ (by unfold oJ;rw[H,G])
 obtain⟨q0,q1,q2,q3,q4,q5,q6,q7,q8,q9,zi,xH,xI,zj,zW,zk⟩:=X.out W2 (Below.refl _ _);have V:=h_ (HM.out W2 (Below.refl _ _));obtain⟨⟨kind,m,co,b,start,after,d,PH,q,fh,an,num,dl,ci,bi,qx⟩,kA,kc⟩:=k;simp only at q0 q1 q2 q3 q6 q8 t j Q S X;clear x I K L Z B C eW H G q4 q5 q7 q9 zi xH xI zj zW zk hc;by_cases h4:kind=4
 ·have Y:(kind==4)=true:=by simpa using h4
  have g:Hid (∀v,v=((m== -1)&&((b==1)&&((d==0)&& !q)))->R (.returned (.bool v)) W2):=h_ λv h=>j.out W2 v (by rw[t.out,Y,h];rfl) s.out
  clear j t h4 Q S;by_cases y:m= -1
  ·have u:(m== -1)=true:=by simpa using y
   by_cases l:b=1
   ·have A:(b==1)=true:=by simpa using l
    by_cases n:d=0
    ·have E:(d==0)=true:=by simpa using n
     have a:=h_ (g.out (!q) (by rw[u,A,E];rfl));clear y l n g;go_enter Tryz.func157,Tryz.ntmps157;go_wp2_with (simp only[N.out])
     exact a.out
    ·have E:(d==0)=false:=by simpa using n
     have a:=h_ (g.out false (by rw[E];simp));clear y l n g;go_enter Tryz.func157,Tryz.ntmps157;go_wp2_with (simp only[N.out])
     exact a.out
   ·have A:(b==1)=false:=by simpa using l
    have a:=h_ (g.out false (by rw[A];simp));clear y l g;go_enter Tryz.func157,Tryz.ntmps157;go_wp2_with (simp only[N.out])
    exact a.out
  ·have u:(m== -1)=false:=by simpa using y
   have a:=h_ (g.out false (by rw[u];simp));clear y g;go_enter Tryz.func157,Tryz.ntmps157;go_wp2_with (simp only[N.out])
   exact a.out
 have Y:(kind==4)=false:=by simpa using h4
 clear h4;go_enter Tryz.func157,Tryz.ntmps157;go_wp2_with (first
  |(simp only[N.out])
  |(refine aH (.tmp 2) ?_;refine Row.still (Free.wq rfl) (Hk.aU 27 (.tmp 2) rfl W.heap.size 0 rfl O _ V.out Tryz.underlying27 rfl HI.out) ?_;simp only[Pt]))
 refine(Q.out _).mono ?_;rintro e w3 ⟨rfl,r⟩;obtain⟨q0,q1,q2,q3,q4,q5,q6,q7,q8,q9,zi,xH,xI,zj,zW,zk⟩:=X.out w3 r;have U:=h_ (HM.out w3 r);have p:=h_ (s.out.trans (r.mono s.out.size));have o:=h_ r;clear r Q V q4 q5 q7 q9 zi xH xI zj zW zk;cases RB with
 |false=>have g:=h_ (j.out w3 false (by rw[t.out,Y];rfl) p.out);clear j t;go_wp2_with fail;exact g.out
 |true=>
 go_wp2_with (refine aH (.tmp 2) ?_;refine Row.still (Free.wq rfl) (Hk.aU 27 (.tmp 2) rfl W.heap.size 0 rfl O _ U.out Tryz.underlying27 rfl HI.out) ?_;simp only[Pt])
 refine(S.out w3 p.out).mono ?_;rintro e M ⟨rfl,J⟩;obtain⟨q0,q1,q2,q3,q4,q5,q6,q7,q8,q9,zi,xH,xI,zj,zW,zk⟩:=X.out M (o.out.trans (J.mono o.out.size));have D:=h_ (p.out.trans (J.mono p.out.size));clear J S U q1 q2 q4 q5 q7 q9 zi xH xI zj zW zk;cases NB with
 |true=>have g:=h_ (j.out M false (by rw[t.out,Y];rfl) D.out);clear j t;go_wp2_with fail;exact g.out
 |false=>
 have g:Hid (∀v,v=(if kind==1 then decide (1<=b)&&(decide (b<=9)&&(decide (0<=d)&&decide (d<=400)))
  else if kind==2 then(b==1)&&(d==0)else if kind==3 then(b==1)&&((d==0)&& !q)else false)->R (.returned (.bool v)) M):=h_ λv h=>j.out M v (by rw[t.out,Y,h];rfl) D.out
 clear j t p D o s HM X N HI;by_cases P:kind=1
 ·have u:(kind==1)=true:=by simpa using P
  have a:Hid (∀v,v=(decide (1<=b)&&(decide (b<=9)&&(decide (0<=d)&&decide (d<=400))))->R (.returned (.bool v)) M):=h_ λv h=>g.out v (by rw[u,h];rfl)
  clear P g;by_cases y:1<=b;rotate_left
  ·have d1:decide (1<=b)=false:=dy y;have f:=h_ (a.out false (by rw[d1];rfl));clear a;go_wp2_with fail;exact f.out
  have d1:decide (1<=b)=true:=dt y;by_cases l:b<=9;rotate_left
  ·have d2:decide (b<=9)=false:=dy l;have f:=h_ (a.out false (by rw[d2];simp));clear a;go_wp2_with fail;exact f.out
  have d2:decide (b<=9)=true:=dt l;by_cases n:0<=d;rotate_left
  ·have d3:decide (0<=d)=false:=dy n;have f:=h_ (a.out false (by rw[d3];simp));clear a;go_wp2_with fail;exact f.out
  have d3:decide (0<=d)=true:=dt n;have f:=h_ (a.out (decide (d<=400)) (by rw[d1,d2,d3];rfl));clear a;by_cases h5:d<=400
  ·have d5:decide (d<=400)=true:=dt h5;rw[d5]at f;go_wp2_with fail;exact f.out
  ·have d5:decide (d<=400)=false:=dy h5;rw[d5]at f;go_wp2_with fail;exact f.out
 have u:(kind==1)=false:=by simpa using P
 by_cases k2:kind=2
 ·have A:(kind==2)=true:=by simpa using k2
  have a:Hid (∀v,v=((b==1)&&(d==0))->R (.returned (.bool v)) M):=h_ λv h=>g.out v (by rw[u,A,h];rfl)
  clear P k2 g;by_cases l:b=1
  ·have F:(b==1)=true:=by simpa using l
   have f:=h_ (a.out (d==0) (by rw[F];rfl));clear a l;go_wp2_with fail;exact f.out
  ·have F:(b==1)=false:=by simpa using l
   have f:=h_ (a.out false (by rw[F];rfl));clear a l;go_wp2_with fail;exact f.out
 have A:(kind==2)=false:=by simpa using k2
 by_cases k3:kind=3
 ·have E:(kind==3)=true:=by simpa using k3
  have a:Hid (∀v,v=((b==1)&&((d==0)&& !q))->R (.returned (.bool v)) M):=h_ λv h=>g.out v (by rw[u,A,E,h];rfl)
  clear P k2 k3 g;by_cases l:b=1
  ·have F:(b==1)=true:=by simpa using l
   by_cases n:d=0
   ·have c3:(d==0)=true:=by simpa using n
    have f:=h_ (a.out (!q) (by rw[F,c3];rfl));clear a l n;go_wp2_with fail;exact f.out
   ·have c3:(d==0)=false:=by simpa using n
    have f:=h_ (a.out false (by rw[c3];simp));clear a l n;go_wp2_with fail;exact f.out
  ·have F:(b==1)=false:=by simpa using l
   have f:=h_ (a.out false (by rw[F];rfl));clear a l;go_wp2_with fail;exact f.out
 ·have E:(kind==3)=false:=by simpa using k3
  have f:=h_ (g.out false (by rw[u,A,E];rfl));clear P k2 k3 g;go_wp2_with fail;exact f.out
end Go.Proofs.YtkmbmfengcdmoaaGreatDoor
