/- Package contract: Valid. Condition: the contract lies in memory. -/
import Derived.Test.YtkmbmfengcdmoaaGreatDoorZAO
set_option maxRecDepth 100000
set_option linter.all false
namespace Go.Cv
open Go Go.Cs
def sn(C:Nat)(i:Nat)(s:Int×Int):Bool:=(decide (0<=s.1)&&decide (s.1<(C:Int)))&&(!(s.1==(i:Int))&&(decide (1<=s.2)&&decide (s.2<=4)))
def mc(acs:List zY)(k:mT):Bool:=if(k.fh != -1)||(k.resume != -1)then !(k.fh==k.resume)&&(lz acs k.fh&&lz acs k.resume)else true
def wO(us:List Un)(i:Int):Bool:=match us[i.toNat]? with|some u=>u.kind==2|none=>false
def jy(H:Nat)(us:List Un)(k:mT):Bool:=
 if k.unit== -1 then wX k.num k.den&&(k.toK== -1)
 else((k.kind==1)||(k.kind==2))&&(decide (0<=k.unit)&&(decide (k.unit<(us.length:Int))&&(wO us k.unit&&(rB k.num k.den&&ja H k.toK))))
def fW(c:NV)(i:Nat)(k:mT):Bool:=
 (decide (0<=k.act)&&(decide (k.act<(c.bQ.length:Int))&&(decide (1<=k.after)&&decide (k.after<=400))))&&((oJ c.aE.length c.bQ k&&decide (k.start.length<=8))&&(k.start.all (sn c.cls.length i)&&(mc c.bQ k&&jy c.aE.length c.bP k)))
end Go.Cv
namespace Go.Proofs.YtkmbmfengcdmoaaGreatDoor
open Go.RowKit Go.W32 Go.ay Go.Cs Go.Lib Go.Opn Go.Mg Go.Cv

theorem IS(cs:List Value)(h:cs.length=16):(Tryz.prog.info? 34).map (·.size)=some cs.length:=by rw[h];kernel_rfl
theorem Dd(cs:List Value)(h:cs.length=2):(Tryz.prog.info? 214).map (·.size)=some cs.length:=by rw[h];kernel_rfl
theorem MR{cs:List Value}(c:cs.length=16)(f:∀v∈cs,v.oneCell'=true)(s t:Nat)(e h:World)(b:Nat)(k:b=e.heap.size)(j:h=e.alloc (.cells cs.toArray 34))(Q:Exit->Act->World->Prop)(ops:Array Oper)(rest:List Oper)(o:Oper)(a:Act)(g:o.guard=none)(l:o.op= .store 34 (.tmp s) (.tmp t))(m:a.eval (.tmp s)= .pointer (some ⟨b,0,none⟩))(n:a.eval (.tmp t)= .agg cs.toArray)(ju:Array Value)(d:ju.size=16)(i:wpList Tryz.prog ops Q rest (a.put o.dst undef) h):wpList Tryz.prog ops Q (o::rest) a (e.alloc (.cells ju 34)):=by rw[j]at i;exact Hk.aD g 34 (.tmp s) (.tmp t) l b _ m n ju 34 k (by rw[IS cs c];simp) (by rw[d];simp[c]) (all_oneCell_toArray f) i
theorem Ke{cs:List Value}(c:cs.length=2)(f:∀v∈cs,v.oneCell'=true)(s t:Nat)(e h:World)(b:Nat)(k:b=e.heap.size)(j:h=e.alloc (.cells cs.toArray 214))(Q:Exit->Act->World->Prop)(ops:Array Oper)(rest:List Oper)(o:Oper)(a:Act)(g:o.guard=none)(l:o.op= .store 214 (.tmp s) (.tmp t))(m:a.eval (.tmp s)= .pointer (some ⟨b,0,none⟩))(n:a.eval (.tmp t)= .agg cs.toArray)(ju:Array Value)(d:ju.size=2)(i:wpList Tryz.prog ops Q rest (a.put o.dst undef) h):wpList Tryz.prog ops Q (o::rest) a (e.alloc (.cells ju 214)):=by rw[j]at i;exact Hk.aD g 214 (.tmp s) (.tmp t) l b _ m n ju 214 k (by rw[Dd cs c];simp) (by rw[d];simp[c]) (all_oneCell_toArray f) i
theorem Et(k:Kl):∀v∈oz k,v.oneCell'=true:=sy _ _ rfl
theorem Er(s:Int×Int):∀v∈fX s,v.oneCell'=true:=λv hv=>by
 simp only[fX,lC,DR,DW]at hv;rcases hv with rfl|rfl<;>rfl
theorem rn.rg{w:World}{b:Nat}{k:mT}{st:Value}(h:rn w b k st):w.rangeAt b 11 [.int .i64 k.num, .int .i64 k.den]:=by
 intro j v a
 match j,a with
 |0,a=>cases a;exact h.xH
 |1,a=>cases a;exact h.xI
 |j+2,a=>simp at a
set_option maxHeartbeats 8000000 in
theorem Aj(c:cZ)(i:Nat)(k:Kl)(W:World)(hc:dV W c)(hl:rW c)(hk:c.iH[i]? =some k)(ww:k.1.start.length<=9223372036854775807):Calls Tryz.prog 99 #[.agg (cD c).toArray, .int .i64 (i:Int)] W λe w'=>e= .returned (.bool (fW c.iU i k.1))/\Below W.heap.size W w':=by
 obtain⟨R,eR⟩:=x_ (λe w'=>e= .returned (.bool (fW c.iU i k.1))/\Below W.heap.size W w':Ending->World->Prop)
 rw[<-eR];have a:Hid (∀w' v,v=fW c.iU i k.1->Below W.heap.size W w'->R (.returned (.bool v)) w'):=h_ λw' v h t=>by rw[eR,h];exact⟨rfl,t⟩
 clear eR;have z:Hid (fW c.iU i k.1=((decide (0<=k.1.act)&&(decide (k.1.act<(c.bQ.length:Int))&&(decide (1<=k.1.after)&&decide (k.1.after<=400))))&&((oJ c.aE.length c.bQ k.1&&decide (k.1.start.length<=8))&&(k.1.start.all (sn c.iH.length i)&&(mc c.bQ k.1&&jy c.aE.length c.bP k.1))))):=h_ (by unfold fW cZ.iU;simp only[rm]);obtain⟨H,cs,J⟩:=uh W c;have wn:i<c.iH.length:=(jS.1 hk).1;have Fs:(i:Int)<(c.iH.length:Int):=by omega
 have Fr:(0:Int)<=(i:Int):=by omega
 have gt:=hc.k.below J.below (aL _);obtain⟨kb,ko,eK⟩:=cG gt (by intro e;rw[e]at wn;simp at wn);rw[eK]at gt;obtain⟨Y,an⟩:=x_ (oz k)
 have m8:Y.length=16:=by rw[an];rfl
 have P:Hid (H.rangeAt kb (ko+i*16) Y):=h_ (by rw[an];exact dq gt hk);have N:=h_ (IS Y m8);obtain⟨q,e2⟩:=x_ (H.alloc (.cells Y.toArray 34))
 have no:Row q H.heap.size 34 Y:=by rw[e2];exact Row.new _ _ _
 have m7:Below H.heap.size H q:=by rw[e2];exact(Below.refl _ _).alloc (aL _) _
 have S:=h_ (MR m8 (by rw[an];exact Et k) 5 12 H q _ rfl e2);have l:=J.below.trans (m7.mono J.below.size);have nl:=J.row.below m7 J.row.lt;have m:Hid (∀w',Below q.heap.size q w'->jK w' W.heap.size c/\w'.rangeAt W.heap.size 0 cs/\dV w' c/\rn w' H.heap.size k.1 (.slice k.2.1 k.1.start.length k.2.2)/\w'.rangeAt H.heap.size 0 Y/\Below W.heap.size W w'):=h_ λw' t=>by
  have h1:=nl.below t nl.lt;have h2:=no.below t no.lt;exact⟨jK.of (T:=27) (by rw[<-J.cs];exact h1),h1.rg,hc.below (l.trans (t.mono l.size)) (aL _),rn.Rp (T:=34) (by rw[<-an];exact h2),h2.rg,l.trans (t.mono l.size)⟩
 obtain⟨k0,k1,k2,k3,k4,k5,k6⟩:=jK.of (T:=27) (b:=W.heap.size) (w:=H) (c:=c) (by rw[<-J.cs];exact J.row);obtain⟨_,_,_,⟨q0,q1,q2,q3,q4,q5,q6,q7,q8,q9,zi,xH,xI,zj,zW,zk⟩,_,_⟩:=m.out q (Below.refl _ _);obtain⟨⟨_,_,_,C',_,_,_⟩,_⟩:=m.out q (Below.refl _ _);have pi:∀w',Below q.heap.size q w'->Calls Tryz.prog 157 #[.agg cs.toArray, .agg Y.toArray] w' λe d9=>e= .returned (.bool (oJ c.aE.length c.bQ k.1))/\Below w'.heap.size w' d9:=λw' t=>by
  rw[J.cs,an];exact IY c k w' (m.out w' t).2.2.1
 have CN:Hid (∀j w',Below q.heap.size q w'->Calls Tryz.prog 158 #[.agg cs.toArray, .int .i64 j] w' λe d9=>e= .returned (.bool (lz c.bQ j))/\Below w'.heap.size w' d9):=h_ λj w' t=>by
  rw[J.cs];exact Dp c j w' (m.out w' t).2.2.1
 have CM:Hid (∀j w',Calls Tryz.prog 161 #[.agg cs.toArray, .int .i64 j] w' λe d9=>e= .returned (.bool (ja c.aE.length j))/\Below w'.heap.size w' d9):=h_ λj w'=>by
  rw[J.cs];exact wP c j w'
 have qr:Hid (∀w',Below q.heap.size q w'->SL w' 2 fX k.2.1 k.1.start):=h_ λw' t=>(m.out w' t).2.2.1.st k (ue hk)
 have E1:=h_ J.e;have f8:=h_ l;have HI:=h_ (ig cs (by rw[J.cs];rfl));have CK:=h_ pi;have Fd:=h_ hl;have Fk:=h_ ww;rw[eK]at k4;rw[<-J.cs];clear J gt an m8 e2 no m7 l nl k0 k1 k2 k3 k5 k6 q0 q1 q3 q4 q6 q7 q8 q9 zi xH xI zj zW zk pi hl ww;by_cases h1:0<=k.1.act;rotate_left
 ·have d1:decide (0<=k.1.act)=false:=dy h1;have y:=h_ (a.out q false (by rw[z.out];simp[d1]) f8.out);clear a z;go_enter Tryz.func99,Tryz.ntmps99;go_wp2_with (first
   |(simp only[E1.out])
   |(refine aH (.tmp 11) ?_;refine wpList_load_mid rfl 34 (.tmp 11) rfl kb (ko+i*16) rfl Y _ P.out Tryz.underlying34 rfl N.out ?_)
   |(refine aN (.tmp 5) ?_;refine S.out _ _ _ _ _ rfl rfl rfl rfl _ (by simp) ?_;simp only[Pt]))
  exact y.out
 have d1:decide (0<=k.1.act)=true:=dt h1;by_cases h2:k.1.act<(c.bQ.length:Int);rotate_left
 ·have d2:decide (k.1.act<(c.bQ.length:Int))=false:=dy h2;have y:=h_ (a.out q false (by rw[z.out];simp[d2]) f8.out);clear a z;go_enter Tryz.func99,Tryz.ntmps99;go_wp2_with (first
   |(simp only[E1.out])
   |(refine aH (.tmp 11) ?_;refine wpList_load_mid rfl 34 (.tmp 11) rfl kb (ko+i*16) rfl Y _ P.out Tryz.underlying34 rfl N.out ?_)
   |(refine aN (.tmp 5) ?_;refine S.out _ _ _ _ _ rfl rfl rfl rfl _ (by simp) ?_;simp only[Pt]))
  exact y.out
 have d2:decide (k.1.act<(c.bQ.length:Int))=true:=dt h2;by_cases h3:1<=k.1.after;rotate_left
 ·have d3:decide (1<=k.1.after)=false:=dy h3;have y:=h_ (a.out q false (by rw[z.out];simp[d3]) f8.out);clear a z;go_enter Tryz.func99,Tryz.ntmps99;go_wp2_with (first
   |(simp only[E1.out])
   |(refine aH (.tmp 11) ?_;refine wpList_load_mid rfl 34 (.tmp 11) rfl kb (ko+i*16) rfl Y _ P.out Tryz.underlying34 rfl N.out ?_)
   |(refine aN (.tmp 5) ?_;refine S.out _ _ _ _ _ rfl rfl rfl rfl _ (by simp) ?_;simp only[Pt]))
  exact y.out
 have d3:decide (1<=k.1.after)=true:=dt h3;by_cases h4:k.1.after<=400;rotate_left
 ·have d4:decide (k.1.after<=400)=false:=dy h4;have y:=h_ (a.out q false (by rw[z.out];simp[d4]) f8.out);clear a z;go_enter Tryz.func99,Tryz.ntmps99;go_wp2_with (first
   |(simp only[E1.out])
   |(refine aH (.tmp 11) ?_;refine wpList_load_mid rfl 34 (.tmp 11) rfl kb (ko+i*16) rfl Y _ P.out Tryz.underlying34 rfl N.out ?_)
   |(refine aN (.tmp 5) ?_;refine S.out _ _ _ _ _ rfl rfl rfl rfl _ (by simp) ?_;simp only[Pt]))
  exact y.out
 have d4:decide (k.1.after<=400)=true:=dt h4;have ii:=h_ (m.out q (Below.refl _ _)).2.1;have g8:=h_ (m.out q (Below.refl _ _)).2.2.2.2.1;have ip:=h_ (CK.out q (Below.refl _ _));obtain⟨KB,lw⟩:=x_ (oJ c.aE.length c.bQ k.1)
 rw[<-lw]at ip;have V:Hid (fW c.iU i k.1=((KB&&decide (k.1.start.length<=8))&&(k.1.start.all (sn c.iH.length i)&&(mc c.bQ k.1&&jy c.aE.length c.bP k.1)))):=h_ (by rw[z.out,d1,d2,d3,d4,lw];rfl);clear z d1 d2 d3 d4 lw CK;go_enter Tryz.func99,Tryz.ntmps99;go_wp2_with (first
  |(simp only[E1.out])
  |(refine aH (.tmp 11) ?_;refine wpList_load_mid rfl 34 (.tmp 11) rfl kb (ko+i*16) rfl Y _ P.out Tryz.underlying34 rfl N.out ?_)
  |(refine aN (.tmp 5) ?_;refine S.out _ _ _ _ _ rfl rfl rfl rfl _ (by simp) ?_;simp only[Pt])
  |(refine aH (.tmp 2) ?_;refine wpList_load_mid rfl 27 (.tmp 2) rfl W.heap.size 0 rfl cs _ ii.out Tryz.underlying27 rfl HI.out ?_)
  |(refine aH (.tmp 5) ?_;refine wpList_load_mid rfl 34 (.tmp 5) rfl H.heap.size 0 rfl Y _ g8.out Tryz.underlying34 rfl N.out ?_))
 refine ip.out.mono ?_;rintro e w3 ⟨rfl,I⟩;have f9:=h_ I;obtain⟨_,_,_,⟨q0,q1,q2,q3,q4,q5,q6,q7,q8,q9,zi,xH,xI,zj,zW,zk⟩,_,_⟩:=m.out w3 I;clear I ip ii g8 S P C' k4 q0 q1 q2 q3 q5 q6 q7 q8 q9 zi xH xI zj zW zk h1 h2 h3 h4;cases KB with
 |false=>have y:=h_ (a.out w3 false (by rw[V.out];rfl) (m.out w3 f9.out).2.2.2.2.2);clear a V;go_wp2_with fail;exact y.out
 |true=>
 by_cases h5:k.1.start.length<=8;rotate_left
 ·have d5:decide ((8:Int)<(k.1.start.length:Int))=true:=dt (by omega);have y:=h_ (a.out w3 false (by rw[V.out,dy h5];rfl) (m.out w3 f9.out).2.2.2.2.2);clear a V;go_wp2_with fail;exact y.out
 have d5:decide ((8:Int)<(k.1.start.length:Int))=false:=dy (by omega);have Fl: ¬(8:Int)<(k.1.start.length:Int):=by omega
 have o:Hid (fW c.iU i k.1=(k.1.start.all (sn c.iH.length i)&&(mc c.bQ k.1&&jy c.aE.length c.bP k.1))):=h_ (by rw[V.out,dt h5];rfl);clear V;go_wp2_with fail;clear q4
 go_loopw [47] (λv wr=> ∃j:Nat,v= .int .i64 (j:Int)/\j<=k.1.start.length/\Hid ((k.1.start.take j).all (sn c.iH.length i)=true)/\Below q.heap.size q wr) (λv _=>(k.1.start.length:Int).toNat- (RowKit.intOf v).toNat)
 case atStart=>exact⟨0,rfl,gu _,h_ rfl,f9.out⟩
 case round=>
  obtain⟨j,rfl,hj,m6,l⟩:=hrel;have Fw:(j:Int)<=8:=by omega
  rcases pC hj with ci|ci
  ·have By:(j:Int)<(k.1.start.length:Int):=by omega
   obtain⟨s,m5⟩:∃x,k.1.start[j]? =some x:=⟨_,eH ci⟩
   have hS:=qr.out wr l;obtain⟨sb,so,eS⟩:=cG hS (by intro e;rw[e]at ci;simp at ci);rw[eS]at hS⊢;obtain⟨es,bi⟩:=x_ (fX s)
   have m9:es.length=2:=by rw[bi];rfl
   have Q:Hid (wr.rangeAt sb (so+j*2) es):=h_ (by rw[bi];exact dq hS m5);have O:=h_ (Dd es m9);obtain⟨L,ek⟩:=x_ (wr.alloc (.cells es.toArray 214))
   have n8:Row L wr.heap.size 214 es:=by rw[ek];exact Row.new _ _ _
   have ut:Below wr.heap.size wr L:=by rw[ek];exact(Below.refl _ _).alloc (aL _) _
   have U:=h_ (Ke m9 (by rw[bi];exact Er s) 7 50 wr L _ rfl ek);have D:=h_ (l.trans (ut.mono l.size));have s0:=n8.at (show es[0]? =some (.int .i64 s.1) by rw[bi];rfl);have s1:=n8.at (show es[1]? =some (.int .i64 s.2) by rw[bi];rfl);obtain⟨⟨_,_,_,_,k4,_,_⟩,_⟩:=m.out L D.out;have E:Hid (sn c.iH.length i s=((decide (0<=s.1)&&decide (s.1<(c.iH.length:Int)))&&(!(s.1==(i:Int))&&(decide (1<=s.2)&&decide (s.2<=4))))):=h_ rfl;have ES:=h_ m5;clear bi m9 ek n8 ut m5 hS eS l hj;by_cases c1:0<=s.1;rotate_left
   ·have x1:decide (0<=s.1)=false:=dy c1;have Do:decide (s.1<0)=true:=dt (by omega);have y:=h_ (a.out L false (by rw[o.out,il ES.out (by rw[E.out];simp[x1])];rfl) (m.out L D.out).2.2.2.2.2);clear a o;go_wp2_with (first
     |(refine aH (.tmp 49) ?_;refine wpList_load_mid rfl 214 (.tmp 49) rfl sb (so+j*2) rfl es _ Q.out Tryz.underlying214 rfl O.out ?_)
     |(refine aN (.tmp 7) ?_;refine U.out _ _ _ _ _ rfl rfl rfl rfl _ (by simp) ?_;simp only[Pt]))
    exact y.out
   have x1:decide (0<=s.1)=true:=dt c1;have Do:decide (s.1<0)=false:=dy (by omega);by_cases c2:s.1<(c.iH.length:Int);rotate_left
   ·have x2:decide (s.1<(c.iH.length:Int))=false:=dy c2;have D':decide ((c.iH.length:Int)<=s.1)=true:=dt (by omega);have y:=h_ (a.out L false (by rw[o.out,il ES.out (by rw[E.out];simp[x2])];rfl) (m.out L D.out).2.2.2.2.2);clear a o;go_wp2_with (first
     |(refine aH (.tmp 49) ?_;refine wpList_load_mid rfl 214 (.tmp 49) rfl sb (so+j*2) rfl es _ Q.out Tryz.underlying214 rfl O.out ?_)
     |(refine aN (.tmp 7) ?_;refine U.out _ _ _ _ _ rfl rfl rfl rfl _ (by simp) ?_;simp only[Pt]))
    exact y.out
   have x2:decide (s.1<(c.iH.length:Int))=true:=dt c2;have D':decide ((c.iH.length:Int)<=s.1)=false:=dy (by omega);by_cases c3:s.1=(i:Int)
   ·have x3:(s.1==(i:Int))=true:=by simpa using c3
    have y:=h_ (a.out L false (by rw[o.out,il ES.out (by rw[E.out,x3];simp)];rfl) (m.out L D.out).2.2.2.2.2);clear a o c3;go_wp2_with (first
     |(refine aH (.tmp 49) ?_;refine wpList_load_mid rfl 214 (.tmp 49) rfl sb (so+j*2) rfl es _ Q.out Tryz.underlying214 rfl O.out ?_)
     |(refine aN (.tmp 7) ?_;refine U.out _ _ _ _ _ rfl rfl rfl rfl _ (by simp) ?_;simp only[Pt]))
    exact y.out
   have x3:(s.1==(i:Int))=false:=by simpa using c3
   by_cases c4:1<=s.2;rotate_left
   ·have x4:decide (1<=s.2)=false:=dy c4;have E8:decide (s.2<1)=true:=dt (by omega);have y:=h_ (a.out L false (by rw[o.out,il ES.out (by rw[E.out];simp[x4])];rfl) (m.out L D.out).2.2.2.2.2);clear a o;go_wp2_with (first
     |(refine aH (.tmp 49) ?_;refine wpList_load_mid rfl 214 (.tmp 49) rfl sb (so+j*2) rfl es _ Q.out Tryz.underlying214 rfl O.out ?_)
     |(refine aN (.tmp 7) ?_;refine U.out _ _ _ _ _ rfl rfl rfl rfl _ (by simp) ?_;simp only[Pt]))
    exact y.out
   have x4:decide (1<=s.2)=true:=dt c4;have E8:decide (s.2<1)=false:=dy (by omega);by_cases c5:s.2<=4;rotate_left
   ·have x5:decide (s.2<=4)=false:=dy c5;have E9:decide (4<s.2)=true:=dt (by omega);have y:=h_ (a.out L false (by rw[o.out,il ES.out (by rw[E.out];simp[x5])];rfl) (m.out L D.out).2.2.2.2.2);clear a o;go_wp2_with (first
     |(refine aH (.tmp 49) ?_;refine wpList_load_mid rfl 214 (.tmp 49) rfl sb (so+j*2) rfl es _ Q.out Tryz.underlying214 rfl O.out ?_)
     |(refine aN (.tmp 7) ?_;refine U.out _ _ _ _ _ rfl rfl rfl rfl _ (by simp) ?_;simp only[Pt]))
    exact y.out
   have x5:decide (s.2<=4)=true:=dt c5;have E9:decide (4<s.2)=false:=dy (by omega);have z':Hid ((k.1.start.take (j+1)).all (sn c.iH.length i)=true):=h_ (lI ES.out m6.out (by rw[E.out,x1,x2,x3,x4,x5];rfl));clear c3 E;go_wp2_with (first
    |(refine aH (.tmp 49) ?_;refine wpList_load_mid rfl 214 (.tmp 49) rfl sb (so+j*2) rfl es _ Q.out Tryz.underlying214 rfl O.out ?_)
    |(refine aN (.tmp 7) ?_;refine U.out _ _ _ _ _ rfl rfl rfl rfl _ (by simp) ?_;simp only[Pt]))
   go_roundw
   case rel=>exact⟨j+1,rfl,ci,z',D.out⟩
   case measure=>simp[RowKit.intOf];omega
  ·have By: ¬(j:Int)<(k.1.start.length:Int):=by omega
   have G:Hid (fW c.iU i k.1=(mc c.bQ k.1&&jy c.aE.length c.bP k.1)):=h_ (by
    have:=m6.out;rw[np (by omega)]at this;rw[o.out,this];rfl)
   have B:=h_ l;obtain⟨_,_,_,⟨q0,q1,q2,q3,q4,q5,q6,q7,q8,q9,zi,xH,xI,zj,zW,zk⟩,_,_⟩:=m.out wr l;clear o m6 l hj ci f9 q0 q1 q2 q3 q4 q5 q6 q7 q8 xH zW zk;have K:Hid (mc c.bQ k.1=(if(k.1.fh != -1)||(k.1.resume != -1)then !(k.1.fh==k.1.resume)&&(lz c.bQ k.1.fh&&lz c.bQ k.1.resume)else true)):=h_ rfl;clear xI zj;have pp:((k.1.fh== -1)=true/\(k.1.fh != -1)=false/\(k.1.resume== -1)=true/\(k.1.resume != -1)=false)\/((k.1.fh== -1)=true/\(k.1.fh != -1)=false/\(k.1.resume== -1)=false/\(k.1.resume != -1)=true)\/((k.1.fh== -1)=false/\(k.1.fh != -1)=true):=by by_cases p1:k.1.fh= -1<;>by_cases p2:k.1.resume= -1<;>simp[p1,p2]
   rcases pp with⟨m1,g7,m2,ol⟩|⟨m1,g7,m2,ol⟩|⟨m1,g7⟩
   rotate_left;iterate 2
    have li:Hid (mc c.bQ k.1=(!(k.1.fh==k.1.resume)&&(lz c.bQ k.1.fh&&lz c.bQ k.1.resume))):=h_ (by rw[K.out,g7];first|rfl|(rw[ol];rfl));clear K;by_cases pr:k.1.fh=k.1.resume
    ·have b1:(k.1.fh==k.1.resume)=true:=by simpa using pr
     have d:=h_ (a.out wr false (by rw[G.out,li.out,b1];rfl) (m.out wr B.out).2.2.2.2.2);clear a pr;go_wp2_with fail;exact d.out
    have b1:(k.1.fh==k.1.resume)=false:=by simpa using pr
    obtain⟨P1,mt⟩:=x_ (lz c.bQ k.1.fh)
    obtain⟨P2,m4⟩:=x_ (lz c.bQ k.1.resume)
    have ge:Hid (mc c.bQ k.1=(P1&&P2)):=h_ (by rw[li.out,b1,mt,m4];rfl);have i9:=h_ (CN.out k.1.fh wr B.out);rw[<-mt]at i9;have F:=h_ (m.out wr B.out).2.1;clear pr li mt;focus go_wp2_with (refine aH (.tmp 2) ?_;refine Row.still (Free.wq rfl) (Hk.aU 27 (.tmp 2) rfl W.heap.size 0 rfl cs _ F.out Tryz.underlying27 rfl HI.out) ?_;simp only[Pt])
    refine i9.out.mono ?_;rintro e w5 ⟨rfl,sm⟩;have M:=h_ (B.out.trans (sm.mono B.out.size));clear sm i9 F q9 zi;cases P1
    ·have d:=h_ (a.out w5 false (by rw[G.out,ge.out];rfl) (m.out w5 M.out).2.2.2.2.2);clear a;go_wp2_with fail;exact d.out
    obtain⟨_,d7,_,⟨q0,q1,q2,q3,q4,q5,q6,q7,q8,q9,zi,xH,xI,zj,zW,zk⟩,_,_⟩:=m.out w5 M.out;have F:=h_ d7;have i':=h_ (CN.out k.1.resume w5 M.out);rw[<-m4]at i';clear d7 m4 q0 q1 q2 q3 q4 q5 q6 q7 q8 xH xI zj zW zk;focus go_wp2_with (refine aH (.tmp 2) ?_;refine Row.still (Free.wq rfl) (Hk.aU 27 (.tmp 2) rfl W.heap.size 0 rfl cs _ F.out Tryz.underlying27 rfl HI.out) ?_;simp only[Pt])
    refine i'.out.mono ?_;rintro e p ⟨rfl,v6⟩;have A:=h_ (M.out.trans (v6.mono M.out.size));clear v6 i' F q9 zi;cases P2
    ·have d:=h_ (a.out p false (by rw[G.out,ge.out];rfl) (m.out p A.out).2.2.2.2.2);clear a;go_wp2_with fail;exact d.out
    have lm:Hid (fW c.iU i k.1=jy c.aE.length c.bP k.1):=h_ (by rw[G.out,ge.out];rfl);clear G ge B M;rotate_left
   have lm:Hid (fW c.iU i k.1=jy c.aE.length c.bP k.1):=h_ (by rw[G.out,K.out,g7,ol];rfl);have A:=h_ B.out;clear G K B;generalize wr=p at*;all_goals
    obtain⟨⟨k0,k1,k2,k3,k4,k5,k6⟩,_,An,⟨q0,q1,q2,q3,q4,q5,q6,q7,q8,q9,zi,xH,xI,zj,zW,zk⟩,_,At⟩:=m.out p A.out;obtain⟨fs,dl⟩:=x_ ([.int .i64 k.1.num, .int .i64 k.1.den]:List Value)
    have HQ:Hid (∀w',Below p.heap.size p w'->rn w' H.heap.size k.1 (.slice k.2.1 k.1.start.length k.2.2)):=h_ λw' t=>(m.out w' (A.out.trans (t.mono A.out.size))).2.2.2.1
    have kw:Hid (∀w',Below p.heap.size p w'->w'.rangeAt H.heap.size 11 fs):=h_ λw' t=>by rw[dl];exact(HQ.out w' t).rg
    have ld:=h_ (rL fs (by rw[dl];rfl));have pm:Hid (Value.agg fs.toArray= .agg [.int .i64 k.1.num, .int .i64 k.1.den].toArray):=h_ (by rw[dl]);have pl:=h_ (λw=>Ds k.1.num k.1.den w);rw[show(#[.int .i64 k.1.num, .int .i64 k.1.den]:Array Value)=fs.toArray by rw[dl]]at pl;have C:Hid (∀w' v,v=jy c.aE.length c.bP k.1->Below p.heap.size p w'->R (.returned (.bool v)) w'):=h_ λw' v h t=>a.out w' v (by rw[lm.out];exact h) (m.out w' (A.out.trans (t.mono A.out.size))).2.2.2.2.2
    have X:Hid (jy c.aE.length c.bP k.1=(if k.1.unit== -1 then wX k.1.num k.1.den&&(k.1.toK== -1)else((k.1.kind==1)||(k.1.kind==2))&&(decide (0<=k.1.unit)&&(decide (k.1.unit<(c.bP.length:Int))&&(wO c.bP k.1.unit&&(rB k.1.num k.1.den&&ja c.aE.length k.1.toK)))))):=h_ rfl;clear a lm dl k0 k1 k3 k4 k5 k6 q1 q2 q3 q4 q5 q6 q7 q8 q9 zi xH xI zk At;by_cases u1:k.1.unit= -1
    ·have y1:(k.1.unit== -1)=true:=by simpa using u1
     obtain⟨Z,eZ⟩:=x_ (wX k.1.num k.1.den)
     have EZ:=h_ eZ;have ro:Hid (jy c.aE.length c.bP k.1=(Z&&(k.1.toK== -1))):=h_ (by rw[X.out,y1,eZ];rfl);clear u1 X eZ;cases Z with
     |false=>
      have HG:Hid (∀w',Below p.heap.size p w'->R (.returned (.bool false)) w'):=h_ λw' t=>C.out w' false (by rw[ro.out];rfl) t
      clear C;go_wp2_with fail;refine Free.ai 9 [(2, .det (.agg #[.int .i64 0, .int .i64 1]))] (λw'=>Below p.heap.size p w') (by kernel_rfl) (by kernel_rfl) (Free.aW (λj mk r hf=>by simp only[Free.find]at hf;repeat' (first|cases hf|split at hf))) (Below.refl _ _).drew (λ_ _ h g=>h.trans (Below.mono g h.size)) ?_;simp only[eJ,dT];iterate 9 (first|(apply Free.dw (by first|exact fk rfl rfl rfl rfl|exact mQ rfl rfl rfl);simp only[Pt])|(apply Free.ae (Free.wq rfl) rfl;(intro w' hB hA;exact Hk.aU 32 (.tmp 109) rfl H.heap.size 11 rfl fs _ (kw.out _ hB) Tryz.underlying32 rfl ld.out);simp only[Pt])|(apply Free.aC (Free.wq rfl) rfl;(intro w' hB hA;refine Free.au (f:=159) (args:= #[]) (by clear hB hA;go_simp<;>rfl) ?_;refine(sV _).mono ?_;rintro e w3 ⟨rfl,I⟩;exact⟨_,rfl,I,rfl⟩);simp only[Pt])|(apply Free.ae (Free.wq rfl) rfl;(intro w' hB hA;exact qb rfl pm.out rfl EZ.out);simp only[Pt])|(apply Free.ae (Free.wq rfl) rfl;(intro w' hB hA;cases HQ.out w' hB;clear hA;go_light;go_simp<;>rfl);(try simp only[Pt])))
      apply Free.ax;intro w6 d8 _ _;simp only[fm,fo];have d:=h_ (HG.out w6 d8);clear d8 HG;go_wp2_with fail;exact d.out
     |true=>
      have HG:Hid (∀w',Below p.heap.size p w'->R (.returned (.bool (k.1.toK== -1))) w'):=h_ λw' t=>C.out w' (k.1.toK== -1) (by rw[ro.out];rfl) t
      clear C;go_wp2_with fail;refine Free.ai 9 [(2, .det (.agg #[.int .i64 0, .int .i64 1]))] (λw'=>Below p.heap.size p w') (by kernel_rfl) (by kernel_rfl) (Free.aW (λj mk r hf=>by simp only[Free.find]at hf;repeat' (first|cases hf|split at hf))) (Below.refl _ _).drew (λ_ _ h g=>h.trans (Below.mono g h.size)) ?_;simp only[eJ,dT];iterate 9 (first|(apply Free.ae (Free.wq rfl) rfl;(intro w' hB hA;exact Hk.aU 32 (.tmp 109) rfl H.heap.size 11 rfl fs _ (kw.out _ hB) Tryz.underlying32 rfl ld.out);simp only[Pt])|(apply Free.aC (Free.wq rfl) rfl;(intro w' hB hA;refine Free.au (f:=159) (args:= #[]) (by clear hB hA;go_simp<;>rfl) ?_;refine(sV _).mono ?_;rintro e w3 ⟨rfl,I⟩;exact⟨_,rfl,I,rfl⟩);simp only[Pt])|(apply Free.ae (Free.wq rfl) rfl;(intro w' hB hA;exact qb rfl pm.out rfl EZ.out);simp only[Pt])|(apply Free.ae (Free.wq rfl) rfl;(intro w' hB hA;cases HQ.out w' hB;clear hA;go_light;go_simp<;>rfl);(try simp only[Pt])))
      apply Free.ax;intro w6 d8 _ _;simp only[fm,fo];have d:=h_ (HG.out w6 d8);clear d8 HG;go_wp2_with fail;exact d.out
    have y1:(k.1.unit== -1)=false:=by simpa using u1
    have E':(k.1.unit != -1)=true:=by simpa using u1
    clear u1;have kd:(k.1.kind==1)=true\/((k.1.kind==1)=false/\(k.1.kind==2)=true)\/((k.1.kind==1)=false/\(k.1.kind==2)=false):=by cases (k.1.kind==1)<;>cases (k.1.kind==2)<;>simp
    rcases kd with z1|⟨z1,z2⟩|⟨z1,z2⟩
    rotate_left 2
    ·skip
     have d:=h_ (C.out p false (by rw[X.out];simp[z1,z2,y1]) (Below.refl _ _));clear C;go_wp2_with fail;exact d.out
    all_goals
     have hz:((k.1.kind==1)||(k.1.kind==2))=true:=by first|(rw[z1];rfl)|(rw[z1,z2];rfl)
     by_cases u2:0<=k.1.unit;rotate_left
     ·have y2:decide (0<=k.1.unit)=false:=dy u2;have d:=h_ (C.out p false (by rw[X.out];simp[hz,y1,y2]) (Below.refl _ _));clear C;go_wp2_with fail;exact d.out
     have y2:decide (0<=k.1.unit)=true:=dt u2;by_cases u3:k.1.unit<(c.bP.length:Int);rotate_left
     ·have y3:decide (k.1.unit<(c.bP.length:Int))=false:=dy u3;have d:=h_ (C.out p false (by rw[X.out];simp[hz,y1,y3]) (Below.refl _ _));clear C;go_wp2_with fail;exact d.out
     have y3:decide (k.1.unit<(c.bP.length:Int))=true:=dt u3;obtain⟨n,hn⟩:∃n:Nat,k.1.unit=(n:Int):=⟨k.1.unit.toNat,by omega⟩
     obtain⟨un,d6⟩:∃x,c.bP[n]? =some x:=⟨_,eH (by omega)⟩
     have hU:=An.u;obtain⟨ub,uo,eU⟩:=cG hU (by intro e;rw[e]at d6;simp at d6);rw[eU]at hU k2;have Gb:(n:Int)<(c.bP.length:Int):=by omega
     have F':(0:Int)<=(n:Int):=by omega
     have cu:p.cell? ⟨ub,uo+n*5+1,none⟩=some (.int .i64 un.kind):=(dq hU d6) 1 _ rfl;have pu:Hid (wO c.bP k.1.unit=(un.kind==2)):=h_ (by unfold wO;rw[hn,tZ,d6]);rw[hn]at zj y2 y3 y1 E';have co:Hid (jy c.aE.length c.bP k.1=((un.kind==2)&&(rB k.1.num k.1.den&&ja c.aE.length k.1.toK))):=h_ (by rw[X.out,pu.out,hn,y1,y2,y3,hz];simp);clear u2 u3 hn hU eU d6 pu;by_cases u4:un.kind=2;rotate_left
     ·have y4:(un.kind==2)=false:=by simpa using u4
      have d:=h_ (C.out p false (by rw[co.out];simp[y4]) (Below.refl _ _));clear C u4;go_wp2_with fail;exact d.out
     have y4:(un.kind==2)=true:=by simpa using u4
     obtain⟨PB,rx⟩:=x_ (rB k.1.num k.1.den)
     have jp:=h_ (pl.out p);rw[<-rx]at jp co;have py:=h_ (kw.out p (Below.refl _ _));clear u4 rx;go_wp2_with (refine aH (.tmp 150) ?_;refine Row.still (Free.wq rfl) (Hk.aU 32 (.tmp 150) rfl H.heap.size 11 rfl fs _ py.out Tryz.underlying32 rfl ld.out) ?_;simp only[Pt])
     refine jp.out.mono ?_;rintro e w7 ⟨rfl,ul⟩;have gc:=h_ ul;clear ul jp py;cases PB with
     |false=>have d:=h_ (C.out w7 false (by rw[co.out,y4];rfl) gc.out);clear C;go_wp2_with fail;exact d.out
     |true=>
      have io:=A.out.trans (gc.out.mono A.out.size);obtain⟨_,d7,_,⟨q0,q1,q2,q3,q4,q5,q6,q7,q8,q9,zi,xH,xI,zj,zW,zk⟩,_,_⟩:=m.out w7 io;have F:=h_ d7;obtain⟨MB,rt⟩:=x_ (ja c.aE.length k.1.toK)
      have i8:=h_ (CM.out k.1.toK w7);rw[<-rt]at i8 co;clear d7 rt io;go_wp2_with (refine aH (.tmp 2) ?_;refine Row.still (Free.wq rfl) (Hk.aU 27 (.tmp 2) rfl W.heap.size 0 rfl cs _ F.out Tryz.underlying27 rfl HI.out) ?_;simp only[Pt])
      refine i8.out.mono ?_;rintro e w8 ⟨rfl,up⟩;have d:=h_ (C.out w8 MB (by rw[co.out,y4];rfl) (gc.out.trans (up.mono gc.out.size)));clear C up i8;go_wp2_with fail;exact d.out
end Go.Proofs.YtkmbmfengcdmoaaGreatDoor
namespace Go.Cv
open Go Go.Cs
def Eg(c:NV)(i:Nat):Bool:=match c.cls[i]? with|some k=>fW c i k|none=>true
def sS(c:NV):Bool:=decide (c.aj<=12)&&(decide (c.days<=2000)&&(decide (c.aE.length<=12)&&(decide (c.bP.length<=20)&&(decide (c.bQ.length<=60)&&decide (c.cls.length<=400)))))
def jo(c:NV):Int:=if sS c then(if gy c&&(List.range c.cls.length).all (Eg c)then 0 else 1)else 3
end Go.Cv
namespace Go.Proofs.YtkmbmfengcdmoaaGreatDoor
open Go.RowKit Go.W32 Go.ay Go.Cs Go.Lib Go.Opn Go.Mg Go.Cv

def Aa(c:cZ)(W:World)(e:Ending)(w':World):Prop:=(∃i:Int,e= .returned (.tuple #[.int .i64 (jo c.iU), .int .i64 i]))/\Below W.heap.size W w'
set_option maxHeartbeats 4000000 in
theorem zP(c:cZ)(W:World)(hc:dV W c)(hz:lk c):Calls Tryz.prog 64 #[.agg (cD c).toArray] W (Aa c W):=by
 obtain⟨R,Q⟩:=x_ (Aa c W)
 rw[<-Q];have a:Hid (∀f v i,v=jo c.iU->Below W.heap.size W f->R (.returned (.tuple #[.int .i64 v, .int .i64 i])) f):=h_ λf v i h s=>by rw[Q,h];exact⟨⟨i,rfl⟩,s⟩
 clear Q;have l:Hid (sS c.iU=(decide (c.aj<=12)&&(decide (c.days<=2000)&&(decide (c.aE.length<=12)&&(decide (c.bP.length<=20)&&(decide (c.bQ.length<=60)&&decide (c.iH.length<=400))))))):=h_ (by unfold sS cZ.iU;simp only[rm]);obtain⟨g,J,m⟩:=uh W c;obtain⟨k0,k1,k2,k3,k4,k5,k6⟩:=jK.of (T:=27) (b:=W.heap.size) (w:=g) (c:=c) (by rw[<-m.cs];exact m.row);have I:Hid (∀f,Below g.heap.size g f->jK f W.heap.size c/\f.rangeAt W.heap.size 0 J/\dV f c):=h_ λf s=>⟨jK.of (T:=27) (by rw[<-m.cs];exact m.row.below s m.row.lt),(m.row.below s m.row.lt).rg,hc.below (m.below.trans (s.mono m.below.size)) (aL _)⟩
 have A:=h_ m.e;have d:=h_ m.below;have HI:=h_ (ig J (by rw[m.cs];rfl));have y:=fun(hl:rW c)=>AJ c g (I.out g (Below.refl _ _)).2.2 hl hz
 have u:=fun(hl:rW c) (i:Nat) (k:Kl) (t:c.iH[i]? =some k) (f:World) (s:Below g.heap.size g f)=>Aj c i k f (I.out f s).2.2 hl t (hz.st k (ue t))
 rw[<-m.cs]at y⊢;simp only[<-m.cs]at u;have CF:=h_ y;have CC:=h_ u;clear m hc hz k6 y u;by_cases U:c.aj<=12;rotate_left
 ·have j:=h_ (a.out g 3 (-1) (by unfold jo;rw[show sS c.iU=false by rw[l.out];simp[U]];rfl) d.out);clear a;go_enter Tryz.func64,Tryz.ntmps64;go_wp2_with (simp only[A.out])
  exact j.out
 by_cases h2:c.days<=2000;rotate_left
 ·have j:=h_ (a.out g 3 (-1) (by unfold jo;rw[show sS c.iU=false by rw[l.out];simp[h2]];rfl) d.out);clear a;go_enter Tryz.func64,Tryz.ntmps64;go_wp2_with (simp only[A.out])
  exact j.out
 by_cases V:c.aE.length<=12;rotate_left
 ·have j:=h_ (a.out g 3 (-1) (by unfold jo;rw[show sS c.iU=false by rw[l.out];simp[V]];rfl) d.out);clear a;go_enter Tryz.func64,Tryz.ntmps64;go_wp2_with (simp only[A.out])
  exact j.out
 by_cases X:c.bP.length<=20;rotate_left
 ·have j:=h_ (a.out g 3 (-1) (by unfold jo;rw[show sS c.iU=false by rw[l.out];simp[X]];rfl) d.out);clear a;go_enter Tryz.func64,Tryz.ntmps64;go_wp2_with (simp only[A.out])
  exact j.out
 by_cases Y:c.bQ.length<=60;rotate_left
 ·have j:=h_ (a.out g 3 (-1) (by unfold jo;rw[show sS c.iU=false by rw[l.out];simp[Y]];rfl) d.out);clear a;go_enter Tryz.func64,Tryz.ntmps64;go_wp2_with (simp only[A.out])
  exact j.out
 by_cases N:c.iH.length<=400;rotate_left
 ·have j:=h_ (a.out g 3 (-1) (by unfold jo;rw[show sS c.iU=false by rw[l.out];simp[N]];rfl) d.out);clear a;go_enter Tryz.func64,Tryz.ntmps64;go_wp2_with (simp only[A.out])
  exact j.out
 have q:rW c:=⟨U,V,X,Y,N⟩
 have D:Hid (jo c.iU=if gy c.iU&&(List.range c.iH.length).all (Eg c.iU)then 0 else 1):=h_ (by
  unfold jo;rw[show sS c.iU=true by rw[l.out,dt U,dt h2,dt V,dt X,dt Y,dt N];rfl,show c.iU.cls.length=c.iH.length from rm _];rfl)
 have z:=h_ (CF.out q);have E:Hid (∀(i:Nat) k,c.iH[i]? =some k->∀f,Below g.heap.size g f->Calls Tryz.prog 99 #[.agg J.toArray, .int .i64 (i:Int)] f λe an=>e= .returned (.bool (Eg c.iU i))/\Below f.heap.size f an):=h_ λi k t f s=>by
  have h:=CC.out q i k t f s;have e:Eg c.iU i=fW c.iU i k.1:=by
   unfold Eg
   have:c.iU.cls[i]? =some k.1:=by show(c.iH.map Prod.fst)[i]? =_;rw[mx,t];rfl
   rw[this]
  rw[e];exact h
 obtain⟨FB,K⟩:=x_ (gy c.iU)
 rw[<-K]at z D;obtain⟨P,L⟩:=x_ (Eg c.iU)
 rw[<-L]at E D;have p:=h_ (I.out g (Below.refl _ _)).2.1;have H6:=h_ N;have i1:decide ((12:Int)<c.aj)=false:=dy (by omega);have i2:decide ((2000:Int)<c.days)=false:=dy (by omega);have i3:decide ((12:Int)<(c.aE.length:Int))=false:=dy (by omega);have i4:decide ((20:Int)<(c.bP.length:Int))=false:=dy (by omega);have i5:decide ((60:Int)<(c.bQ.length:Int))=false:=dy (by omega);have i6:decide ((400:Int)<(c.iH.length:Int))=false:=dy (by omega);clear CF CC K L q l;go_enter Tryz.func64,Tryz.ntmps64;go_wp2_with (first
  |(simp only[A.out])
  |(refine aH (.tmp 1) ?_;refine wpList_load_mid rfl 27 (.tmp 1) rfl W.heap.size 0 rfl J _ p.out Tryz.underlying27 rfl HI.out ?_))
 refine z.out.mono ?_;rintro e w2 ⟨rfl,C⟩;obtain⟨⟨k0,k1,k2,k3,k4,k5,k6⟩,_,_⟩:=I.out w2 C;have F:=h_ C;clear C z p k0 k1 k2 k3 k5 k6;cases FB with
 |false=>have j:=h_ (a.out w2 1 (-1) (by rw[D.out];rfl) (d.out.trans (F.out.mono d.out.size)));clear a D;go_wp2_with fail;exact j.out
 |true=>
 have r:Hid (jo c.iU=if(List.range c.iH.length).all P then 0 else 1):=h_ (by rw[D.out];rfl);clear D;go_wp2_with fail
 go_loopw [43] (λv wr=> ∃k:Nat,v= .int .i64 (k:Int)/\k<=c.iH.length/\Hid ((List.range k).all P=true)/\Below g.heap.size g wr) (λv _=>(c.iH.length:Int).toNat- (RowKit.intOf v).toNat)
 case atStart=>exact⟨0,rfl,gu _,h_ rfl,F.out⟩
 case round=>
  obtain⟨k,rfl,t,B,n⟩:=hrel;have bi:(k:Int)<=400:=by have:=H6.out;omega
  rcases pC t with o|o
  ·have Z:(k:Int)<(c.iH.length:Int):=by omega
   obtain⟨x,ex⟩:∃x,c.iH[k]? =some x:=⟨_,eH o⟩
   have p:=h_ (I.out wr n).2.1;have O:=h_ (E.out k x ex wr n);have H:=h_ n;obtain⟨v,S⟩:=x_ (P k)
   rw[<-S]at O;have EV:=h_ S;clear ex S n t;go_wp2_with (refine aH (.tmp 1) ?_;refine wpList_load_mid rfl 27 (.tmp 1) rfl W.heap.size 0 rfl J _ p.out Tryz.underlying27 rfl HI.out ?_)
   refine O.out.mono ?_;rintro e w5 ⟨rfl,M⟩;have G:=h_ (H.out.trans (M.mono H.out.size));clear M O p;cases v with
   |true=>
    go_wp2_with fail
    go_roundw
    case rel=>exact⟨k+1,rfl,o,h_ (tC B.out EV.out.symm o),G.out⟩
    case measure=>simp[RowKit.intOf];omega
   |false=>have j:=h_ (a.out w5 1 (k:Int) (by rw[r.out,tB o EV.out.symm];rfl) (d.out.trans (G.out.mono d.out.size)));clear a r;go_wp2_with fail;exact j.out
  ·have Z: ¬(k:Int)<(c.iH.length:Int):=by omega
   have j:=h_ (a.out wr 0 (-1) (by rw[r.out, <-o,B.out];rfl) (d.out.trans (n.mono d.out.size)));clear a r B n t;go_wp2_with fail;exact j.out
end Go.Proofs.YtkmbmfengcdmoaaGreatDoor
