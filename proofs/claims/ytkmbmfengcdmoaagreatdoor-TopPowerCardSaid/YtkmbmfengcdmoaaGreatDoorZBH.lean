/- Package house: add. Condition: the variables of digest and strconv hold their numbers. -/
import Derived.Test.YtkmbmfengcdmoaaGreatDoorZBG
import Derived.Test.YtkmbmfengcdmoaaGreatDoorZBF
import Derived.Test.YtkmbmfengcdmoaaGreatDoorZAH
set_option maxRecDepth 100000
set_option linter.all false
namespace Go.Proofs.YtkmbmfengcdmoaaGreatDoor
open Go.RowKit Go.ay Go.Jn Go.Dk Go.Ho Go.Opn Go.Maps Go.WideMaps Go.Apl Go.Mg Go.Rf Go.Lib
noncomputable def HS.take (n:Nat) (s:HS) (e:aV):HS×Int:=
 if s.run=false then(s,22)else if dj s.aj e=false then(s,1)else if 2000<(aP e).size then(s,3)
 else if(Mk.get s.aw (aP e)).isSome=true then(s,0)else if gB s.aj s.bF e (aP e)=false then(s,17)else s.store n e (aP e)
set_option maxHeartbeats 2000000 in
theorem ph{we w:World}{n:Nat}{p:Pl}{s:HS}(g:aV)(h:HC we w n p s)(hi:lv s)(ho:g.Ok)(hp:g.prev.size<=400000000)(hb:g.body.size<=400000000)(hT:cB w)(r:s.js.d.aF.length<=900000)(B:s.js.bW.length<=1000000):
  Calls Tryz.prog 13 #[.pointer (some ⟨p.o.hb,0,none⟩), .agg (aK g).toArray] w (bS we w n p (s.take n g).1 (.int .i64 (s.take n g).2)):=by
 obtain⟨R,eR⟩:=x_ (bS we w n p (s.take n g).1 (.int .i64 (s.take n g).2))
 rw[<-eR];obtain⟨m,v⟩:=x_ (aK g)
 have X:m.length=7:=by rw[v];rfl
 obtain⟨V,eV⟩:=x_ (w.alloc (.cells m.toArray 42))
 have z:ay V w.heap.size m 42:=by rw[eV];exact ay.new w m 42
 have j:Below w.heap.size w V:=by rw[eV];exact(Below.refl _ _).alloc (aL _) _
 have A:=h.grow j;have y:=hT.below j (aL _);obtain⟨a,x⟩:=x_ (aP g)
 have C:a.size<=1000000000:=by have:=j9 ho;rw[x];omega
 have hE:Hid (s.take n g=if s.run=false then(s,22)else if dj s.aj g=false then(s,1)else if 2000<a.size then(s,3)else if(Mk.get s.aw a).isSome=true then(s,0)else if gB s.aj s.bF g a=false then(s,17)else s.store n g a):=h_ (by rw[x];rfl);have P:Hid (∀b c,s.take n g=(s,c)->Below V.heap.size V b->R (.returned (.int .i64 c)) b):=h_ λb c Z d6=>by
  rw[eR,Z];exact bS.same h (j.trans (d6.mono j.size)) _
 have FE:Hid (∀b e N,s.take n g=s.store n g a->Below V.heap.size V N->bS we N n p (s.store n g a).1 (.int .i64 (s.store n g a).2) e b->R e b):=h_ λb e N Z i hp=>by
  rw[eR,Z];exact bS.after (j.trans (i.mono j.size)) hp
 have EV:Hid (w.alloc (.cells m.toArray 42)=V):=h_ eV.symm;have HV:=h_ A;have d7:=h_ z;have HI:=h_ (cE m X);have HM:Hid (∀b,Below V.heap.size V b->b.rangeAt w.heap.size 0 m):=h_ λb h=>rg_of (z.below h z.lt)
 have dl:Hid (qw a):=h_ (by unfold qw maxLen;omega);have HT:Hid (∀b,Below V.heap.size V b->cB b):=h_ λb h=>y.below h (aL _)
 have H7:Hid (∀b,Below V.heap.size V b->b.cell? ⟨p.o.hb,7,none⟩=some (.bool s.run)/\b.cell? ⟨p.o.hb,8,none⟩=some (.map (some p.o.mb))):=h_ λb h=>⟨(A.grow h).hr.bg.ag 7 _ rfl,(A.grow h).hr.bg.ag 8 _ rfl⟩
 have CP:=h_ (λb (h:Below V.heap.size V b)=>tu p.o s g b (A.grow h).hr);have CR:=h_ (λb (h:Below V.heap.size V b)=>nI g b ho (by omega) (by omega) (y.below h (aL _)));have CG:=h_ (λb (h:Below V.heap.size V b)=>qN p.o s g a b (A.grow h).hr hi.pn ho (by omega) (by omega) (y.below h (aL _)));have CS:=h_ (λb (h:Below V.heap.size V b)=>sO g a (A.grow h) C r B);have HL:Hid (∀b,Below V.heap.size V b->(Instr.lookup 102 (.map (some p.o.mb)) (.string a) true).run Tryz.prog b= .ok (.tuple #[fv (fP s.aw a), .bool (Mk.get s.aw a).isSome]) b):=h_ λb h=>by
  have f:=(A.grow h).hr.mp.look kH (t:=102) Tryz.underlying102 (zU b) dl.out true;simp only[uf]at f;have Z:((Mk.get s.aw a).map fv).getD (fv aM)=fv (fP s.aw a):=by unfold fP;cases Mk.get s.aw a<;>rfl
  rw[Z]at f;exact f
 rw[<-x, <-v]at CR;rw[<-v]at CP CG CS⊢;obtain⟨q7,_⟩:=H7.out V (Below.refl _ _);clear eR X eV z j A y h hi ho hp hb hT r B C x v;cases f:s.run with
 |false=>
  rw[f]at q7;have G:=h_ (P.out V 22 (by rw[hE.out,if_pos f]) (Below.refl _ _));go_enter Tryz.func13,Tryz.ntmps13;go_wp2_with (simp only[EV.out])
  (try go_ret);exact G.out
 |true=>
  rw[f]at q7;have E:=h_ (hE.out.trans (if_neg (by rw[f];decide)));clear hE;have T:=h_ (HM.out V (Below.refl _ _));go_enter Tryz.func13,Tryz.ntmps13;go_wp2_with (first
   |simp only[EV.out]
   |(refine aH (.tmp 3) ?_;refine wpList_load_mid rfl 42 (.tmp 3) rfl w.heap.size 0 rfl m _ T.out Tryz.underlying42 rfl HI.out ?_))
  refine(CP.out V (Below.refl _ _)).mono ?_;rintro e N ⟨rfl,i⟩;cases hpl:dj s.aj g with
  |false=>
   have G:=h_ (P.out N 1 (by rw[E.out,if_pos hpl]) i);clear i;go_wp2_with fail;(try go_ret);exact G.out
  |true=>
   have F:=h_ (E.out.trans (if_neg (by rw[hpl];decide)));have bi:=h_ (HM.out N i);have D:=h_ i;clear i E T q7 hpl;go_wp2_with (refine aH (.tmp 3) ?_;refine wpList_load_mid rfl 42 (.tmp 3) rfl w.heap.size 0 rfl m _ bi.out Tryz.underlying42 rfl HI.out ?_)
   refine(CR.out N D.out).mono ?_;rintro e O ⟨rfl,U⟩;have k:=h_ (D.out.trans (U.mono D.out.size));clear U;by_cases h2:2000<a.size
   ·have t1:decide ((2000:Int)<(a.size:Int))=true:=dt (by omega);have G:=h_ (P.out O 3 (by rw[F.out,if_pos h2]) k.out);go_wp2_with fail;(try go_ret);exact G.out
   ·have t1:decide ((2000:Int)<(a.size:Int))=false:=dy (by omega);have H:=h_ (F.out.trans (if_neg h2));obtain⟨_,q8⟩:=H7.out O k.out;have q:=HL.out O k.out;obtain⟨w3,e3⟩:=x_ (O.alloc (.cells (aK (fP s.aw a)).toArray 42))
    have l:Hid (Below V.heap.size V w3):=h_ (by rw[e3];exact k.out.alloc k.out.size _);have J:=h_ (cE (aK (fP s.aw a)) rfl);have K:=h_ (cm (fP s.aw a));obtain⟨ds,L⟩:=x_ (aK (fP s.aw a))
    have Y:ds.length=7:=by rw[L];rfl
    unfold fv at q;rw[<-L]at q J K e3;have S:=h_ e3;have ci:=h_ (HM.out w3 l.out);have Q:=h_ Y;clear e3 L h2 F Y;cases hg:(Mk.get s.aw a).isSome with
    |true=>
     rw[hg]at q;have G:=h_ (P.out w3 0 (by rw[H.out,if_pos hg]) l.out);clear hg;go_wp2_with (refine aN (.tmp 6) ?_;refine Hk.aD rfl 42 (.tmp 6) (.tmp 31) rfl O.heap.size ds.toArray rfl rfl _ 42 rfl (by rw[J.out];simp) (by simp[Q.out]) (all_oneCell_toArray K.out) ?_;rw[<-S.out];simp only[Pt])
     (try go_ret);exact G.out
    |false=>
     rw[hg]at q;have I:=h_ (H.out.trans (if_neg (by rw[hg];decide)));clear hg H;go_wp2_with (first
      |(refine aN (.tmp 6) ?_;refine Hk.aD rfl 42 (.tmp 6) (.tmp 31) rfl O.heap.size ds.toArray rfl rfl _ 42 rfl (by rw[J.out];simp) (by simp[Q.out]) (all_oneCell_toArray K.out) ?_;rw[<-S.out];simp only[Pt])
      |(refine aH (.tmp 3) ?_;refine wpList_load_mid rfl 42 (.tmp 3) rfl w.heap.size 0 rfl m _ ci.out Tryz.underlying42 rfl HI.out ?_))
     refine(CG.out w3 l.out).mono ?_;rintro e w4 ⟨rfl,W⟩;have u:=h_ (l.out.trans (W.mono l.out.size));clear W q q8;cases hgn:gB s.aj s.bF g a with
     |false=>
      have G:=h_ (P.out w4 17 (by rw[I.out,if_pos hgn]) u.out);go_wp2_with fail;(try go_ret);exact G.out
     |true=>
      have an:=h_ (I.out.trans (if_neg (by rw[hgn];decide)));have co:=h_ (HM.out w4 u.out);clear hgn I;go_wp2_with (refine aH (.tmp 3) ?_;refine wpList_load_mid rfl 42 (.tmp 3) rfl w.heap.size 0 rfl m _ co.out Tryz.underlying42 rfl HI.out ?_)
      refine(CS.out w4 u.out).mono ?_;intro e w5 M;obtain rfl:=M.1;have G:=h_ (FE.out w5 _ w4 an.out u.out M);clear M;go_wp2_with fail;(try go_ret);exact G.out
end Go.Proofs.YtkmbmfengcdmoaaGreatDoor
namespace Go.Ho
open Go
def pr(g c:Nat):Nat:=2 ^ g*(2*c+1)
theorem JG(g c:Nat):pr g c≠0:=Nat.mul_ne_zero (by have:=Nat.two_pow_pos g;omega) (by omega)
theorem JF:∀ {a b c d:Nat},pr a b=pr c d->a=c/\b=d
 |0,b,0,d,h=>by unfold pr at h;omega
 |0,b,c+1,d,h=>by
  have e:pr (c+1) d=2*pr c d:=by unfold pr;rw[GL];rw[B8 (2 ^ c) 2,P6]
  rw[e]at h;unfold pr at h;omega
 |a+1,b,0,d,h=>by
  have e:pr (a+1) b=2*pr a b:=by unfold pr;rw[GL];rw[B8 (2 ^ a) 2,P6]
  rw[e]at h
  have:pr 0 d=2*d+1:=by unfold pr;omega
  omega
 |a+1,b,c+1,d,h=>by
  have f:pr (a+1) b=2*pr a b:=by unfold pr;rw[GL];rw[B8 (2 ^ a) 2,P6]
  have g:pr (c+1) d=2*pr c d:=by unfold pr;rw[GL];rw[B8 (2 ^ c) 2,P6]
  have:=JF (a:=a) (b:=b) (c:=c) (d:=d) (by omega);omega
open Classical in
noncomputable def MW (x:Nat):Nat×Nat:=if h:∃q:Nat×Nat,x=pr q.1 q.2 then Classical.choose h else(0,0)
theorem DQ(g c:Nat):MW (pr g c)=(g,c):=by
 have h:∃q:Nat×Nat,pr g c=pr q.1 q.2:=⟨(g,c),rfl⟩
 unfold MW;rw[dif_pos h]
 have:=JF (P9 h);exact Prod.ext this.1.symm this.2.symm
noncomputable def aS (x:Nat):Option Addr:=if x=0 then none else some ⟨(MW x).1,0,none⟩
noncomputable def cS (x:Nat):Nat:=if x=0 then 0 else(MW x).2
theorem Hb{A:Option Addr}{c:Nat}(h:(A=none/\c=0)\/∃g,A=some ⟨g,0,none⟩):∃x,aS x=A/\cS x=c:=by
 rcases h with⟨rfl,rfl⟩|⟨g,rfl⟩
 ·exact⟨0,rfl,rfl⟩
 ·exact⟨pr g c,by unfold aS;rw[if_neg (JG g c),DQ],by unfold cS;rw[if_neg (JG g c),DQ]⟩
end Go.Ho
namespace Go.Proofs.YtkmbmfengcdmoaaGreatDoor
open Go.RowKit Go.ay Go.Jn Go.Dk Go.Ho Go.Opn Go.Maps Go.WideMaps Go.Apl Go.Mg Go.Rf Go.Lib Go.Sg
attribute [local go_sem] Oper.semAt_some
noncomputable def HS.next (s:HS) (day:Int) (body:ByteArray):aV:=dn (bE s s.me) s.me s.secret day body
noncomputable def HS.add (n:Nat) (s:HS) (day:Int) (body:ByteArray):HS×aV×Int:=
 if eI (bE s s.me) s.me s.secret day body≠0 then(s,aM,eI (bE s s.me) s.me s.secret day body)
 else if 2000<(aP (s.next day body)).size then(s,aM,3)
 else if(s.store n (s.next day body) (aP (s.next day body))).2≠0 then((s.store n (s.next day body) (aP (s.next day body))).1,aM,(s.store n (s.next day body) (aP (s.next day body))).2)
 else((s.store n (s.next day body) (aP (s.next day body))).1,s.next day body,0)
def Ss(E:Int)(x:Nat):Option Addr:=if E=0 then some ⟨x,0,none⟩else none
def QZ(E:Int)(n:Nat):Nat:=if E=0 then n+1 else 0
abbrev Rb (E:Int) (n x:Nat):Value:= .tuple #[.slice (Ss E x) (QZ E n) (QZ E n), .int .i64 E]
def Tf(f x:Nat):Value:= .func (.func f) #[] #[.pointer (some ⟨x,0,none⟩), .pointer (some ⟨x+1,0,none⟩)]
noncomputable def oK (n x:Nat):Value:= .slice (aS x) n (cS x)
theorem Rc{K:List (Nat×Free.gN)}{f n:Nat}{E g:Int}{e:Nat}{l:List aV}{i:aV}(d:K= [(5, .ind (Tf f) (λx w=>w.cell? ⟨x,0,none⟩=some (.pointer (some ⟨e,0,none⟩))/\w.cell? ⟨x+1,0,none⟩=some (.int .i64 g))),
  (6, .ind (oK n) (λx w=>SL w 7 aK (aS x) l/\n<=cS x)),(17, .ind (Rb E n) (λx w=>E=0->SL w 7 aK (some ⟨x,0,none⟩) (l++ [i])))]):Free.dm K:=by
 subst d;intro j k r a y m o b c;simp only[Free.find]at a
 repeat' split at a
 ·cases a;exact⟨aO b.1 c,aO b.2 c⟩
 ·cases a;exact⟨b.1.below c (aL _),b.2⟩
 ·cases a;exact λh=>(b h).below c (aL _)
 ·cases a
theorem bS.tail{i w c b d:World}{n g:Nat}{p:Pl}{s s':HS}{v q:Value}{e:Ending}(j:HC i w n p s)(m:Below w.heap.size w c)(h:bS i c n p s' v e b)(C:w.heap.size<=g)(D:g<c.heap.size)(z:b.grownBy d (some g)):bS i w n p s' q (.returned q) d:=by
 obtain⟨_,B,r,t,u,x,y,l⟩:=h;have A:=j.pj.e.bl.size;have o:aJ (λk=>k=g) b d:=(aJ.refl (λk=>k=g) b).grown z (λk e _=>by injection e with e;exact e.symm);refine⟨rfl,B,r,t,u,x.bD o (λk a e=> ?_) (λk e=>by omega),(((aJ.aY m).trans y (λ_ _ f=>f)).trans o (λk a e=>absurd a (by omega))),λk a=>(l k a).imp id (λh=>fO m.size h)⟩;subst e;rcases l k a with h|h
 ·have:=j.lt h;omega
 ·omega
def gM(r:aV×Int):Value:= .tuple #[fv r.1, .int .i64 r.2]
set_option maxHeartbeats 2000000 in
theorem Ch{we w:World}{n:Nat}{p:Pl}{s:HS}(day:Int)(body:ByteArray)(h:HC we w n p s)(hi:lv s)(li: -9223372036854775808<=day)(lm:day<=9223372036854775807)(hb:body.size<=400000000)(hT:cB w)(Y:s.js.d.aF.length<=900000)(d9:s.js.bW.length<=1000000):
  Calls Tryz.prog 48 #[.pointer (some ⟨p.o.hb,0,none⟩), .int .i64 day, .string body] w (bS we w n p (s.add n day body).1 (gM (s.add n day body).2)):=by
 obtain⟨R,eR⟩:=x_ (bS we w n p (s.add n day body).1 (gM (s.add n day body).2))
 rw[<-eR];obtain⟨j,ej,hj⟩:=hi.at;obtain⟨l,el⟩:=x_ (bE s s.me)
 obtain⟨E,eE⟩:=x_ (eI l s.me s.secret day body)
 obtain⟨B,i8⟩:=x_ (s.next day body)
 obtain⟨m,bi⟩:=x_ (aP B)
 have Q:l.length<=1000000:=by rw[el];unfold bE fA bJ;rw[jQ,rm,fe];have:=gE s.aw s.me;have:=hi.e.jX;omega
 have d7:PG l:=λe he=>by
  rw[el]at he;have ww:=List.mem_of_mem_take he;obtain⟨t,ht,rfl⟩:=nS.1 ww;have h1:=(dY _ _).mem_iff.1 ht;unfold j6 at h1;obtain⟨p,hp,rfl⟩:=nS.1 h1;have h2:=(PY.1 hp).1;have h3:fP s.aw p.1=p.2:=by unfold fP;rw[Mk.get_some h.hr.mp.nodup h2];rfl
  rw[h3];exact hi.e.ok p h2
 have ut:=hi.KI;have py:=hi.me;have U:(-9223372036854775808:Int)<=s.me/\s.me<=9223372036854775807:=by omega
 have W:B=dn l s.me s.secret day body:=by rw[i8,el];rfl
 obtain⟨d6,m4,mt⟩:=ky l s.me s.secret day body Q U.1 U.2 li lm (by omega);rw[<-W]at d6 m4 mt;have d8:B.body=body:=by rw[W];rfl
 have qr:B.prev.size<=64:=by rw[W];exact gW l
 have ro:m.size<=1000000000:=by have:=j9 d6;rw[d8]at this;rw[bi];omega
 have I:Hid (s.add n day body=if E≠0 then(s,aM,E)else if 2000<m.size then(s,aM,3)else if(s.store n B m).2≠0 then((s.store n B m).1,aM,(s.store n B m).2)else((s.store n B m).1,B,0)):=h_ (by rw[bi,i8,eE,el];rfl);obtain⟨V,eV⟩:=x_ (w.alloc (.cells #[.int .i64 0, .int .i64 0, .int .i64 0, .string ⟨#[]⟩, .string ⟨#[]⟩, .int .i64 0, .int .i64 0] 42))
 have kw:ay V w.heap.size bO 42:=by rw[eV];exact ay.new w bO 42
 have co:Below w.heap.size w V:=by rw[eV];exact(Below.refl _ _).alloc (aL _) _
 have hV:=h.grow co;have ci:=hT.below co (aL _);have EV:Hid (w.alloc (.cells #[.int .i64 0, .int .i64 0, .int .i64 0, .string ⟨#[]⟩, .string ⟨#[]⟩, .int .i64 0, .int .i64 0] 42)=V):=h_ eV.symm;have HQ:Hid (∀i,Below V.heap.size V i->i.cell? ⟨p.o.hb,3,none⟩=some (.int .i64 s.me)/\i.cell? ⟨p.o.hb,4,none⟩=some (.int .i64 s.secret)):=h_ λi h=>⟨(hV.grow h).hr.bg.ag 3 _ rfl,(hV.grow h).hr.bg.ag 4 _ rfl⟩
 have C1:=h_ (λi=>lP p.o.hb s.me i);have C2:=h_ (λb1 b2 i (h:Below V.heap.size V i) h1 h2=>yj b1 b2 p.o s j i (hV.grow h).hr hi hj (ci.below h (aL _)) h1 h2);rw[<-ej, <-el]at C2;have C3:=h_ (λA c i (h:Below V.heap.size V i) hs hc=>KW A c l s.me s.secret day body i hs Q hc d7 U.1 U.2 li lm (by omega) (ci.below h (aL _)));have m7:=h_ kw;have G:=h_ co;have HV:=h_ hV;have HT:Hid (∀i,Below V.heap.size V i->cB i):=h_ λi h=>ci.below h (aL _)
 have CR:=h_ (λi hT=>nI B i d6 m4 mt hT);rw[<-bi]at CR;have CS:=h_ (λi (h:HC we i n p s)=>sO B m h ro Y d9);have ER:=h_ eR;have EE:=h_ eE;have rx:=h_ W;have HI:=h_ (cE bO rfl);have ip:Hid (∀u∈bO,u.oneCell'=true):=h_ (cm aM);have HW:Hid (w.heap.size<V.heap.size):=h_ kw.lt;have HL:=h_ Q;have H0:=h_ h;clear eR eV kw co hV ci h hi li lm hb hT Y d9 ej hj el eE i8 bi d7 ut py U W d6 m4 mt d8 qr ro Q;go_enter Tryz.func48,Tryz.ntmps48;go_wp2_with (simp only[EV.out])
 refine Free.ai 23 [(5, .ind (Tf 124) (λx w=>w.cell? ⟨x,0,none⟩=some (.pointer (some ⟨p.o.hb,0,none⟩))/\w.cell? ⟨x+1,0,none⟩=some (.int .i64 s.me))),
  (6, .ind (oK l.length) (λx w=>SL w 7 aK (aS x) l/\l.length<=cS x)),(17, .ind (Rb E l.length) (λx w=>E=0->SL w 7 aK (some ⟨x,0,none⟩) (l++ [B])))] (λy=>Below V.heap.size V y) (by kernel_rfl) (by kernel_rfl) (Rc rfl) (Below.refl _ _).drew (λ_ _ h g=>h.trans (Below.mono g h.size)) ?_
 simp only[eJ,dT];iterate 5 (apply Free.ae rfl rfl;(intro i J I;cases HQ.out i J;clear I J;go_light;go_simp<;>rfl);(try simp only[Pt]))
 apply Free.aR rfl rfl
 ·intro i J I;refine Free.au (f:=80) (args:= #[.pointer (some ⟨p.o.hb,0,none⟩), .int .i64 s.me]) (by clear J I;go_simp<;>rfl) ?_;refine(C1.out i).mono ?_;rintro e w3 ⟨rfl,rfl⟩;refine⟨_,rfl,((Below.refl _ _).alloc (aL _) _).alloc (by simp) _,i.heap.size,rfl, ?_, ?_⟩
  ·exact((ay.new i [.pointer (some ⟨p.o.hb,0,none⟩)] _).alloc _).ag 0 _ rfl
  ·exact(ay.made (l:= [.int .i64 s.me]) (by simp) rfl).ag 0 _ rfl
 intro x5;simp only[Pt];apply Free.aR rfl rfl
 ·intro i J I;have h5:=I _ dH (by kernel_rfl);dsimp only at h5;refine Free.au (f:=83) (args:= #[Tf 124 x5]) (by clear J I h5;go_simp<;>rfl) ?_;refine(C2.out x5 (x5+1) i J h5.1 h5.2).mono ?_;rintro e w3 ⟨A,c,rfl,hc,hs,v6,C⟩;obtain⟨x,rfl,rfl⟩:=Hb v6;exact⟨_,rfl,C,x,rfl,hs,hc⟩
 intro x6;simp only[Pt];iterate 10 (apply Free.ae rfl rfl;(intro i J I;cases HQ.out i J;clear I J;go_light;go_simp<;>rfl);(try simp only[Pt]))
 apply Free.aR rfl rfl
 ·intro i J I;have h6:=I (6,_) (dH) (by kernel_rfl);dsimp only at h6;refine Free.au (f:=82) (args:= #[oK l.length x6, .int .i64 s.me, .int .i64 s.secret, .int .i64 day, .string body]) (by clear J I h6;go_simp<;>rfl) ?_;refine(C3.out (aS x6) (cS x6) i J h6.1 h6.2).mono ?_;rintro e w3 ⟨C,⟨dl,rfl⟩|⟨h0,b,_,rfl,hs⟩⟩
  ·rw[<-EE.out]at dl⊢;exact⟨_,rfl,C,0,by unfold Rb Ss QZ;rw[if_neg dl,if_neg dl],λh=>absurd h dl⟩
  ·rw[<-EE.out]at h0;rw[<-rx.out]at hs;exact⟨_,rfl,C,b,by unfold Rb Ss QZ;rw[if_pos h0,if_pos h0,h0],λ_=>hs⟩
 intro rt;simp only[Pt];iterate 5 (apply Free.ae rfl rfl;(intro i J I;cases HQ.out i J;clear I J;go_light;go_simp<;>rfl);(try simp only[Pt]))
 apply Free.ax;intro K pm _ hh;have i9:=hh _ dH;dsimp only at i9;simp only[fm,fo];have S:=h_ pm;have m5:=h_ i9;clear pm hh i9 HQ C1 C2 C3;have FE:Hid (∀i x c,s.add n day body=(s,x,c)->Below w.heap.size w i->R (.returned (gM (x,c))) i):=h_ λi x c he wn=>by
  rw[ER.out,he];exact bS.same H0.out wn _
 have c6:=(m7.out.below S.out m7.out.lt)
 by_cases hE:E=0
 ·subst hE;simp only[Rb,Ss,QZ,uf,eq_self];have f8:=m5.out rfl;obtain⟨k,ek⟩:=x_ l.length
  rw[<-ek];have By:k<=1000000:=by rw[ek];exact HL.out
  have z':IntKind.i64.wrap (((k+1:Nat):Int)-1)=(k:Int):=by rw[IntWalk.i64_left,IntWalk.wrap64_in _ ⟨by omega,by omega⟩];omega
  obtain⟨D,T⟩:=x_ (aK B)
  have hM:Hid (K.rangeAt rt (k*7) D):=h_ (by have h:=dq f8 (k:=k) (x:=B) (by rw[ek];simp);rw[nW]at h;rw[T];exact h);have N:=h_ (cE D (by rw[T];rfl));have HO:=h_ (show ∀u∈D,u.oneCell'=true by rw[T];exact cm B);have no:Hid (D.length=7):=h_ (by rw[T];rfl);obtain⟨w2,e2⟩:=x_ (K.alloc (.cells D.toArray 42))
  have sm:=h_ e2;have jp:Below K.heap.size K w2:=by rw[e2];exact(Below.refl _ _).alloc (aL _) _
  have P:ay w2 K.heap.size D 42:=by rw[e2];exact ay.new K D 42
  have g7:=h_ (S.out.trans (jp.mono S.out.size));have n8:Hid (∀i,Below w2.heap.size w2 i->i.rangeAt K.heap.size 0 D):=h_ λi h=>rg_of (P.below h P.lt)
  have ol:=h_ (n8.out w2 (Below.refl _ _));have m8:=h_ (c6.below jp c6.lt);have up:Hid (K.heap.size<w2.heap.size):=h_ P.lt;clear jp P;have nl:=h_ c6;have gt:=h_ T;clear f8 c6 m5 ek e2 T;go_wp2_with (first
   |(refine aH (.tmp 42) ?_;refine wpList_load_mid rfl 42 (.tmp 42) rfl rt (k*7) rfl D _ hM.out Tryz.underlying42 rfl N.out ?_)
   |(refine aN (.tmp 10) ?_;refine Hk.aD rfl 42 (.tmp 10) (.tmp 43) rfl K.heap.size D.toArray rfl rfl _ 42 rfl (by rw[N.out];simp) (by simp[no.out]) (all_oneCell_toArray HO.out) ?_;rw[<-sm.out];simp only[Pt])
   |(refine aH (.tmp 10) ?_;refine wpList_load_mid rfl 42 (.tmp 10) rfl K.heap.size 0 rfl D _ ol.out Tryz.underlying42 rfl N.out ?_))
  have gc:=CR.out w2 (HT.out w2 g7.out);rw[<-gt.out]at gc;refine gc.mono ?_;rintro e w3 ⟨rfl,C⟩;have m6:=h_ C;have H:Hid (Below w.heap.size w w3):=h_ (G.out.trans ((g7.out.trans (C.mono g7.out.size)).mono G.out.size));have g8:=h_ (m8.out.below C m8.out.lt);clear C gc;have OJ:s.add n day body=if 2000<m.size then(s,aM,3)else if(s.store n B m).2≠0 then((s.store n B m).1,aM,(s.store n B m).2)else((s.store n B m).1,B,0):=by rw[I.out,if_neg (by simp)]
  have ii:=h_ OJ;clear OJ I;by_cases h2:2000<m.size
  ·have t1:decide ((2000:Int)<(m.size:Int))=true:=dt (by omega);go_wp2_with (refine aN (.tmp 6) ?_;refine Hk.aZ rfl 42 (.tmp 6) (.tmp 49) rfl w.heap.size rfl bO rfl bO 42 g8.out HI.out rfl ip.out ?_;intro w9 q z O;have L:=h_ q;have M:=h_ z;clear q z O;simp only[Act.put])
   refine bodyPost_ret (v:=gM (aM,3)) (Hk.aB (fn:=Tryz.f48) (p:=6) (u:=7) (ty:=42) rfl _ _ w.heap.size 42 bO.toArray (0,0) _ rfl L.out Tryz.underlying42 rfl (by rw[HI.out];simp) rfl) rfl ?_;exact FE.out w9 aM 3 (by rw[ii.out,if_pos h2]) (H.out.trans (below_grown M.out (λg hg=>by injection hg with e;omega) H.out.size))
  ·have t1:decide ((2000:Int)<(m.size:Int))=false:=dy (by omega);have an:=h_ (ii.out.trans (if_neg h2));have pi:=h_ (n8.out w3 m6.out);clear ii h2;go_wp2_with (refine aH (.tmp 10) ?_;refine wpList_load_mid rfl 42 (.tmp 10) rfl K.heap.size 0 rfl D _ pi.out Tryz.underlying42 rfl N.out ?_)
   have ge:=CS.out w3 (H0.out.grow H.out);rw[<-gt.out]at ge;refine ge.mono ?_;intro e w4 X;obtain rfl:=X.1;obtain⟨r,er⟩:=x_ (s.store n B m)
   rw[<-er]at X an⊢;obtain⟨s',c⟩:=r;have lw:aJ p.F w3 w4:=by obtain⟨_,p',_,_,_,_,h5,_⟩:=X;exact h5
   have Z:w.heap.size<w3.heap.size:=g8.out.lt;have i':∀k,w.heap.size<=k-> ¬p.F k:=λk hk hF=>by have:=H0.out.lt hF;omega
   have m9:=h_ (g8.out.bG (lw.block _ Z (i' _ (aL _))));have pu:K.heap.size<w3.heap.size:=nX up.out m6.out.size;have f9:w.heap.size<=K.heap.size:=(G.out.trans (S.out.mono G.out.size)).size;have ul:Hid (w4.rangeAt K.heap.size 0 D):=h_ λj v hj=>by
    rw[World.cell?_of_block (a:=⟨K.heap.size,0+j,none⟩) (lw.block _ pu (i' _ f9))];exact pi.out j v hj
   have io:=h_ X;have pl:=h_ Z;clear X lw Z i' pu f9 ge er;dsimp only at an io⊢;by_cases ld:c=0
   ·subst ld;go_wp2_with (first
     |(refine aH (.tmp 10) ?_;refine wpList_load_mid rfl 42 (.tmp 10) rfl K.heap.size 0 rfl D _ ul.out Tryz.underlying42 rfl N.out ?_)
     |(refine aN (.tmp 6) ?_;refine Hk.aZ rfl 42 (.tmp 6) (.tmp 58) rfl w.heap.size rfl D rfl bO 42 m9.out N.out (by rw[no.out];rfl) HO.out ?_;intro w9 q z O;have L:=h_ q;have M:=h_ z;clear q z O;simp only[Act.put]))
    refine bodyPost_ret (v:= .tuple #[.agg D.toArray, .int .i64 0]) (Hk.aB (fn:=Tryz.f48) (p:=6) (u:=7) (ty:=42) rfl _ _ w.heap.size 42 D.toArray (0,0) _ rfl L.out Tryz.underlying42 rfl (by rw[N.out];simp) rfl) rfl ?_;rw[show(.tuple #[.agg D.toArray, .int .i64 0]:Value)=gM (B,0) by rw[gt.out];rfl];rw[ER.out,an.out,if_neg (by simp)];exact bS.tail H0.out H.out io.out (aL _) pl.out M.out
   ·have At:(c !=0)=true:=by simpa using ld
    go_wp2_with (refine aN (.tmp 6) ?_;refine Hk.aZ rfl 42 (.tmp 6) (.tmp 56) rfl w.heap.size rfl bO rfl bO 42 m9.out HI.out rfl ip.out ?_;intro w9 q z O;have L:=h_ q;have M:=h_ z;clear q z O;simp only[Act.put])
    refine bodyPost_ret (v:=gM (aM,c)) (Hk.aB (fn:=Tryz.f48) (p:=6) (u:=7) (ty:=42) rfl _ _ w.heap.size 42 bO.toArray (0,0) _ rfl L.out Tryz.underlying42 rfl (by rw[HI.out];simp) rfl) rfl ?_;rw[ER.out,an.out,if_pos ld];exact bS.tail H0.out H.out io.out (aL _) pl.out M.out
 ·have An:(E !=0)=true:=by simpa using hE
  have nl:=h_ c6;clear c6;go_wp2_with (refine aN (.tmp 6) ?_;refine Hk.aZ rfl 42 (.tmp 6) (.tmp 36) rfl w.heap.size rfl bO rfl bO 42 nl.out HI.out rfl ip.out ?_;intro w9 q z O;have L:=h_ q;have M:=h_ z;clear q z O;simp only[Act.put])
  refine bodyPost_ret (v:=gM (aM,E)) (Hk.aB (fn:=Tryz.f48) (p:=6) (u:=7) (ty:=42) rfl _ _ w.heap.size 42 bO.toArray (0,0) _ rfl L.out Tryz.underlying42 rfl (by rw[HI.out];simp) rfl) rfl ?_;exact FE.out w9 aM E (by rw[I.out,if_pos hE]) ((G.out.trans (S.out.mono G.out.size)).trans (below_grown M.out (λg hg=>by injection hg with e;omega) (G.out.trans (S.out.mono G.out.size)).size))
end Go.Proofs.YtkmbmfengcdmoaaGreatDoor
