/- Package file: a file that is valid. Condition: the contract and the file lie in memory. -/
import Derived.Test.YtkmbmfengcdmoaaGreatDoorZBN
import Derived.Test.YtkmbmfengcdmoaaGreatDoorZBI
import Derived.Test.YtkmbmfengcdmoaaGreatDoorZBK
import Derived.Test.YtkmbmfengcdmoaaGreatDoorZBO
import Derived.Test.YtkmbmfengcdmoaaGreatDoorZAP
import Derived.Test.YtkmbmfengcdmoaaGreatDoorZBD
import Derived.Test.YtkmbmfengcdmoaaGreatDoorZBG
set_option maxRecDepth 100000
set_option linter.all false
namespace Go.Proofs.YtkmbmfengcdmoaaGreatDoor
open Go.RowKit Go.W32 Go.ay Go.Cs Go.Jn Go.Dk Go.Ho Go.Opn Go.Maps Go.WideMaps Go.Apl Go.Mg Go.Rf Go.Lib Go.Cv

theorem Ad(cs:List Value)(h:cs.length=35):(Tryz.prog.info? 89).map (·.size)=some cs.length:=by rw[h];kernel_rfl
theorem ve{a:kM}{j:Nat}{v:Value}(h:(bU a.x)[j]? =some v):(cU a)[1+j]? =some v:=by
 have b:j<6:=(jS.1 h).1;have e:(cU a)[1+j]? =(bU a.x++(fq a.l++ [.int .i64 a.after, .int .i64 a.writes, .int .i64 a.bytes]))[j]? :=by unfold cU;rw[List.append_assoc,List.append_assoc,BW (by show 1<=1+j;omega)];congr 1;show 1+j-1=j;omega
 rw[e,xL (by show j<6;exact b)];exact h
theorem Bj{a:kM}{j:Nat}{v:Value}(h:(fq a.l)[j]? =some v):(cU a)[7+j]? =some v:=by
 have b:j<25:=(jS.1 h).1;have e:(cU a)[7+j]? =(fq a.l++ [.int .i64 a.after, .int .i64 a.writes, .int .i64 a.bytes])[j]? :=by unfold cU;rw[List.append_assoc,List.append_assoc,BW (by show 1<=7+j;omega),BW (by show 6<=7+j-1;omega)];congr 1;show 7+j-1-6=j;omega
 rw[e,xL (by show j<25;exact b)];exact h
noncomputable def HS.act (n:Nat) (s:HS) (a:kM):HS×aV×Int:=if a.GG=true then s.GG n a.l.1 else s.file n a.x
set_option maxHeartbeats 2000000 in
theorem wv{we w:World}{n:Nat}{p:Pl}{s:HS}(a:kM)(h:HC we w n p s)(hi:lv s)(hx:a.x.Ok)(hP:qE w a.l.1.patch a.l.2)(hL:GX a.l.1)(hc:(tx a.l.1.patch.text).size<=100000000)(hs:a.l.1.sum.size<=100000000)(hT:cB w)(hE:gK w)(b:s.js.d.aF.length<=900000)(z:s.js.bW.length<=1000000):
  Calls Tryz.prog 35 #[.pointer (some ⟨p.o.hb,0,none⟩), .agg (cU a).toArray] w (bS we w n p (s.act n a).1 (gM (s.act n a).2)):=by
 obtain⟨R,eR⟩:=x_ (bS we w n p (s.act n a).1 (gM (s.act n a).2))
 rw[<-eR];obtain⟨cs,g⟩:=x_ (cU a)
 obtain⟨V,eV⟩:=x_ ((w.alloc (.cells cs.toArray 89)).alloc (.cells #[.int .i64 0, .int .i64 0, .int .i64 0, .string ⟨#[]⟩, .string ⟨#[]⟩, .int .i64 0, .int .i64 0] 42))
 have f:Below w.heap.size w V:=by rw[eV];exact((Below.refl _ _).alloc (aL _) _).alloc (by simp) _
 have B:ay V w.heap.size cs 89:=by rw[eV];exact(ay.new w cs 89).alloc _
 have C:ay V (w.heap.size+1) bO 42:=by rw[eV];exact ay.made (l:=bO) (by simp) rfl
 have hV:=h.grow f;have P:=hT.below f (aL _);have ci:=hE.below f (aL _);have EV:Hid ((w.alloc (.cells cs.toArray 89)).alloc (.cells #[.int .i64 0, .int .i64 0, .int .i64 0, .string ⟨#[]⟩, .string ⟨#[]⟩, .int .i64 0, .int .i64 0] 42)=V):=h_ eV.symm;have c0:=B.ag 0 (.bool a.GG) (by rw[g];rfl);have K:Hid (V.rangeAt w.heap.size 1 (bU a.x)):=h_ λj v hj=>B.ag (1+j) v (by rw[g];exact ve hj)
 have L:Hid (V.rangeAt w.heap.size 7 (fq a.l)):=h_ λj v hj=>B.ag (7+j) v (by rw[g];exact Bj hj)
 have I:=h_ (rK (bU a.x) rfl);have J:=h_ (IU (fq a.l) rfl);have U:=h_ (MH a.l hV hi (hP.below f (aL _)) hL hc hs P b z);have T:=h_ (jr a.x hV hi hx P ci b z);have HA:Hid (s.act n a=if a.GG=true then s.GG n a.l.1 else s.file n a.x):=h_ rfl;obtain⟨r,er⟩:=x_ (s.act n a)
 have Q:a.GG=true->s.GG n a.l.1=r:=λq=>by rw[er,HA.out,if_pos q]
 have S:a.GG=false->s.file n a.x=r:=λq=>by rw[er,HA.out,if_neg (by rw[q];decide)]
 obtain⟨s',e',M⟩:=r;rw[<-er]at eR;obtain⟨es,i⟩:=x_ (aK e')
 have D:gM (e',M)= .tuple #[.agg es.toArray, .int .i64 M]:=by rw[i];rfl
 have A:=h_ (cE es (by rw[i];rfl));have Z:Hid (∀u∈es,u.oneCell'=true):=h_ (by rw[i];exact cm e');have Y:Hid (bO.length=es.length):=h_ (by rw[i];rfl);have co:=C.lt;have W:Hid (∀E,bS we V n p s' (gM (e',M)) (.returned (gM (e',M))) E->ay E (w.heap.size+1) bO 42/\∀w6,E.grownBy w6 (some (w.heap.size+1))->R (.returned (.tuple #[.agg es.toArray, .int .i64 M])) w6):=h_ λE y=>by
  refine⟨?_,λw6 hg=> ?_⟩
  ·obtain⟨_,p',_,_,_,_,N,_⟩:=y;exact C.bG (N.block _ C.lt (λhF=>by have:=h.lt hF;omega))
  ·rw[eR];dsimp only;rw[D];rw[D]at y;exact bS.tail h f y (by omega) co hg
 obtain⟨fs,an⟩:=x_ (bU a.x)
 obtain⟨ls,bi⟩:=x_ (fq a.l)
 rw[<-an]at K I T;rw[<-bi]at L J U;have X:=h_ D;rw[<-g];clear eR g eV f B C hV P ci h hi hx hP hL hc hs hT hE b z HA er i D co an bi;cases hsay:a.GG with
 |true=>
  have e1:=Q hsay;rw[hsay]at c0;rw[e1]at U;dsimp only at U;clear Q S e1 T hsay K I;go_enter Tryz.func35,Tryz.ntmps35;go_wp2_with (first
   |simp only[EV.out]
   |(refine aH (.tmp 9) ?_;refine wpList_load_mid rfl 38 (.tmp 9) rfl w.heap.size 7 rfl ls _ L.out Tryz.underlying38 rfl J.out ?_))
  refine U.out.mono ?_;intro e E y;obtain rfl:=y.1;obtain⟨N,h6⟩:=W.out E y;have H:=h_ N;have H6:=h_ h6;rw[X.out];clear y N h6 U;go_wp2_with (refine aN (.tmp 4) ?_;refine Hk.aZ rfl 42 (.tmp 4) (.tmp 12) rfl (w.heap.size+1) rfl es rfl bO 42 H.out A.out Y.out Z.out ?_;intro w9 m t O;have F:=h_ m;have G:=h_ t;clear m t O;simp only[Act.put])
  refine bodyPost_ret (v:= .tuple #[.agg es.toArray, .int .i64 M]) (Hk.aB (fn:=Tryz.f35) (p:=4) (u:=5) (ty:=42) rfl _ _ (w.heap.size+1) 42 es.toArray (0,0) _ rfl F.out Tryz.underlying42 rfl (by rw[A.out];simp) rfl) rfl ?_;exact H6.out _ G.out
 |false=>
  have e1:=S hsay;rw[hsay]at c0;rw[e1]at T;dsimp only at T;clear Q S e1 U hsay L J;go_enter Tryz.func35,Tryz.ntmps35;go_wp2_with (first
   |simp only[EV.out]
   |(refine aH (.tmp 15) ?_;refine wpList_load_mid rfl 29 (.tmp 15) rfl w.heap.size 1 rfl fs _ K.out Tryz.underlying29 rfl I.out ?_))
  refine T.out.mono ?_;intro e E y;obtain rfl:=y.1;obtain⟨N,h6⟩:=W.out E y;have H:=h_ N;have H6:=h_ h6;rw[X.out];clear y N h6 T;go_wp2_with (refine aN (.tmp 4) ?_;refine Hk.aZ rfl 42 (.tmp 4) (.tmp 18) rfl (w.heap.size+1) rfl es rfl bO 42 H.out A.out Y.out Z.out ?_;intro w9 m t O;have F:=h_ m;have G:=h_ t;clear m t O;simp only[Act.put])
  refine bodyPost_ret (v:= .tuple #[.agg es.toArray, .int .i64 M]) (Hk.aB (fn:=Tryz.f35) (p:=4) (u:=5) (ty:=42) rfl _ _ (w.heap.size+1) 42 es.toArray (0,0) _ rfl F.out Tryz.underlying42 rfl (by rw[A.out];simp) rfl) rfl ?_;exact H6.out _ G.out
end Go.Proofs.YtkmbmfengcdmoaaGreatDoor
namespace Go.Proofs.YtkmbmfengcdmoaaGreatDoor
open Go.RowKit Go.W32 Go.ay Go.Cs Go.Jn Go.Dk Go.Ho Go.Apl Go.Sg Go.Cv

theorem xe{x:kv}(h:Cf x):x.text.length<=100000:=by
 unfold kv.text;cases hs:x.small with
 |false=>simp
 |true=>
  unfold kv.small at hs;rw[ua,uD,uD]at hs
  have:=vN x.jc h.jc;have a:(x.new.start.flatMap (λs:Int×Int=> [s.1,s.2])).length=2*x.new.start.length:=by
   generalize x.new.start=l;induction l with
   |nil=>rfl
   |cons y l ih=>rw[BZ,fu,ih];simp;omega
  have b:x.jc.length<=440:=by simp only[kv.jc,mT.jc,mT.front,mT.back,fu,kq,qA,a];omega
  rw[if_pos rfl,fu]
  have:dI.length=5:=rfl;omega
theorem yY{x:Let}(h:GX x)(o:x.sum.size<=1000):(tx x.patch.text).size<=100000/\(⟨(Ja x (tx x.patch.text)).toArray⟩:ByteArray).size<=1000000:=by
 have d:(tx x.patch.text).size<=100000:=by rw[ft];exact xe h.patch
 refine⟨d, ?_⟩;obtain⟨a,b⟩:=x_ (tx x.patch.text)
 rw[<-b]at d⊢;obtain⟨⟨p,q⟩,_,⟨r,t⟩,⟨u,v⟩,⟨f,g⟩⟩:=h.jc;have l:=Dl (qV x a) (by
  intro n e;simp only[qV,lC,DR,DW]at e;rcases e with rfl|rfl|rfl|rfl|rfl<;>omega)
 have m:(qV x a).length=5:=rfl;have i:a.data.toList.length=a.size:=by simp
 have j:x.sum.data.toList.length=x.sum.size:=by simp
 show(Ja x a).toArray.size<=_;rw[tY];unfold Ja;simp only[fu,kq,qA];omega
def HS.bH(s:HS)(a:kM):HS:= {s with js:= {s.js with d:=s.js.d.arm a.after a.writes a.bytes}}
section
variable {c:cZ} {me secret:Int} {bF:List Int} {k:Nat} {s:HS} {es:List aV}
theorem cM.Cd(h:cM c me secret bF 300 s k es){a:kM}(b:cP a.after/\cP a.writes/\cP a.bytes):GH 300 (s.bH a) k:=h.gh.bH b.1.1 b.1.2 b.2.1.1 b.2.1.2 b.2.2.1 b.2.2.2
theorem cM.xF(g:oO c me secret bF=true)(h:cM c me secret bF 300 s k es)(hm:k<900000)(a:kM)(F:cP a.after/\cP a.writes/\cP a.bytes)(d:a.x.Ok)(C:GX a.l.1)(G:a.l.1.sum.size<=1000):
  ∃b,A5 c me secret bF 300 k (HS.act 300 (s.bH a) a).1 a.writes a.bytes b/\((HS.act 300 (s.bH a) a).2.2=0->(HS.act 300 (s.bH a) a).2.1∈b/\(a.GG=false->a.x∈cg s b))/\(∀y∈es,y∈b)/\(∀x∈cg s es,x∈cg s b):=by
 obtain⟨⟨o,p⟩,⟨v,w⟩,r,t⟩:=F;have more:∀e:aV,(∀y∈es,y∈es++ [e])/\∀x∈cg s es,x∈cg s (es++ [e]):=λe=>⟨λy m=>List.mem_append_left _ m,λx d=>by rw[im];exact yc d⟩
 unfold HS.act;cases hsay:a.GG with
 |true=>
  rw[if_pos rfl];obtain⟨_,_,_,⟨D,E⟩,_⟩:=C.jc;obtain⟨z,A⟩:=h.AO g (by decide) hm o p v w r t (f:=a.l.1) D E rfl (by have:=(yY C G).2;omega);obtain⟨b,B,n,i⟩:=h.after g (by decide) hm o p v w r t D E z A a.writes a.bytes;refine⟨b,B,λe=>⟨?_,λe=>by cases e⟩, ?_⟩
  ·have i:=i e;rcases n with⟨_,q⟩|q
   ·exact absurd e q
   ·show(HS.GG 300 _ a.l.1).2.1∈_;have j:(HS.GG 300 (s.bH a) a.l.1).2.1=_:=i;rw[j,q];simp
  ·rcases n with⟨q,_⟩|q
   ·rw[q];exact⟨λy m=>m,λx d=>d⟩
   ·rw[q];exact more _
 |false=>
  rw[if_neg (by decide)];obtain⟨z,A,u⟩:=h.yN g (by decide) hm o p v w r t d;obtain⟨b,B,n,i⟩:=h.after g (by decide) hm o p v w r t d.f0 d.f1 z A a.writes a.bytes;refine⟨b,B,λe=> ?_, ?_⟩
  ·have i:=i e;have u:=u e;rcases n with⟨_,q⟩|q
   ·exact absurd e q
   ·have j:(HS.file 300 (s.bH a) a.x).2.1=_:=i;refine⟨by rw[j,q];simp,λ_=> ?_⟩;rw[q];exact qa d u.1 u.2 rfl rfl
  ·rcases n with⟨q,_⟩|q
   ·rw[q];exact⟨λy m=>m,λx d=>d⟩
   ·rw[q];exact more _
end
end Go.Proofs.YtkmbmfengcdmoaaGreatDoor
namespace Go.Proofs.YtkmbmfengcdmoaaGreatDoor
open Go.RowKit Go.W32 Go.ay Go.Cs Go.Lib Go.Opn Go.Mg Go.Cv Go.Apl Go.Rf
structure tG (c:cZ) (x:ei):Prop where
 p1:decide (1<=x.ref)=true
 p2:decide (x.ref<=1000000)=true
 p3:decide (0<=x.act)=true
 p4:decide (x.act<(c.bQ.length:Int))=true
 p5:decide (0<=x.low)=true
 p6:decide (x.low<=x.high)=true
 p7:decide (x.high<c.days)=true
 p8:decide (0<=x.cJ)=true
 p9:decide (x.cJ<=c.days)=true
set_option maxHeartbeats 2000000 in
theorem xA(c:cZ)(x:ei)(W:World)(hv:tG c x):
  Calls Tryz.prog 73 #[.agg (cD c).toArray, .agg (bU x).toArray] W λe w'=>e= .returned (.bool true)/\Below W.heap.size W w':=by
 obtain⟨R,o⟩:=x_ (λe w'=>e= .returned (.bool true)/\Below W.heap.size W w':Ending->World->Prop)
 rw[<-o];obtain⟨j,b⟩:=x_ (cD c)
 obtain⟨m,a⟩:=x_ (bU x)
 obtain⟨V,i⟩:=x_ ((W.alloc (.cells j.toArray 27)).alloc (.cells m.toArray 29))
 have d:Below W.heap.size W V:=by rw[i];exact((Below.refl _ _).alloc (aL _) _).alloc (by simp) _
 have n:ay V W.heap.size j 27:=by rw[i];exact(ay.new W j _).alloc _
 have f:ay V (W.heap.size+1) m 29:=by rw[i];exact ay.made (l:=m) (by simp) rfl
 have q:=n.ag 3 (.slice c.aA c.bQ.length c.ac) (by rw[b];rfl);have r:=n.ag 5 (.int .i64 c.days) (by rw[b];rfl);have D:=f.ag 0 (.int .i64 x.ref) (by rw[a];rfl);have E:=f.ag 1 (.int .i64 x.act) (by rw[a];rfl);have F:=f.ag 2 (.int .i64 x.low) (by rw[a];rfl);have G:=f.ag 3 (.int .i64 x.high) (by rw[a];rfl);have H:=f.ag 4 (.int .i64 x.cJ) (by rw[a];rfl);have g:Hid (∀w',Below V.heap.size V w'->R (.returned (.bool true)) w'):=h_ λw' h=>by rw[o];exact⟨rfl,d.trans (h.mono d.size)⟩
 have p:Hid ((W.alloc (.cells j.toArray 27)).alloc (.cells m.toArray 29)=V):=h_ i.symm;rw[<-b, <-a];clear o b a i d n f;obtain⟨t,u,v,w,y,z,A,B,C⟩:=hv;go_enter Tryz.func73,Tryz.ntmps73;go_wp2_with (simp only[p.out])
 first
  |exact g.out _ (Below.refl _ _)
  |(go_ret;exact g.out _ (Below.refl _ _))
set_option maxHeartbeats 4000000 in
theorem sf(c:cZ)(house:Int)(A:Option Addr)(cap:Nat)(l:List ei)(W:World)(hc:dV W c)(hz:lk c)(he:jo c.iU=0)(h0:0<=house)(h1:house<c.aj)(hl:SL W 6 bU A l)(hn:l.length<=4000)(hv:∀x∈l,tG c x)(hi:l.Pairwise λa b=>a.ref<b.ref):
  Calls Tryz.prog 29 #[.agg (cD c).toArray, .agg (pZ house A l.length cap).toArray] W λe w'=>e= .returned (.bool true)/\Below W.heap.size W w':=by
 obtain⟨R,eR⟩:=x_ (λe w'=>e= .returned (.bool true)/\Below W.heap.size W w':Ending->World->Prop)
 rw[<-eR];obtain⟨t,w⟩:=x_ (cD c)
 obtain⟨fl,D⟩:=x_ (pZ house A l.length cap)
 obtain⟨V,U⟩:=x_ ((W.alloc (.cells t.toArray 27)).alloc (.cells fl.toArray 81))
 have z:Below W.heap.size W V:=by rw[U];exact((Below.refl _ _).alloc (aL _) _).alloc (by simp) _
 have K:ay V W.heap.size t 27:=by rw[U];exact(ay.new W t _).alloc _
 have G:ay V (W.heap.size+1) fl 81:=by rw[U];exact ay.made (l:=fl) (by simp) rfl
 have HQ:Hid (∀w',Below V.heap.size V w'->w'.cell? ⟨W.heap.size,0,none⟩=some (.int .i64 c.aj)/\w'.cell? ⟨W.heap.size+1,0,none⟩=some (.int .i64 house)/\w'.cell? ⟨W.heap.size+1,1,none⟩=some (.slice A l.length cap)/\w'.cell? ⟨W.heap.size+1,2,none⟩=some (.slice none 0 0)):=h_ λw' h=>
  ⟨(K.below h K.lt).ag 0 _ (by rw[w];rfl),(G.below h G.lt).ag 0 _ (by rw[D];rfl),(G.below h G.lt).ag 1 _ (by rw[D];rfl),(G.below h G.lt).ag 2 _ (by rw[D];rfl)⟩
 have HM:Hid (∀w',Below V.heap.size V w'->w'.rangeAt W.heap.size 0 t):=h_ λw' h=>rg_of (K.below h K.lt)
 have J:=h_ (ig t (by rw[w];rfl));have HS:Hid (∀w',Below V.heap.size V w'->SL w' 6 bU A l):=h_ λw' h=>hl.below (z.trans (h.mono z.size)) (aL _)
 have I:Hid (∀w',Below V.heap.size V w'->R (.returned (.bool true)) w'):=h_ λw' h=>by rw[eR];exact⟨rfl,z.trans (h.mono z.size)⟩
 have EV:Hid ((W.alloc (.cells t.toArray 27)).alloc (.cells fl.toArray 81)=V):=h_ U.symm;have O:=h_ (zP c V (hc.below z (aL _)) hz);unfold Aa at O;rw[he]at O;have an:Hid (∀x w',x∈l->Calls Tryz.prog 73 #[.agg t.toArray, .agg (bU x).toArray] w' λe w2=>e= .returned (.bool true)/\Below w'.heap.size w' w2):=h_ λx w' hx=>by rw[w];exact xA c x w' (hv x hx)
 have HN:=h_ hn;have d9:=h_ hi;rw[<-w]at O;rw[<-w, <-D];have Q:=h_ (HM.out V (Below.refl _ _));clear eR w D U z K G hc hz he hl hn hv hi;go_enter Tryz.func29,Tryz.ntmps29;go_wp2_with (first
  |simp only[EV.out]
  |(refine aH (.tmp 2) ?_;refine wpList_load_mid rfl 27 (.tmp 2) rfl W.heap.size 0 rfl t _ Q.out Tryz.underlying27 rfl J.out ?_))
 refine O.out.mono ?_;rintro e w2 ⟨⟨i,rfl⟩,L⟩;obtain⟨q1,q2,q3,q4⟩:=HQ.out w2 L;have ci:=h_ L;have f9:=HN.out;have t1:decide (house<0)=false:=dy (by omega);have t2:decide (c.aj<=house)=false:=dy (by omega);have t3:decide ((4000:Int)<(l.length:Int))=false:=dy (by omega);clear L O Q h0 h1;go_wp2_with fail;clear q1 q2 q3 q4
 go_loopw [47] (λv wr=> ∃k:Nat,k<=l.length/\v= .int .i64 (k:Int)/\Below V.heap.size V wr) (λv _=>(l.length:Int).toNat- (RowKit.intOf v).toNat)
 case atStart=>exact⟨0,gu _,rfl,ci.out⟩
 case round=>
  obtain⟨k,hk,rfl,m⟩:=hrel;have co:=h_ m;have f9:=HN.out;by_cases B:k<l.length
  ·have Z:(k:Int)<(l.length:Int):=by omega
   obtain⟨x,ex⟩:∃x,l[k]? =some x:=⟨_,eH B⟩
   obtain⟨ba,oa,ea⟩:=cG (HS.out V (Below.refl _ _)) (by intro e;rw[e]at B;simp at B);subst ea;obtain⟨p,o⟩:=x_ (bU x)
   have d7:Hid (wr.rangeAt ba (oa+k*6) p):=h_ (by rw[o];exact dq (HS.out wr m) ex);obtain⟨C,e5⟩:=x_ (wr.alloc (.cells p.toArray 29))
   have Y:Below wr.heap.size wr C:=by rw[e5];exact(Below.refl _ _).alloc (aL _) _
   have AN:ay C wr.heap.size p 29:=by rw[e5];exact ay.new wr p _
   have d:=h_ (m.trans (Y.mono m.size));have F:=h_ (oI p (by rw[o];rfl));have d8:Hid (∀u∈p,u.oneCell'=true):=h_ (by rw[o];exact lQ x);have d6:Hid (p.length=6):=h_ (by rw[o];rfl);have T:Hid (∀w',Below C.heap.size C w'->w'.rangeAt wr.heap.size 0 p):=h_ λw' h=>rg_of (AN.below h AN.lt)
   have S:Hid (∀w',Below C.heap.size C w'->w'.rangeAt W.heap.size 0 t):=h_ λw' h=>HM.out w' (d.out.trans (h.mono d.out.size))
   have H:=h_ (λw'=>an.out x w' (ue ex));rw[<-o]at H;have E5:=h_ e5;have EX:=h_ ex;have bi:=h_ o;have q:=h_ B;have P:=h_ AN;clear m Y AN e5 ex o hk B;go_wp2_with (first
    |(refine aH (.tmp 50) ?_;refine wpList_load_mid rfl 29 (.tmp 50) rfl ba (oa+k*6) rfl p _ d7.out Tryz.underlying29 rfl F.out ?_)
    |(refine aN (.tmp 8) ?_;refine Hk.aD rfl 29 (.tmp 8) (.tmp 51) rfl wr.heap.size p.toArray rfl rfl _ 29 rfl (by rw[F.out];simp) (by simp[d6.out]) (all_oneCell_toArray d8.out) ?_;rw[<-E5.out];simp only[Pt]))
   cases k with
   |zero=>
    refine Free.ai 20 [(2, .det (.bool true))] (λw'=>Below C.heap.size C w') (by kernel_rfl) (by kernel_rfl) (Free.aW (λj mk r N=>by simp only[Free.find]at N;repeat' (first|cases N|split at N))) (Below.refl _ _).drew (λ_ _ h g=>h.trans (Below.mono g h.size)) ?_;simp only[eJ,dT];iterate 20 (first|(apply Free.dw (by first|exact fk rfl rfl rfl rfl|exact mQ rfl rfl rfl);simp only[Pt])|(apply Free.ae (Free.wq rfl) rfl;(intro w' n E;exact Hk.aU 27 (.tmp 2) rfl W.heap.size 0 rfl t _ (S.out w' n) Tryz.underlying27 rfl J.out);simp only[Pt])|(apply Free.ae (Free.wq rfl) rfl;(intro w' n E;exact Hk.aU 29 (.tmp 8) rfl wr.heap.size 0 rfl p _ (T.out w' n) Tryz.underlying29 rfl F.out);simp only[Pt])|(apply Free.aC (Free.wq rfl) rfl;(intro w' n E;refine Free.au (f:=73) (args:= #[.agg t.toArray, .agg p.toArray]) (by clear n E;go_simp<;>rfl) ?_;refine(H.out w').mono ?_;rintro e gc ⟨rfl,M⟩;exact⟨_,rfl,M,rfl⟩);simp only[Pt])|(apply Free.ae (Free.wq rfl) rfl;(intro w' n E;skip;clear E n;go_light;go_simp<;>rfl);(try simp only[Pt])))
    apply Free.ax;intro wz hz _ _;simp only[fm,fo];have HZ:=h_ (d.out.trans (hz.mono d.out.size));clear hz;go_wp2_with fail
    go_roundw
    case rel=>exact⟨1,q.out,rfl,HZ.out⟩
    case measure=>have:=q.out;simp[RowKit.intOf];omega
   |succ j=>
    obtain⟨y,ey⟩:∃y,l[j]? =some y:=⟨_,eH (by have:=q.out;omega)⟩
    have dl:Hid (y.ref<x.ref):=h_ (by
     obtain⟨a1,a2⟩:=jS.1 ey;obtain⟨K,G⟩:=jS.1 EX.out
     have:=List.pairwise_iff_getElem.1 d9.out j (j+1) a1 K (by omega);rw[a2,G]at this;exact this)
    have f8:Hid (∀w',Below C.heap.size C w'->w'.cell? ⟨W.heap.size+1,1,none⟩=some (.slice (some ⟨ba,oa,none⟩) l.length cap)/\w'.cell? ⟨ba,oa+j*6,none⟩=some (.int .i64 y.ref)/\w'.cell? ⟨wr.heap.size,0,none⟩=some (.int .i64 x.ref)):=h_ λw' h=>
     ⟨(HQ.out w' (d.out.trans (h.mono d.out.size))).2.2.1,dq (HS.out w' (d.out.trans (h.mono d.out.size))) ey 0 _ rfl,(P.out.below h P.out.lt).ag 0 _ (by rw[bi.out];rfl)⟩
    have ge:=q.out;have gt:IntKind.i64.wrap (((j+1:Nat):Int)-1)=(j:Int):=by rw[IntWalk.i64_left,IntWalk.wrap64_in _ ⟨by omega,by omega⟩];omega
    have io:IntKind.i64.wrap (j:Int)=(j:Int):=IntWalk.i64_in _ ⟨by omega,by omega⟩;have g8:(j:Int)<(l.length:Int):=by omega
    have g7:(0:Int)<((j+1:Nat):Int):=by omega
    have ii:((j:Int)).toNat=j:=by omega
    have t8:decide (x.ref<=y.ref)=false:=dy (by have:=dl.out;omega);clear ey;refine Free.ai 20 [(2, .det (.bool true))] (λw'=>Below C.heap.size C w') (by kernel_rfl) (by kernel_rfl) (Free.aW (λj mk r N=>by simp only[Free.find]at N;repeat' (first|cases N|split at N))) (Below.refl _ _).drew (λ_ _ h g=>h.trans (Below.mono g h.size)) ?_;simp only[eJ,dT];iterate 20 (first|(apply Free.ae (Free.wq rfl) rfl;(intro w' n E;exact Hk.aU 27 (.tmp 2) rfl W.heap.size 0 rfl t _ (S.out w' n) Tryz.underlying27 rfl J.out);simp only[Pt])|(apply Free.ae (Free.wq rfl) rfl;(intro w' n E;exact Hk.aU 29 (.tmp 8) rfl wr.heap.size 0 rfl p _ (T.out w' n) Tryz.underlying29 rfl F.out);simp only[Pt])|(apply Free.aC (Free.wq rfl) rfl;(intro w' n E;refine Free.au (f:=73) (args:= #[.agg t.toArray, .agg p.toArray]) (by clear n E;go_simp<;>rfl) ?_;refine(H.out w').mono ?_;rintro e gc ⟨rfl,M⟩;exact⟨_,rfl,M,rfl⟩);simp only[Pt])|(apply Free.ae (Free.wq rfl) rfl;(intro w' n E;cases f8.out w' n;clear E n;go_light;go_simp<;>rfl);(try simp only[Pt])))
    apply Free.ax;intro wz hz _ _;simp only[fm,fo];have HZ:=h_ (d.out.trans (hz.mono d.out.size));clear hz;go_wp2_with fail
    go_roundw
    case rel=>exact⟨j+2,q.out,by push_cast;rfl,HZ.out⟩
    case measure=>have:=q.out;simp[RowKit.intOf];omega
  ·have Z: ¬(k:Int)<(l.length:Int):=by omega
   obtain⟨q1,q2,q3,q4⟩:=HQ.out wr m;have HF:=h_ (I.out wr m);clear m hk B q1 q2 q3;go_wp2_with fail;clear q4 HF Z
   go_loopw [76] (λv w1=>v= .int .i64 0/\Below V.heap.size V w1) (λ_ _=>0)
   case atStart=>exact⟨rfl,co.out⟩
   case round=>
    obtain⟨rfl,X⟩:=hrel;have HF:=h_ (I.out _ X);clear I X;go_wp2_with fail;(try go_ret);exact HF.out
end Go.Proofs.YtkmbmfengcdmoaaGreatDoor
