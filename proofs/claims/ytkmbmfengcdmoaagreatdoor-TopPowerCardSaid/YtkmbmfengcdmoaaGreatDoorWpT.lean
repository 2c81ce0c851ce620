/- The law TopPower, walked. Conditions: the variables of digest and strconv hold their values; the arguments lie in memory. -/
import Derived.Test.YtkmbmfengcdmoaaGreatDoorZBP
import Derived.Test.YtkmbmfengcdmoaaGreatDoorZBQ
import Derived.Test.YtkmbmfengcdmoaaGreatDoorZBN
set_option maxRecDepth 100000
set_option linter.all false
namespace Go.Proofs.YtkmbmfengcdmoaaGreatDoor
open Go.RowKit Go.W32 Go.ay Go.Cs Go.Jn Go.Dk Go.Mp Go.Ho Go.Opn Go.Maps Go.WideMaps Go.Apl Go.Mg Go.Rf Go.Lib Go.Cv Go.Sg

theorem JP{own:Int}{n a:Nat}(d:0<=own)(f:own<=255)(g:n*8<=140737488355328)(e:a=own.toNat % n):own.tmod (n:Int)=(a:Int):=by
 obtain⟨k,rfl⟩:∃k:Nat,own=(k:Int):=⟨own.toNat,by omega⟩
 have c:(k:Int).toNat=k:=by simp
 rw[c]at e;have b:(k:Int).tmod (n:Int)=((k % n:Nat):Int):=by rw[Int.tmod_eq_emod_of_nonneg (by omega)];simp
 rw[b, <-e]
theorem Bb{K:List (Nat×Free.gN)}{v:Value}{j:Nat}(b:K= [(j, .det v)]):Free.dm K:=by
 subst b;refine Free.aW (λi c r a=> ?_);simp only[Free.find]at a;split at a
 ·cases a
 ·cases a
def Dw(we:World)(db_:Nat)(s:HS)(u1:Value)(sg_:List aV)(u2:Value)(fs:List ei)(x:Nat)(w:World):Prop:=∃p:Pl,p.o.hb=x/\p.b=db_/\jh we w p s u1 sg_ u2 fs
theorem Bc{K:List (Nat×Free.gN)}{n:World}{b:Nat}{s:HS}{l m:Value}{c:List aV}{d:List ei}(h:K= [(8, .ind (λx=> .tuple #[.pointer (some ⟨x,0,none⟩), .int .i64 0]) (Dw n b s l c m d))]):Free.dm K:=by
 subst h;intro j o r a y q t i k;simp only[Free.find]at a;split at a
 ·cases a;obtain⟨p,e,f,g⟩:=i;exact⟨p,e,f,g.grow k⟩
 ·cases a
theorem De{K:List (Nat×Free.gN)}{g:World}{S n:Nat}{c:cZ}{own secret:Int}{bF:List Int}(f:K= [(7, .ind (λx=> .pointer (some ⟨x,0,none⟩)) (od S n)),(8, .ind (λx=> .tuple #[.pointer (some ⟨x,0,none⟩), .int .i64 0]) (KU (DY g S n c own secret bF)))]):Free.dm K:=by
 subst f;intro j h r a y i k d e;simp only[Free.find]at a
 repeat' split at a
 ·cases a;exact d.grow e
 ·cases a;obtain⟨b,d⟩:=d;exact⟨b,d.grow e⟩
 ·cases a
theorem C6{K:List (Nat×Free.gN)}{P:Nat->Prop}{j:Nat}(b:K= [(j, .ind (λi=> .int .i64 (i:Int)) (λi _=>P i))]):Free.dm K:=by
 subst b;intro i d r a y f g c e;simp only[Free.find]at a;split at a
 ·cases a;exact c
 ·cases a
theorem AF(x:ei)(w:World):(Instr.buildSlice 73 1 #[(0, .agg (bU x).toArray)]).run Tryz.prog w= .ok (.slice (some ⟨w.heap.size,0,none⟩) 1 1) (w.alloc (.cells (bU x).toArray 29)):=by kernel_rfl
theorem Aq(x:aV)(w:World):(Instr.buildSlice 56 1 #[(0, .agg (aK x).toArray)]).run Tryz.prog w= .ok (.slice (some ⟨w.heap.size,0,none⟩) 1 1) (w.alloc (.cells (aK x).toArray 42)):=by kernel_rfl
theorem zm{c:cZ}{s:HS}{x:ei}(a:s.bQ=(c.bQ.length:Int))(b:s.days=c.days)(h:dE s x=true):tG c x:=by unfold dE at h;rw[a,b]at h;simp only[ua]at h;obtain⟨d,e,f,g,i,j,k,l,m⟩:=h;exact⟨d,e,f,g,i,j,k,l,m⟩
theorem zu{l F:List ei}(e:l.Perm F)(f:l.Pairwise λa b=>a.ref<=b.ref)(d:(F.map (·.ref)).Nodup):l.Pairwise λa b=>a.ref<b.ref:=by have c:(l.map (·.ref)).Nodup:=((e.map _).nodup_iff).2 d;unfold List.Nodup at c;rw[List.pairwise_map]at c;exact(f.and c).imp fun {a b} h=>by have:=h.1;have:=h.2;omega
theorem y5{l:List ei}(h:l.Pairwise λa b=>a.ref<b.ref){x y:ei}(n:x∈l)(o:y∈l)(e:x.ref=y.ref):x=y:=by
 obtain⟨i,k⟩:=NQ.1 n;obtain⟨j,m⟩:=NQ.1 o;obtain⟨f,d⟩:=jS.1 k;obtain⟨g,c⟩:=jS.1 m;rcases Nat.lt_trichotomy i j with q|q|q
 ·have:=List.pairwise_iff_getElem.1 h i j f g q;rw[d,c]at this;omega
 ·subst q;rw[d]at c;exact c
 ·have:=List.pairwise_iff_getElem.1 h j i g f q;rw[d,c]at this;omega
theorem AX(q:Int)(a:0<=q)(b:q<=65535):(q.tmod 2=1\/q.tmod 2=0)/\0<=q.tdiv 2/\q.tdiv 2<=65535:=by rw[Int.tmod_eq_emod_of_nonneg a,Int.tdiv_eq_ediv_of_nonneg a];omega
set_option maxHeartbeats 20000000 in
theorem tj(c:cZ)(own:Int)(sA:Option Addr)(sc:Nat)(cF:List Int)(Fr:Option Addr)(lc:Nat)(l:List kM)(P:Int)(W:World)(hT:cB W)(hE:gK W)(hc:dV W c)(hz:lk c)(hs:SL W 1 Cs.encI sA cF)(Wb:cF.length*8<=140737488355328)
  (hl:SL W 35 cU Fr l) (E9:l.length<=9223372036854775807) (Fd:∀a∈l,BR W a) (Vy:0<=own) (Vz:own<=255) (Wg:0<=P) (Wh:P<=65535):
  Calls Tryz.prog 7 #[.agg (cD c).toArray, .int .u8 own, .slice sA cF.length sc, .slice Fr l.length lc, .int .u16 P] W λe w'=>e= .returned (.bool true)/\Below W.heap.size W w':=by
 obtain⟨R,eR⟩:=x_ (λe w'=>e= .returned (.bool true)/\Below W.heap.size W w':Ending->World->Prop)
 rw[<-eR];have py:Hid (∀w',Below W.heap.size W w'->R (.returned (.bool true)) w'):=h_ λw' h=>by rw[eR];exact⟨rfl,h⟩
 clear eR;obtain⟨V,cs,hx⟩:=uh W c;have EV:=h_ hx.e;have Hh:=h_ hx.below;have HI:=h_ (ig cs (by rw[hx.cs];rfl));have lw:=h_ hx.cs;have HK:Hid (∀w',Below V.heap.size V w'->w'.rangeAt W.heap.size 0 cs/\w'.cell? ⟨W.heap.size,0,none⟩=some (.int .i64 c.aj)/\dV w' c/\SL w' 1 Cs.encI sA cF/\SL w' 35 cU Fr l/\∀a∈l,qE w' a.l.1.patch a.l.2):=h_ λw' h=>
  have X:=hx.below.trans (h.mono hx.below.size)
  ⟨(hx.row.below h hx.row.lt).rg,(hx.row.below h hx.row.lt).at (by rw[hx.cs];rfl),hc.below X (aL _),hs.below X (aL _),hl.below X (aL _),λa ha=>(Fd a ha).l.pat.below X (aL _)⟩
 have HT:=h_ (hT.below hx.below (aL _));have HE:=h_ (hE.below hx.below (aL _));have HZ:=h_ hz;have Rd:=h_ Wb;have Xz:=h_ E9;have v6:Hid (0<=own/\own<=255/\0<=P/\P<=65535):=h_ ⟨Vy,Vz,Wg,Wh⟩;have Wv:Hid (∀a∈l,a.x.Ok/\SC a.l.1/\cP a.after/\cP a.writes/\cP a.bytes):=h_ λa ha=>⟨(Fd a ha).x,(Fd a ha).l.nm,(Fd a ha).n⟩
 have C1:=h_ (tq V HT.out HE.out);rw[<-lw.out];clear hx hT hE hc hz hs Wb hl E9 Fd Vy Vz Wg Wh;go_enter Tryz.func7,Tryz.ntmps7;go_wp2_with (first
  |(simp only[EV.out]))
 refine C1.out.mono ?_;rintro e w1 ⟨rfl,Rr⟩;have C2:=h_ (IX sA sc cF w1 (HK.out w1 Rr).2.2.2.1 Rd.out);have Of:=h_ Rr;clear Rr C1;go_wp2_with fail;refine C2.out.mono ?_;rintro e U ⟨no,Vv⟩;have d7:=h_ (Of.out.trans (no.mono Of.out.size));obtain⟨pv,fb,rfl,Xe,V'⟩:∃pv fb,e= .returned (.tuple #[pv, .bool fb])/\fb=rf cF/\(fb=true->OI w1 pv (cF.map cQ) U):=by
  rcases Vv with⟨q,rfl⟩|⟨q,v,rfl,ho⟩
  ·exact⟨_,_,rfl,q.symm,λe=>by cases e⟩
  ·exact⟨_,_,rfl,q.symm,λ_=>ho⟩
 have Ux:=h_ V';obtain⟨q0,q1,q2,_⟩:=HK.out U d7.out;have Ur:=h_ q0;have CS:=h_ (zF 20 c U q2 HZ.out (by decide));rw[<-lw.out]at CS;obtain⟨SB,U8⟩:=x_ (iR 20 c)
 rw[<-U8]at CS;clear no C2 Vv Xe V' q0 q1 q2 U8;go_wp2_with (first
  |(refine aH (.tmp 5) ?_;refine wpList_load_mid rfl 27 (.tmp 5) rfl W.heap.size 0 rfl cs _ Ur.out Tryz.underlying27 rfl HI.out ?_))
 refine CS.out.mono ?_;rintro e E ⟨rfl,F⟩;have Y:=h_ (d7.out.trans (F.mono d7.out.size));have Uv:Hid (fb=true->OI w1 pv (cF.map cQ) E):=h_ λh=>(Ux.out h).grow F
 obtain⟨q0,q1,_,_,q4,_⟩:=HK.out E Y.out;have Uq:=h_ q4;have HF:=h_ (py.out E (Hh.out.trans (Y.out.mono Hh.out.size)));clear F CS Ur q0 q4 Ux;cases SB
 case' false=>
  go_wp2_with fail;(try go_ret);exact HF.out
 by_cases X:(cF.length:Int)=c.aj;rotate_left
 ·have t2:((cF.length:Int) !=c.aj)=true:=by simpa using X
  clear X;go_wp2_with fail;(try go_ret);exact HF.out
 have t2:((cF.length:Int) !=c.aj)=false:=by simpa using X
 have M':=h_ X;clear X;by_cases h3:cF.length=0
 ·have t3:((cF.length:Int)==0)=true:=by simp[h3]
  clear h3;go_wp2_with fail;(try go_ret);exact HF.out
 have t3:((cF.length:Int)==0)=false:=by
  have: ¬((cF.length:Int)=0):=by omega
  simpa using this
 have Qu:=h_ h3;clear h3;cases fb
 case' false=>
  go_wp2_with fail;(try go_ret);exact HF.out
 by_cases h4:l.length<=10;rotate_left
 ·have t4:decide ((10:Int)<(l.length:Int))=true:=dt (by omega);clear h4;go_wp2_with fail;(try go_ret);exact HF.out
 have t4:decide ((10:Int)<(l.length:Int))=false:=dy (by omega);have C3:=h_ (v7 Fr lc l E Uq.out (by omega));obtain⟨LB,Ri⟩:=x_ (l.all qq)
 rw[<-Ri]at C3;have qr:=h_ h4;have Wo:=h_ Ri;clear h4 Ri Uq;go_wp2_with fail;refine C3.out.mono ?_;rintro e w4 ⟨rfl,Xh⟩;obtain rfl:E=w4:=Xh.symm;clear C3;cases LB
 case' false=>
  go_wp2_with fail;(try go_ret);exact HF.out
 clear HF;obtain⟨C,Rm⟩:=x_ (own.toNat % cF.length:Nat)
 have Vw:C<cF.length:=by rw[Rm];exact M3 _ (by have:=Qu.out;omega)
 have m5:=h_ Vw;have r1:own.tmod (cF.length:Int)=(C:Int):=JP v6.out.1 v6.out.2.1 Rd.out Rm;have v1:IntKind.i64.wrap own=own:=IntWalk.i64_in _ (by have:=v6.out;omega);have z0: ¬((cF.length:Int)=0):=by have:=Qu.out;omega
 have z1: ¬(cF= []):=λe=>Qu.out (by rw[e];rfl)
 clear Rm Vw;obtain⟨bF,Jh⟩:=x_ (cF.map cQ)
 have ci:=Uv.out (by first|rfl|trivial);rw[<-Jh]at ci;have Qw:Hid (bF.length=cF.length):=h_ (by rw[Jh,rm]);obtain⟨pA,pc,rfl,_,S5⟩:=gV (ec:=Cs.encI) (λ_=>rfl) ci.own;have Rh:=h_ (HT.out.below Y.out (aL _));have rt:=h_ (HE.out.below Y.out (aL _));obtain⟨ba,oa,es⟩:=cG (HK.out E Y.out).2.2.2.1 z1;subst es;obtain⟨M,Vf⟩:∃M,cF[C]? =some M:=⟨_,eH m5.out⟩
 have V9:bF≠ []:=λe=>z1 (by rw[Jh]at e;exact List.map_eq_nil_iff.1 e)
 obtain⟨pb,po,ep⟩:=cG S5 V9;subst ep;obtain⟨pM,Ro⟩:∃pM,bF[C]? =some pM:=⟨_,eH (by rw[Qw.out];exact m5.out)⟩
 have HG:Hid (∀w',Below E.heap.size E w'->w'.rangeAt W.heap.size 0 cs/\w'.cell? ⟨W.heap.size,0,none⟩=some (.int .i64 c.aj)/\dV w' c/\w'.cell? ⟨ba,oa+C,none⟩=some (.int .i64 M)/\SL w' 1 Cs.encI (some ⟨pb,po,none⟩) bF/\w'.cell? ⟨pb,po+C,none⟩=some (.int .i64 pM)):=h_ λw' h=>by
  obtain⟨k1,k2,k3,k4,_⟩:=HK.out w' (Y.out.trans (h.mono Y.out.size));have Jz:=S5.below h (aL _);exact⟨k1,k2,k3,fi k4 Vf,Jz,fi Jz Ro⟩
 have Pq:Hid (∀w',Below E.heap.size E w'->SL w' 35 cU Fr l/\∀a∈l,qE w' a.l.1.patch a.l.2):=h_ λw' h=>by
  obtain⟨_,_,_,_,k5,k6⟩:=HK.out w' (Y.out.trans (h.mono Y.out.size));exact⟨k5,k6⟩
 have Wx:Hid (bF.getD (C:Int).toNat 0=pM):=h_ (by rw[tZ,BX,Ro];rfl);have U3:Hid (∀w',Below E.heap.size E w'->Below W.heap.size W w'):=h_ λw' h=>Hh.out.trans ((Y.out.trans (h.mono Y.out.size)).mono Hh.out.size)
 have Xl:(C:Int)<(cF.length:Int):=by have:=m5.out;omega
 have X4:(C:Int)<(bF.length:Int):=by rw[Qw.out];exact Xl
 have V8:bF.length<=4611686018427387903:=by rw[Qw.out];have:=Rd.out;omega
 have ww:=h_ V8;have C5:=h_ (l5 E.heap.size 300 E (by decide) (by decide) (aL _));clear Jh ci S5 Vf Ro HK d7 Of Uv V9 V8;go_wp2_with fail;refine C5.out.mono ?_;rintro e w5 ⟨G,rfl,Vx,Vn⟩;have mt:=h_ Vn;have Ut:=h_ Vx;have rx:Hid (∀w',Below w5.heap.size w5 w'->w'.rangeAt W.heap.size 0 cs/\w'.cell? ⟨ba,oa+C,none⟩=some (.int .i64 M)):=h_ λw' h=>by
  obtain⟨k1,_,_,k4,_⟩:=HG.out w' (mt.out.trans (h.mono mt.out.size));exact⟨k1,k4⟩
 have C7:Hid (∀w',Below w5.heap.size w5 w'->Calls Tryz.prog 20 #[.agg cs.toArray, .int .i64 (C:Int), .int .i64 M, .slice (some ⟨pb,po,none⟩) bF.length pc, .pointer (some ⟨G,0,none⟩)] w' λe U=>Below w'.heap.size w' U/\
   ((oO c (C:Int) M bF=false/\e= .returned (.tuple #[.pointer none, .int .i64 1]))\/(oO c (C:Int) M bF=true/\∃x,e= .returned (.tuple #[.pointer (some ⟨x,0,none⟩), .int .i64 0])/\DY E E.heap.size 300 c (C:Int) M bF G x U))):=h_ λw' h=>by
  have hb:=mt.out.trans (h.mono mt.out.size);obtain⟨_,_,k3,_,k5,_⟩:=HG.out w' hb;rw[lw.out];exact mH (by decide) Rh.out rt.out hb (aL _) hb.size (Ut.out.grow h) k3 HZ.out k5 ww.out
 clear Vn Vx C5;go_wp2_with fail;cases hop:oO c (C:Int) M bF
 case' false=>
  refine Free.ai 14 [(8, .det (.tuple #[.pointer none, .int .i64 1]))] (λw'=>Below w5.heap.size w5 w') (by kernel_rfl) (by kernel_rfl) (Bb rfl) (Below.refl _ _).drew (λ_ _ h g=>h.trans (Below.mono g h.size)) ?_;simp only[eJ,dT];apply Free.ae (Free.wq rfl) rfl
  ·intro w' m B;exact Hk.aU 27 (.tmp 5) rfl W.heap.size 0 rfl cs _ (rx.out w' m).1 Tryz.underlying27 rfl HI.out
  simp only[Pt];iterate 7 (apply Free.ae (Free.wq rfl) rfl;(intro w' m B;have q1:=(rx.out w' m).2;clear B m;go_light;go_simp<;>rfl);(try simp only[Pt]))
  apply Free.aC (Free.wq rfl) rfl
  ·intro w' m B;refine Free.au (f:=20) (args:= #[.agg cs.toArray, .int .i64 (C:Int), .int .i64 M, .slice (some ⟨pb,po,none⟩) bF.length pc, .pointer (some ⟨G,0,none⟩)]) (by clear m B;go_simp<;>rfl) ?_;refine(C7.out w' m).mono ?_;rintro e pm ⟨F,⟨_,rfl⟩|⟨q,_⟩⟩
   ·exact⟨_,rfl,F,rfl⟩
   ·rw[hop]at q;cases q
  simp only[Pt];iterate 5 (apply Free.ae (Free.wq rfl) rfl;(intro w' m B;skip;clear B m;go_light;go_simp<;>rfl);(try simp only[Pt]))
  apply Free.ax;intro w6 g8 _ _;simp only[fm,fo];have HF:=h_ (py.out w6 (U3.out w6 (mt.out.trans (g8.mono mt.out.size))));clear py g8;go_wp2_with fail;(try go_ret);exact HF.out
 refine Free.ai 14 [(8, .ind (λx=> .tuple #[.pointer (some ⟨x,0,none⟩), .int .i64 0]) (Dw E G (yR c (C:Int) M bF 300) (.slice none 0 0) [] (.slice none 0 0) []))] (λw'=>Below w5.heap.size w5 w') (by kernel_rfl) (by kernel_rfl) (Bc rfl) (Below.refl _ _).drew (λ_ _ h g=>h.trans (Below.mono g h.size)) ?_;simp only[eJ,dT];apply Free.ae (Free.wq rfl) rfl
 ·intro w' m B;exact Hk.aU 27 (.tmp 5) rfl W.heap.size 0 rfl cs _ (rx.out w' m).1 Tryz.underlying27 rfl HI.out
 simp only[Pt];iterate 7 (apply Free.ae (Free.wq rfl) rfl;(intro w' m B;have q1:=(rx.out w' m).2;clear B m;go_light;go_simp<;>rfl);(try simp only[Pt]))
 apply Free.aR (Free.wq rfl) rfl
 ·intro w' m B;refine Free.au (f:=20) (args:= #[.agg cs.toArray, .int .i64 (C:Int), .int .i64 M, .slice (some ⟨pb,po,none⟩) bF.length pc, .pointer (some ⟨G,0,none⟩)]) (by clear m B;go_simp<;>rfl) ?_;refine(C7.out w' m).mono ?_;rintro e pm ⟨F,⟨q,_⟩|⟨_,x,rfl,p,q1,q2,q3,_⟩⟩
  ·rw[hop]at q;cases q
  ·exact⟨_,rfl,F,x,rfl,p,q1,q2,q3,⟨World.ownsRow_nil _ _ _ _,λk e=>by cases e⟩,⟨World.ownsRow_nil _ _ _ _,λk e=>by cases e⟩,λk e=>by cases e⟩
 intro x8;simp only[Pt];iterate 5 (apply Free.ae (Free.wq rfl) rfl;(intro w' m B;skip;clear B m;go_light;go_simp<;>rfl);(try simp only[Pt]))
 apply Free.ax;intro w6 g8 _ hh;simp only[fm,fo];obtain⟨p6,rfl,V0,Vr⟩:=hh _ dH;have gc:=h_ hop;have H6:Hid (DJ E c (C:Int) M bF G 0 (.pointer (some ⟨p6.o.hb,0,none⟩)) (.slice none 0 0) (.slice none 0 0) w6 p6 (yR c (C:Int) M bF 300) [] [] []):=h_
  ⟨rfl,V0,Vr,cM.new (by decide) (by decide) hop,λe he=>(by cases he),λx hx=>(by cases hx),aL _,aL _⟩
 clear g8 hh V0 Vr hop C7 rx Ut;go_wp2_with fail;clear r1 v1 z0 t2 t3 t4
 go_loopw [16,18,19,20] (λvh u1 u2 vi wr=> ∃(k:Nat) (p:Pl) (s:HS) (es w:List aV) (I:List ei),vi= .int .i64 (k:Int)/\k<=l.length/\DJ E c (C:Int) M bF G k vh u1 u2 wr p s es w I) (λ_ _ _ vi _=>(l.length:Int).toNat- (RowKit.intOf vi).toNat)
 case atStart=>exact⟨0,p6,_,_,_,_,rfl,gu _,H6.out⟩
 case round=>
  clear H6;obtain⟨k,q,s,es,w,I,rfl,hk,hL⟩:=hrel;obtain⟨u1,Xf⟩:=x_ u18
  subst Xf;obtain⟨u2,Xg⟩:=x_ u19
  subst Xg;obtain⟨W1,Xb⟩:=x_ wr
  subst Xb;obtain⟨rfl,i8,hI,hS,A8,Cx,E',E8⟩:=hL;have Xv:=qr.out;rcases pC hk with ip|ip;rotate_left
  ·subst ip;have Vu: ¬((l.length:Nat):Int)<(l.length:Int):=by omega
   have f9:=h_ hI;have an:=h_ hS;obtain⟨A1,c1,e1⟩:=fG hI.a.row;obtain⟨A2,c2,e2⟩:=fG hI.b.row;subst e1;subst e2;have U0:Hid (∀w',Below W1.heap.size W1 w'->SL w' 7 aK A1 w):=h_ λw' h=>by
    obtain⟨A,c,e,_,X⟩:=gV bT (f9.out.grow h).a.row;injection e with e _ _;subst e;exact X
   have U1:Hid (∀w',Below W1.heap.size W1 w'->SL w' 6 bU A2 I):=h_ λw' h=>by
    obtain⟨A,c,e,_,X⟩:=gV jW (f9.out.grow h).b.row;injection e with e _ _;subst e;exact X
   have Iq:=h_ (fO E' qr.out);have In:=h_ (fO E8 qr.out);have Rg:=h_ A8;have Pe:=h_ Cx;have CE:=h_ (jE q.o s W1 hI.hc.hr hS.gh.inv);rw[hS.all gc.out]at CE;unfold rX at CE;have Rz:es.length<=10:=fO hS.len qr.out;have Hl:=h_ Rz;have Wd:=hS.is;have m6:=h_ Wd;clear hI hS A8 Cx E' E8 hk i8 Rz Wd;go_wp2_with fail;refine CE.out.mono ?_;rintro e U ⟨v,rfl,Fk,no⟩;obtain⟨aA,ac,rfl,Vk,Do⟩:=gV bT Fk;have wn:=h_ Fk;have d7:=h_ no;have H':=h_ (f9.out.grow no);have g1:=(HG.out U H'.out.base).2.2.2.2.2;have CC:=h_ (uM aA ac es (C:Int) pM U Do (by have:=Hl.out;omega) Vk (λe he=>⟨(an.out.ok e he).1,by have:=(an.out.ok e he).2.1;omega,by have:=(an.out.ok e he).2.2;omega⟩) H'.out.nF);have Rx:=an.out.chain;rw[Wx.out]at Rx;rw[Lh Rx]at CC;unfold Ca at CC;have Ub:Hid (∀w',Below U.heap.size U w'->SL w' 7 aK aA es):=h_ λw' h=>Do.below h (aL _)
   clear Fk no Do Vk Rx CE;go_wp2_with fail;refine CC.out.mono ?_;rintro e Xt ⟨rfl,F⟩;have Mb:=h_ F;have CK:=h_ (oG q.o s Xt (H'.out.grow F).hc.hr an.out.gh.inv);rw[an.out.yW]at CK;unfold oS at CK;clear F CC g1;go_wp2_with fail;refine CK.out.mono ?_;rintro e Xu ⟨v,rfl,ci⟩;obtain⟨Wl,c0,e0⟩:=fG ci.own;subst e0;have Ug:Hid (Below U.heap.size U Xu):=h_ (Mb.out.trans (ci.below.mono Mb.out.size));clear ci CK;go_wp2_with fail;clear Vu
   go_loopw [26] (λvi wr=> ∃i:Nat,i<=w.length/\vi= .int .i64 (i:Int)/\Below U.heap.size U wr) (λvi _=>(w.length:Int).toNat- (RowKit.intOf vi).toNat)
   case atStart=>exact⟨0,gu _,rfl,Ug.out⟩
   case round=>
    obtain⟨i,hi,rfl,J⟩:=hrel;obtain⟨W5,Xc⟩:=x_ wr
    subst Xc;have Gu:=h_ J;have E':=Iq.out;by_cases D:i<w.length
    ·have io:(i:Int)<(w.length:Int):=by omega
     obtain⟨y,ey⟩:∃y,w[i]? =some y:=⟨_,eH D⟩
     have S6:=U0.out W5 (d7.out.trans (J.mono d7.out.size));obtain⟨sb,so,eA⟩:=cG S6 (by intro e;rw[e]at D;simp at D);subst eA;obtain⟨ys,K⟩:=x_ (aK y)
     have Z:Hid (W5.rangeAt sb (so+i*7) ys):=h_ (by rw[K];exact dq S6 ey);have Qq:=h_ (cE ys (by rw[K];rfl));have Nz:=h_ (vY aA ac es y W5 (Ub.out W5 J) (by have:=Hl.out;omega) (Rg.out y (ue ey)));rw[<-K]at Nz;have co:=h_ D;clear hi J D S6 ey K;go_wp2_with (first
       |(refine aH (.tmp 203) ?_;refine wpList_load_mid rfl 42 (.tmp 203) rfl sb (so+i*7) rfl ys _ Z.out Tryz.underlying42 rfl Qq.out ?_))
     refine Nz.out.mono ?_;rintro e X8 ⟨rfl,g8⟩;have Wr:=h_ (Gu.out.trans (g8.mono Gu.out.size));clear g8 Nz Z;go_wp2_with fail
     go_roundw
     case rel=>exact⟨i+1,co.out,by push_cast;rfl,Wr.out⟩
     case measure=>have:=co.out;simp[RowKit.intOf];omega
    have io: ¬(i:Int)<(w.length:Int):=by omega
    have Id:=h_ (H'.out.grow J);have hN:s.aj=((cF.length:Nat):Int):=by rw[m6.out.1];exact M'.out.symm
    have Tv:=h_ (EH q.o s W5 cF.length hN Id.out.hc.hr an.out.gh.inv Id.out.nF (rt.out.below Id.out.base (aL _)));clear hi J D hN;go_wp2_with fail;refine Tv.out.mono ?_;rintro e w7 ⟨rfl,al,Vl,ii⟩;obtain⟨x0,Tg⟩:∃x0,al[C]? =some x0:=⟨_,eH (by rw[Vl];exact m5.out)⟩
    obtain⟨L,n8,Wc,Wa,Nt,_⟩:=ii.fs C x0 Tg;have So:dP s ((C:Nat):Int)=cg s es:=an.out.facts;rw[So]at n8 Nt;have E9:(cg s es).length=L.length:=n8.length_eq.symm;have R':=qU s es;have M2:=h_ (zu n8 Wc R'.nd);have Wz:Hid (∀y∈L,tG c y):=h_ λy hy=>zm m6.out.2.1 m6.out.2.2.1 (R'.v y (n8.mem_iff.1 hy))
    have Ww:Hid (∀y∈I,y∈L):=h_ λy hy=>n8.mem_iff.2 (Pe.out y hy)
    have Ju:=nD s es;have ut:Hid (L.length<=10):=h_ (by have:=Hl.out;omega);obtain⟨fz,m8⟩:=x_ (pZ (C:Int) x0.1 L.length x0.2)
    have Ul:Hid (∀w',Below w7.heap.size w7 w'->w'.rangeAt W5.heap.size (C*3) fz):=h_ λw' h j v hj=>by
     have hb:=ii.bg.below h ii.bg.lt;have Xi:j<3:=by rw[m8]at hj;exact(jS.1 hj).1
     have h1:=mE (s:=s) (N:=cF.length) (ac:=al) (j:=C) (p:=j) m5.out Xi;have X:jY s al C=fz:=by unfold jY;rw[Tg,m8];unfold Iv;rw[So,E9];rfl
     rw[X,hj]at h1;exact hb.ag (C*3+j) v h1
    have Up:=h_ (show(Tryz.prog.info? 81).map (·.size)=some fz.length by rw[m8];kernel_rfl);have Uz:Hid (∀w',Below w7.heap.size w7 w'->SL w' 6 bU x0.1 L):=h_ λw' h=>Wa.below h (aL _)
    have Xw:=h_ ii.below;have ro:=h_ (Gu.out.trans (ii.below.mono Gu.out.size));have m4:=h_ (Id.out.grow ii.below);have Ox:Hid (∀w',Below w7.heap.size w7 w'->w'.rangeAt W.heap.size 0 cs/\w'.cell? ⟨W.heap.size,0,none⟩=some (.int .i64 c.aj)/\w'.rangeAt W5.heap.size (C*3) fz):=h_ λw' h=>by
     obtain⟨k1,k2,_⟩:=HG.out w' (m4.out.grow h).base;exact⟨k1,k2,Ul.out w' h⟩
    have CV:Hid (∀w',Below w7.heap.size w7 w'->Calls Tryz.prog 29 #[.agg cs.toArray, .agg fz.toArray] w' λe U=>e= .returned (.bool true)/\Below w'.heap.size w' U):=h_ λw' h=>by
     obtain⟨_,_,k3,_⟩:=HG.out w' (m4.out.grow h).base;rw[lw.out,m8];exact sf c (C:Int) x0.1 x0.2 L w' k3 HZ.out (tf gc.out).1 (tf gc.out).2.1 (tf gc.out).2.2.1 (Uz.out w' h) (by have:=ut.out;omega) Wz.out M2.out
    have Wn:=h_ m8;have t2:((cF.length:Int) !=c.aj)=false:=by have:=M'.out;simpa using this
    clear ii Vl Tg n8 Wc Wa Nt So E9 R' Ju m8 Tv;go_wp2_with fail;refine Free.ai 14 [(11, .det (.bool true))] (λw'=>Below w7.heap.size w7 w') (by kernel_rfl) (by kernel_rfl) (Bb rfl) (Below.refl _ _).drew (λ_ _ h g=>h.trans (Below.mono g h.size)) ?_;simp only[eJ,dT];iterate 14 (first|(apply Free.ae (Free.wq rfl) rfl;(intro w' m B;exact Hk.aU 27 (.tmp 5) rfl W.heap.size 0 rfl cs _ (Ox.out w' m).1 Tryz.underlying27 rfl HI.out);simp only[Pt])|(apply Free.ae (Free.wq rfl) rfl;(intro w' m B;exact Hk.aU 81 (.tmp 218) rfl W5.heap.size (C*3) rfl fz _ (Ox.out w' m).2.2 Tryz.underlying81 rfl Up.out);simp only[Pt])|(apply Free.aC (Free.wq rfl) rfl;(intro w' m B;refine Free.au (f:=29) (args:= #[.agg cs.toArray, .agg fz.toArray]) (by clear m B;go_simp<;>rfl) ?_;refine(CV.out w' m).mono ?_;rintro e pm ⟨rfl,F⟩;exact⟨_,rfl,F,rfl⟩);simp only[Pt])|(apply Free.ae (Free.wq rfl) rfl;(intro w' m B;have q1:=(Ox.out w' m).2.1;clear B m;go_light;go_simp<;>rfl);(try simp only[Pt]))|(apply Free.ae (Free.wq rfl) rfl;(intro w' m B;skip;clear B m;go_light;go_simp<;>rfl);(try simp only[Pt])))
    apply Free.ax;intro w8 Vo _ _;simp only[fm,fo];have Uh:=h_ Vo;clear Vo CV t2;go_wp2_with fail;clear io
    go_loopw [28] (λvi wr=> ∃i:Nat,i<=I.length/\vi= .int .i64 (i:Int)/\Below w7.heap.size w7 wr) (λvi _=>(I.length:Int).toNat- (RowKit.intOf vi).toNat)
    case atStart=>exact⟨0,gu _,rfl,Uh.out⟩
    case round=>
     obtain⟨i,hi,rfl,J⟩:=hrel;obtain⟨W9,Xd⟩:=x_ wr
     subst Xd;have f8:=h_ J;have E8:=In.out;by_cases D:i<I.length
     ·have io:(i:Int)<(I.length:Int):=by omega
      obtain⟨y,ey⟩:∃y,I[i]? =some y:=⟨_,eH D⟩
      have Te:∀w',Below W9.heap.size W9 w'->SL w' 6 bU A2 I:=λw' h=>U1.out w' (d7.out.trans ((ro.out.trans ((J.trans (h.mono J.size)).mono ro.out.size)).mono d7.out.size))
      obtain⟨fb,Js,eA⟩:=cG (Te W9 (Below.refl _ _)) (by intro e;rw[e]at D;simp at D);subst eA;have Pf:Hid (∀w',Below W9.heap.size W9 w'->w'.rangeAt fb (Js+i*6) (bU y)):=h_ λw' h=>dq (Te w' h) ey
      have U6:=h_ (Ww.out y (ue ey));have Ra:Hid (∀w',Below W9.heap.size W9 w'->w'.cell? ⟨W5.heap.size,C*3+1,none⟩=some (.slice x0.1 L.length x0.2)/\w'.cell? ⟨fb,Js+i*6,none⟩=some (.int .i64 y.ref)):=h_ λw' h=>
       ⟨Ul.out w' (J.trans (h.mono J.size)) 1 _ (by rw[Wn.out];rfl),Pf.out w' h 0 _ rfl⟩
      have ld:Hid (∀w',Below W9.heap.size W9 w'->SL w' 6 bU x0.1 L):=h_ λw' h=>Uz.out w' (J.trans (h.mono J.size))
      have co:=h_ D;have X2:(C:Int)<((cF.length:Nat):Int):=by have:=m5.out;omega
      clear hi J D Te ey;go_wp2_with fail;refine Free.ai 11 [(10, .ind (λj=> .int .i64 (j:Int)) (λj _=> ∃z,L[j]? =some z/\z.ref=y.ref))] (λw'=>Below W9.heap.size W9 w') (by kernel_rfl) (by kernel_rfl) (C6 rfl) (Below.refl _ _).drew (λ_ _ h g=>h.trans (Below.mono g h.size)) ?_;simp only[eJ,dT];iterate 11 (first|(apply Free.aR (Free.wq rfl) rfl;(intro w' m B;refine Free.au (f:=30) (args:= #[.slice x0.1 L.length x0.2, .int .i64 y.ref]) (by clear m B;go_simp<;>rfl) ?_;refine(yV x0.1 x0.2 L y.ref w' (ld.out w' m) (by have:=ut.out;omega) ⟨y,U6.out,rfl⟩).mono ?_;rintro e pm ⟨⟨j,z,rfl,h1,X⟩,rfl⟩;exact⟨_,rfl,Below.refl _ _,j,rfl,z,h1,X⟩))|(apply Free.ae (Free.wq rfl) rfl;(intro w' m B;cases Ra.out w' m;clear B m;go_light;go_simp<;>rfl);(try simp only[Pt])))
      intro pi;simp only[Pt];apply Free.ax;intro O bi _ hh;simp only[fm,fo];obtain⟨z,hz,Wi⟩:=hh _ dH;have Xo:z=y:=y5 M2.out (ue hz) U6.out Wi;subst Xo;have Su:pi<L.length:=(jS.1 hz).1;have X1:(pi:Int)<(L.length:Int):=by omega
      have Vt:(pi:Int)<=10:=by have:=ut.out;omega
      have X0:decide ((pi:Int)<0)=false:=dy (by omega);obtain⟨xb,Tn,Rq⟩:=cG (ld.out W9 (Below.refl _ _)) (by intro e;rw[e]at Su;simp at Su);have li:Hid (∀w',Below O.heap.size O w'->w'.cell? ⟨W5.heap.size,C*3+1,none⟩=some (.slice (some ⟨xb,Tn,none⟩) L.length x0.2)/\w'.rangeAt xb (Tn+pi*6) (bU z)/\w'.rangeAt fb (Js+i*6) (bU z)):=h_ λw' h=>by
       have X:=bi.trans (h.mono bi.size);have h3:=ld.out w' X;rw[Rq]at h3;have h4:=(Ra.out w' X).1;rw[Rq]at h4;exact⟨h4,dq h3 hz,Pf.out w' X⟩
      have Mt:=h_ (oI (bU z) rfl);have i':=h_ (f8.out.trans (bi.mono f8.out.size));clear bi hh hz Wi Su Ra Pf ld Rq;go_wp2_with fail;refine Free.ai 17 [] (λw'=>Below O.heap.size O w') (by kernel_rfl) (by kernel_rfl) (Free.aW (λj mk r hf=>by cases hf)) (Below.refl _ _).drew (λ_ _ h g=>h.trans (Below.mono g h.size)) ?_;simp only[eJ,dT];iterate 17 (first|(apply Free.ae (Free.wq rfl) rfl;(intro w' m B;exact Hk.aU 29 (.tmp 249) rfl xb (Tn+pi*6) rfl (bU z) _ (li.out w' m).2.1 Tryz.underlying29 rfl Mt.out);simp only[Pt])|(apply Free.ae (Free.wq rfl) rfl;(intro w' m B;exact Hk.aU 29 (.tmp 253) rfl fb (Js+i*6) rfl (bU z) _ (li.out w' m).2.2 Tryz.underlying29 rfl Mt.out);simp only[Pt])|(apply Free.ae (Free.wq rfl) rfl;(intro w' m B;exact Ew (x:=z) (y:=z) (Q:=false) rfl rfl rfl (by rw[Im];rfl));simp only[Pt])|(apply Free.ae (Free.wq rfl) rfl;(intro w' m B;have g1:=(li.out w' m).1;clear B m;go_light;go_simp<;>rfl);(try simp only[Pt]))|(apply Free.ae (Free.wq rfl) rfl;(intro w' m B;skip;clear B m;go_light;go_simp<;>rfl);(try simp only[Pt])))
      apply Free.ax;intro pl Nm _ _;simp only[fm,fo];have Ud:=h_ (i'.out.trans (Nm.mono i'.out.size));clear Nm li;go_wp2_with fail
      go_roundw
      case rel=>exact⟨i+1,co.out,by push_cast;rfl,Ud.out⟩
      case measure=>have:=co.out;simp[RowKit.intOf];omega
     have io: ¬(i:Int)<(I.length:Int):=by omega
     have P':=h_ (m4.out.grow J);have Pi:Hid (∀w',Below W9.heap.size W9 w'->w'.rangeAt W.heap.size 0 cs/\w'.cell? ⟨ba,oa+C,none⟩=some (.int .i64 M)):=h_ λw' h=>by
      obtain⟨k1,_,_,k4,_⟩:=HG.out w' (P'.out.grow h).base;exact⟨k1,k4⟩
     have CO:Hid (∀x7 w',Below W9.heap.size W9 w'->od W9.heap.size 300 x7 w'->Calls Tryz.prog 20 #[.agg cs.toArray, .int .i64 (C:Int), .int .i64 M, .slice (some ⟨pb,po,none⟩) bF.length pc, .pointer (some ⟨x7,0,none⟩)] w' λe U=>Below w'.heap.size w' U/\
       ((oO c (C:Int) M bF=false/\e= .returned (.tuple #[.pointer none, .int .i64 1]))\/(oO c (C:Int) M bF=true/\∃x,e= .returned (.tuple #[.pointer (some ⟨x,0,none⟩), .int .i64 0])/\DY E W9.heap.size 300 c (C:Int) M bF x7 x U))):=h_ λx7 w' h hn=>by
      have hb:=(P'.out.grow h).base;obtain⟨_,_,k3,_,k5,_⟩:=HG.out w' hb;rw[lw.out];exact mH (by decide) Rh.out rt.out hb P'.out.base.size h.size hn k3 HZ.out k5 ww.out
     clear hi J D;go_wp2_with fail;refine Free.ai 14 [(7, .ind (λx=> .pointer (some ⟨x,0,none⟩)) (od W9.heap.size 300)),(8, .ind (λx=> .tuple #[.pointer (some ⟨x,0,none⟩), .int .i64 0]) (KU (DY E W9.heap.size 300 c (C:Int) M bF)))] (λw'=>Below W9.heap.size W9 w') (by kernel_rfl) (by kernel_rfl) (De rfl) (Below.refl _ _).drew (λ_ _ h g=>h.trans (Below.mono g h.size)) ?_;simp only[eJ,dT];iterate 8 (first|(apply Free.ae (Free.wq rfl) rfl;(intro w' m B;exact Hk.aU 27 (.tmp 5) rfl W.heap.size 0 rfl cs _ (Pi.out w' m).1 Tryz.underlying27 rfl HI.out);simp only[Pt])|(apply Free.aR (Free.wq rfl) rfl;(intro w' m B;refine Free.au (f:=19) (args:= #[.int .i64 300]) (by clear m B;go_simp<;>rfl) ?_;refine(l5 W9.heap.size 300 w' (by decide) (by decide) m.size).mono ?_;rintro e pm ⟨b,rfl,Xm,F⟩;exact⟨_,rfl,F,b,rfl,Xm⟩))|(apply Free.ae (Free.wq rfl) rfl;(intro w' m B;have q1:=(Pi.out w' m).2;clear B m;go_light;go_simp<;>rfl);(try simp only[Pt])))
     intro x7;simp only[Pt];apply Free.aR (Free.wq rfl) rfl
     ·intro w' m B;have h7:=B (7,_) dH (by kernel_rfl);dsimp only at h7;refine Free.au (f:=20) (args:= #[.agg cs.toArray, .int .i64 (C:Int), .int .i64 M, .slice (some ⟨pb,po,none⟩) bF.length pc, .pointer (some ⟨x7,0,none⟩)]) (by clear m B h7;go_simp<;>rfl) ?_;refine(CO.out x7 w' m h7).mono ?_;rintro e pm ⟨F,⟨q,_⟩|⟨_,x,rfl,Xn⟩⟩
      ·rw[gc.out]at q;cases q
      ·exact⟨_,rfl,F,x,rfl,x7,Xn⟩
     intro x8;simp only[Pt];iterate 5 (apply Free.ae (Free.wq rfl) rfl;(intro w' m B;skip;clear B m;go_light;go_simp<;>rfl);(try simp only[Pt]))
     apply Free.ax;intro Fw No _ hh;simp only[fm,fo];obtain⟨b8,pT,rfl,_,C',Vj⟩:=hh _ dH;have Uu:Hid (Aside W1.heap.size Fw pT 42 7 aK (.slice aA es.length ac) es):=h_ ⟨bC wn.out (λk e=>(ro.out.trans ((f8.out.trans (No.mono f8.out.size)).mono ro.out.size)).block k (World.ownsRow.lt wn.out k e).2),λk e f=>by
      have h1:=Vj k f;have X:=(World.ownsRow.lt wn.out k e).2;have h3:=ro.out.size;have h4:=f8.out.size;omega⟩
     have U2:=h_ C';have Xy:Hid (Below E.heap.size E Fw):=h_ C'.pj.e.bl;clear No hh C' Vj CO Pi;go_wp2_with fail;clear io
     go_loopw [4,32] (λvq_ vi wr=> ∃(z:Int) (i:Nat) (p:Pl) (t:HS) (Ko:List aV),vq_= .int .u16 z/\0<=z/\z<=65535/\vi= .int .i64 (i:Int)/\i<=es.length/\HC E wr 300 p t/\p.o=pT.o/\xB c bF t i Ko es/\Aside W1.heap.size wr p 42 7 aK (.slice aA es.length ac) es) (λ_ vi _=>(es.length:Int).toNat- (RowKit.intOf vi).toNat)
     case atStart=>exact⟨P,0,pT,_,[],rfl,v6.out.2.2.1,v6.out.2.2.2,rfl,gu _,U2.out,rfl,xB.new gc.out,Uu.out⟩
     case round=>
      obtain⟨z,i,p,t,Ko,rfl,J',Kh,rfl,hi,hC,ol,dl,By⟩:=hrel;obtain⟨U7,U9⟩:=x_ wr
      subst U9;have Rz:=Hl.out;have O':=h_ hC;have Uy:=h_ ol;have Wy:=h_ dl;have Uc:=h_ By;by_cases D:i<es.length
      ·have io:(i:Int)<(es.length:Int):=by omega
       obtain⟨y,ey⟩:∃y,es[i]? =some y:=⟨_,eH D⟩
       obtain⟨m2,d0,d1⟩:=AX z J' Kh;obtain⟨i9,An⟩:=x_ (z.tdiv 2)
       have X5:z.tdiv 2=i9:=An.symm;have X6:IntKind.u16.wrap i9=i9:=by rw[<-An]at d0 d1;rw[IntKind.wrap_u16];omega
       rw[<-An]at d0 d1;have I8:Hid (0<=i9/\i9<=65535):=h_ ⟨d0,d1⟩;have co:=h_ D;rcases m2 with m2|m2
       ·obtain⟨A',c',eA,_,J5⟩:=gV bT By.row;injection eA with eA _ ec;subst eA;subst ec;obtain⟨sb,so,eA⟩:=cG J5 (by intro e;rw[e]at D;simp at D);obtain⟨ys,K⟩:=x_ (aK y)
        have Z:Hid (U7.rangeAt sb (so+i*7) ys):=h_ (by rw[K];rw[eA]at J5;exact dq J5 ey);have Qq:=h_ (cE ys (by rw[K];rfl));obtain⟨t',Wf,Nl⟩:=dl.take an.out (by omega) ey;obtain⟨k1,k2,k3⟩:=an.out.ok y (ue ey);have N':=h_ (ph y hC dl.gh.inv k1 (by omega) (by omega) hC.pj.e.h dl.gh.lim.1 dl.gh.lim.2);rw[Wf,ol, <-K]at N';have Uw:=h_ Nl;subst eA;clear hi hC ol dl By D ey J5 K Wf Nl k1 k2 k3 d0 d1 An J' Kh;go_wp2_with (first
          |(refine aH (.tmp 284) ?_;refine Row.still (Free.wq rfl) (Hk.aU 42 (.tmp 284) rfl sb (so+i*7) rfl ys _ Z.out Tryz.underlying42 rfl Qq.out) ?_;simp only[Pt]))
        refine N'.out.mono ?_;intro e Xr hp;obtain⟨rfl,p',q1,_,_,q4,q5,q6⟩:=hp;have Uj:=h_ q4;have T':=h_ (Uc.out.step q5 q6);have Qz:Hid (p'.o=pT.o):=h_ (q1.trans Uy.out);clear q1 q4 q5 q6 N' Z;go_wp2_with fail
        go_roundw
        case rel=>exact⟨i9,i+1,p',t',Ko++ [y],rfl,I8.out.1,I8.out.2,by push_cast;rfl,co.out,Uj.out,Qz.out,Uw.out,T'.out⟩
        case measure=>have:=co.out;simp[RowKit.intOf];omega
       ·clear hi hC ol dl By D ey d0 d1 An J' Kh;go_wp2_with fail
        go_roundw
        case rel=>exact⟨i9,i+1,p,t,Ko,rfl,I8.out.1,I8.out.2,by push_cast;rfl,co.out,O'.out,Uy.out,Wy.out.skip,Uc.out⟩
        case measure=>have:=co.out;simp[RowKit.intOf];omega
      have io: ¬(i:Int)<(es.length:Int):=by omega
      have F':=h_ (oG p.o t U7 hC.hr dl.gh.inv);rw[dl.yW an.out,ol]at F';unfold oS at F';clear hi hC ol dl By D J' Kh;go_wp2_with fail;refine F'.out.mono ?_;rintro e d8 ⟨v,rfl,ci⟩;obtain⟨Wl,c0,e0⟩:=fG ci.own;subst e0;have HF:=h_ (py.out d8 (U3.out d8 (O'.out.pj.e.bl.trans (ci.below.mono O'.out.pj.e.bl.size))));clear ci F' py;go_wp2_with fail;(try go_ret);exact HF.out
  have Vu:(k:Int)<(l.length:Int):=by omega
  obtain⟨x,ex⟩:∃x,l[k]? =some x:=⟨_,eH ip⟩
  obtain⟨la,lo,ea⟩:=cG (Pq.out E (Below.refl _ _)).1 (by intro e;rw[e]at ip;simp at ip);subst ea;have J7:=ue ex;have HX:Hid (∀w',Below E.heap.size E w'->w'.rangeAt la (lo+k*35) (cU x)/\w'.cell? ⟨la,lo+k*35+32,none⟩=some (.int .i64 x.after)/\w'.cell? ⟨la,lo+k*35+33,none⟩=some (.int .i64 x.writes)/\w'.cell? ⟨la,lo+k*35+34,none⟩=some (.int .i64 x.bytes)/\w'.cell? ⟨la,lo+k*35,none⟩=some (.bool x.GG)/\w'.rangeAt la (lo+k*35+1) (bU x.x)):=h_ λw' h=>by
   have hr:=dq (Pq.out w' h).1 ex;refine⟨hr,hr 32 _ rfl,hr 33 _ rfl,hr 34 _ rfl,hr 0 _ rfl,λj v hj=> ?_⟩;rw[show lo+k*35+1+j=lo+k*35+(1+j) by omega];exact hr (1+j) v (ve hj)
  obtain⟨Tl,Ti,d6⟩:=Wv.out x J7;have S3:qq x=true:=GJ.1 Wo.out.symm x J7;have Jt:GX x.l.1/\x.l.1.sum.size<=1000:=by unfold qq at S3;simp only[ua,uD]at S3;exact⟨⟨Ti.jc,⟨Ti.patch,by omega,by omega⟩,by omega⟩,by omega⟩
  obtain⟨H,Vg,Vp,Vq,Ju⟩:=hS.xF gc.out (by omega) x d6 Tl Jt.1 Jt.2;have Vh:=hS.Cd (a:=x) d6;have f9:=h_ hI;have CA:Hid (∀w',Below W1.heap.size W1 w'->Calls Tryz.prog 21 #[.pointer (some ⟨G,0,none⟩), .int .i64 x.after, .int .i64 x.writes, .int .i64 x.bytes] w' (bS E w' 300 q (s.bH x) (.tuple #[]))):=h_ λw' h=>by
   have h:=(f9.out.grow h).hc.arm x.after x.writes x.bytes d6.1.1 d6.1.2 d6.2.1.1 d6.2.1.2 d6.2.2.1 d6.2.2.2;rw[i8]at h;exact h
  have U4:Hid (∀w',Below W1.heap.size W1 w'->w'.cell? ⟨la,lo+k*35+32,none⟩=some (.int .i64 x.after)/\w'.cell? ⟨la,lo+k*35+33,none⟩=some (.int .i64 x.writes)/\w'.cell? ⟨la,lo+k*35+34,none⟩=some (.int .i64 x.bytes)):=h_ λw' h=>by
   obtain⟨_,a1,a2,a3,_⟩:=HX.out w' (f9.out.grow h).base;exact⟨a1,a2,a3⟩
  obtain⟨xs,Jr⟩:=x_ (cU x)
  have Wu:=h_ (Ad xs (by rw[Jr];rfl));have Wq:=h_ Jr;rw[<-Jr]at HX;have Xa:=h_ Tl;have Io:=h_ Jt;have W8:=h_ J7;have Iu:=h_ d6;have H8:=h_ Vh;have Od:=h_ Vg;have Oh:=h_ Vp;have Ws:=h_ Vq;have Wt:=h_ Ju;have Rg:=h_ A8;have Pe:=h_ Cx;have Iq:=h_ E';have In:=h_ E8;have Qs:=h_ ip;have m6:=h_ hS.is;have Wp:=h_ i8;clear ex J7 Tl Ti d6 S3 Jt Vg Vp Vq Ju Vh Jr hI hS A8 Cx E' E8 hk ip i8;go_wp2_with fail;refine Free.ai 16 [] (λw'=>Below W1.heap.size W1 w') (by kernel_rfl) (by kernel_rfl) (Free.aW (λj mk r hf=>by cases hf)) (Below.refl _ _).drew (λ_ _ h g=>h.trans (Below.mono g h.size)) ?_;simp only[eJ,dT];iterate 16 (apply Free.ae (Free.wq rfl) rfl;(intro w' m B;cases U4.out w' m;clear B m;go_light;go_simp<;>rfl);(try simp only[Pt]))
  apply Free.ax;intro w7 Rt _ _;simp only[fm,fo];have m4:=h_ (f9.out.grow Rt);have Tu:=h_ (CA.out w7 Rt);clear Rt CA U4 f9;go_wp2_with fail;refine Tu.out.mono ?_;intro e w8 hp;obtain⟨rfl,q8,Vd,U',Sr⟩:=m4.out.step hp;have If:=h_ Sr;have Tz:=h_ Vd;have Wm:Hid (q8.b=G):=h_ (U'.trans Wp.out);have jp:=h_ Sr.base;have CG:=h_ (wv x If.out.hc H8.out.inv Xa.out ((Pq.out w8 jp.out).2 x W8.out) Io.out.1 (by have:=(yY Io.out.1 Io.out.2).1;omega) (by have:=Io.out.2;omega) If.out.nF (rt.out.below jp.out (aL _)) H8.out.lim.1 H8.out.lim.2);obtain⟨r,er⟩:=x_ ((s.bH x).act 300 x)
  rw[<-er]at CG;rw[<-er]at Od Oh;obtain⟨s2,e2,c2⟩:=r;rw[Tz.out, <-Wq.out]at CG;unfold gM fv at CG;dsimp only at CG Od Oh;obtain⟨ys,K⟩:=x_ (aK e2)
  rw[<-K]at CG;have T3:=h_ K;have up:=h_ (cE ys (by rw[K];rfl));have Qt:Hid (ys.length=7):=h_ (by rw[K];rfl);have Qv:Hid (∀u∈ys,u.oneCell'=true):=h_ (by rw[K];exact cm e2);have Us:=h_ (HX.out w8 jp.out).1;clear hp Vd U' Sr er K Tu m4 H8;go_wp2_with (first
    |(refine aH (.tmp 117) ?_;refine wpList_load_mid rfl 89 (.tmp 117) rfl la (lo+k*35) rfl xs _ Us.out Tryz.underlying89 rfl Wu.out ?_))
  refine CG.out.mono ?_;intro e w9 hp;obtain⟨rfl,q9,Ve,Va,Vs⟩:=If.out.step hp;have Xx:Hid (q9.o=q.o):=h_ (Ve.trans Tz.out);have Ty:Hid (q9.b=G):=h_ (Va.trans Wm.out);obtain⟨O,I'⟩:=x_ (w9.alloc (.cells ys.toArray 42))
  have lm:=h_ I';have bi:Below w9.heap.size w9 O:=by rw[I'];exact(Below.refl _ _).alloc (aL _) _
  have S:=h_ (Vs.grow bi);have Z:Hid (O.rangeAt w9.heap.size 0 ys):=h_ (rg_of (by rw[I'];exact ay.new w9 ys 42));clear hp Ve Va Vs I' bi CG If Us jp;have m7:Hid (∀(Fs:List aV) (m9:List ei),((c2≠0/\Fs=w/\m9=I)\/(c2=0/\Fs=w++ [e2]/\((x.GG=true/\m9=I)\/(x.GG=false/\m9=I++ [x.x]))))->(∀e∈Fs,e∈H)/\(∀y∈m9,y∈cg s H)/\Fs.length<=k+1/\m9.length<=k+1):=h_ λFs m9 h=>by
   have h1:=Iq.out;have X:=In.out;have a1:∀e∈w,e∈H:=λe he=>Ws.out e (Rg.out e he)
   have a2:∀y∈I,y∈cg s H:=λy hy=>Wt.out y (Pe.out y hy)
   rcases h with⟨_,rfl,rfl⟩|⟨h0,rfl,h⟩
   ·exact⟨a1,a2,by omega,by omega⟩
   ·obtain⟨b1,b2⟩:=Oh.out h0;refine⟨λe he=> ?_, ?_,by rw[fu,DT];omega, ?_⟩
    ·rcases zT.1 he with q|q
     ·exact a1 e q
     ·rw[vU]at q;subst q;exact b1
    ·rcases h with⟨_,rfl⟩|⟨hs,rfl⟩
     ·exact a2
     ·intro y hy;rcases zT.1 hy with q|q
      ·exact a2 y q
      ·rw[vU]at q;subst q;exact b2 hs
    ·rcases h with⟨_,rfl⟩|⟨_,rfl⟩
     ·omega
     ·rw[fu,DT];omega
  by_cases h0:c2=0
  case' neg=>
   have t0:(c2==0)=false:=by simpa using h0
   have HW:Hid (jh E O q9 s2 u1 w u2 I/\(∀e∈w,e∈H)/\(∀y∈I,y∈cg s H)/\w.length<=k+1/\I.length<=k+1):=h_ ⟨S.out,m7.out w I (.inl ⟨h0,rfl,rfl⟩)⟩;clear h0 m7 Z S;go_wp2_with (first
     |(refine aN (.tmp 21) ?_;refine Hk.aD rfl 42 (.tmp 21) (.tmp 120) rfl w9.heap.size ys.toArray rfl rfl _ 42 rfl (by rw[up.out];simp) (by simp[Qt.out]) (all_oneCell_toArray Qv.out) ?_;rw[<-lm.out];simp only[Pt]))
   clear t0 lm;obtain⟨g7,gt⟩:=x_ O
   rw[<-gt]at HW⊢;clear gt
  case' pos=>
   subst h0;have Rw:=Aq e2 O;rw[<-T3.out]at Rw;have G':=h_ Rw;have It:Hid (w.length<=1000):=h_ (by have:=Iq.out;omega);have Gs:Hid (O.alloc (.cells ys.toArray 42)=O.alloc (.cells (aK e2).toArray 42)):=h_ (by rw[T3.out]);clear Rw;cases hsay:x.GG
   case' true=>
    obtain⟨_,_,_,_,q0,_⟩:=HX.out O S.out.base;have i':=h_ S.out.base;rw[hsay]at q0;have z':Hid (∀w',Below E.heap.size E w'->w'.cell? ⟨la,lo+k*35,none⟩=some (.bool true)):=h_ λw' h=>by
     have:=(HX.out w' h).2.2.2.2.1;rw[hsay]at this;exact this
    have ge:=h_ (m7.out (w++ [e2]) I (.inr ⟨rfl,rfl, .inl ⟨hsay,rfl⟩⟩));clear q0 m7;go_wp2_with (first
      |(refine aN (.tmp 21) ?_;refine Hk.aD rfl 42 (.tmp 21) (.tmp 120) rfl w9.heap.size ys.toArray rfl rfl _ 42 rfl (by rw[up.out];simp) (by simp[Qt.out]) (all_oneCell_toArray Qv.out) ?_;rw[<-lm.out];simp only[Pt])
      |(refine aH (.tmp 21) ?_;refine wpList_load_mid rfl 42 (.tmp 21) rfl w9.heap.size 0 rfl ys _ Z.out Tryz.underlying42 rfl up.out ?_)
      |(refine Qn (.tmp 125) ?_;refine Row.yP rfl (Apl.fB rfl G'.out) ?_;simp only[Pt])
      |(refine v8 (.tmp 124) (.tmp 126) ?_;rw[Gs.out];refine uk e2 S.out It.out (.tmp 124) (.tmp 126) _ _ _ _ _ rfl rfl rfl rfl ?_;intro A1 c1 pl d9;simp only[Pt];have xH:=z'.out pl d9.out.base))
    have HW:Hid (jh E pl q9 s2 (.slice A1 (w.length+1) c1) (w++ [e2]) u2 I/\(∀e∈w++ [e2],e∈H)/\(∀y∈I,y∈cg s H)/\(w++ [e2]).length<=k+1/\I.length<=k+1):=h_ ⟨d9.out,ge.out⟩;clear ge Z S d9 xH hsay z' i' G' It Gs lm;obtain⟨g7,gt⟩:=x_ pl
    rw[<-gt]at HW⊢;clear gt;generalize Value.slice A1 (w.length+1) c1=u1 at HW⊢;generalize w++ [e2]=w at HW⊢
   case' false=>
    have z':Hid (∀w',Below E.heap.size E w'->w'.cell? ⟨la,lo+k*35,none⟩=some (.bool false)):=h_ λw' h=>by
     have:=(HX.out w' h).2.2.2.2.1;rw[hsay]at this;exact this
    obtain⟨nl,Rk⟩:=x_ (bU x.x)
    have Gb:=h_ Rk;have Mo:=h_ (oI nl (by rw[Rk];rfl));have Uo:Hid (∀w',Below E.heap.size E w'->w'.rangeAt la (lo+k*35+1) nl):=h_ λw' h=>by rw[Gb.out];exact(HX.out w' h).2.2.2.2.2
    have Ui:Hid (∀w':World,(Instr.buildSlice 73 1 #[(0, .agg nl.toArray)]).run Tryz.prog w'= .ok (.slice (some ⟨w'.heap.size,0,none⟩) 1 1) (w'.alloc (.cells nl.toArray 29))):=h_ λw'=>by rw[Gb.out];exact AF x.x w'
    have Ua:Hid (∀w':World,w'.alloc (.cells nl.toArray 29)=w'.alloc (.cells (bU x.x).toArray 29)):=h_ λw'=>by rw[Gb.out]
    have Um:Hid (I.length<=1000):=h_ (by have:=In.out;omega);have ge:=h_ (m7.out (w++ [e2]) (I++ [x.x]) (.inr ⟨rfl,rfl, .inr ⟨hsay,rfl⟩⟩));clear Rk m7;go_wp2_with (first
      |(refine aN (.tmp 21) ?_;refine Hk.aD rfl 42 (.tmp 21) (.tmp 120) rfl w9.heap.size ys.toArray rfl rfl _ 42 rfl (by rw[up.out];simp) (by simp[Qt.out]) (all_oneCell_toArray Qv.out) ?_;rw[<-lm.out];simp only[Pt])
      |(refine aH (.tmp 21) ?_;refine wpList_load_mid rfl 42 (.tmp 21) rfl w9.heap.size 0 rfl ys _ Z.out Tryz.underlying42 rfl up.out ?_)
      |(refine Qn (.tmp 125) ?_;refine Row.yP rfl (Apl.fB rfl G'.out) ?_;simp only[Pt])
      |(refine v8 (.tmp 124) (.tmp 126) ?_;rw[Gs.out];refine uk e2 S.out It.out (.tmp 124) (.tmp 126) _ _ _ _ _ rfl rfl rfl rfl ?_;intro A1 c1 pl d9;simp only[Pt];have xH:=z'.out pl d9.out.base)
      |(refine aH (.tmp 138) ?_;refine wpList_load_mid rfl 29 (.tmp 138) rfl la (lo+k*35+1) rfl nl _ (Uo.out _ d9.out.base) Tryz.underlying29 rfl Mo.out ?_)
      |(refine Qn (.tmp 139) ?_;refine Row.yP rfl (Apl.fB rfl (Ui.out _)) ?_;simp only[Pt])
      |(refine v8 (.tmp 134) (.tmp 140) ?_;rw[Ua.out];refine zr x.x d9.out Um.out (.tmp 134) (.tmp 140) _ _ _ _ _ rfl rfl rfl rfl ?_;intro A2 d2 Fw T8;simp only[Pt]))
    have HW:Hid (jh E Fw q9 s2 (.slice A1 (w.length+1) c1) (w++ [e2]) (.slice A2 (I.length+1) d2) (I++ [x.x])/\(∀e∈w++ [e2],e∈H)/\(∀y∈I++ [x.x],y∈cg s H)/\(w++ [e2]).length<=k+1/\(I++ [x.x]).length<=k+1):=h_ ⟨T8.out,ge.out⟩;clear ge Z S d9 T8 xH hsay z' G' It Gs lm Gb Mo Uo Ui Ua Um;obtain⟨g7,gt⟩:=x_ Fw
    rw[<-gt]at HW⊢;clear gt;generalize Value.slice A1 (w.length+1) c1=u1 at HW⊢;generalize Value.slice A2 (I.length+1) d2=u2 at HW⊢;generalize w++ [e2]=w at HW⊢;generalize I++ [x.x]=I at HW⊢
  all_goals
   have kw:=h_ HW.out.1;have U5:Hid (∀w',Below g7.heap.size g7 w'->w'.cell? ⟨la,lo+k*35+33,none⟩=some (.int .i64 x.writes)/\w'.cell? ⟨la,lo+k*35+34,none⟩=some (.int .i64 x.bytes)):=h_ λw' h=>by
    obtain⟨_,_,a2,a3,_⟩:=HX.out w' (kw.out.grow h).base;exact⟨a2,a3⟩
   have CF:Hid (∀w',Below g7.heap.size g7 w'->Calls Tryz.prog 24 #[.pointer (some ⟨G,0,none⟩), .int .i64 x.writes, .int .i64 x.bytes] w' (bS E w' 300 q9 {s2 with js:= {s2.js with d:=s2.js.d.fail x.writes x.bytes}} (.tuple #[]))):=h_ λw' h=>by
    have h:=(kw.out.grow h).hc.fail x.writes x.bytes Iu.out.2.1.1 Iu.out.2.1.2 Iu.out.2.2.1 Iu.out.2.2.2;rw[Ty.out]at h;exact h
   go_wp2_with fail;refine Free.ai 11 [] (λw'=>Below g7.heap.size g7 w') (by kernel_rfl) (by kernel_rfl) (Free.aW (λj mk r hf=>by cases hf)) (Below.refl _ _).drew (λ_ _ h g=>h.trans (Below.mono g h.size)) ?_;simp only[eJ,dT];iterate 11 (apply Free.ae (Free.wq rfl) rfl;(intro w' m B;cases U5.out w' m;clear B m;go_light;go_simp<;>rfl);(try simp only[Pt]))
   apply Free.ax;intro Xq D' _ _;simp only[fm,fo];have Mj:=h_ (kw.out.grow D');have K0:=h_ (CF.out Xq D');clear D' CF U5 kw;go_wp2_with fail;refine K0.out.mono ?_;intro e Xr hp;obtain⟨rfl,zW,Vb,Nj,Nu⟩:=Mj.out.step hp;have sm:=h_ Nu;have L':Hid (zW.b=G):=h_ (Nj.trans Ty.out);have CT:=h_ sm.out.hc.start;rw[L'.out]at CT;clear hp Vb Nj Nu K0 Mj;go_wp2_with fail;refine CT.out.mono ?_;intro e d8 hp;obtain⟨rfl,zk,Vc,Nk,Nv⟩:=sm.out.step hp;have ul:=h_ Nv;have pu:Hid (zk.b=G):=h_ (Nk.trans L'.out);obtain⟨⟨Xp,Kn,Ki,Fl,jb⟩,Wj,ed,eb,Vi⟩:=Od.out;have Xj:Xp=(s2.js.d.fail x.writes x.bytes).start:=ed;have Vt:jb=false:=eb;subst Xj;subst Vt;have T:=h_ Vi;have Pr:Hid (∀w',Below d8.heap.size d8 w'->w'.rangeAt W.heap.size 0 cs/\w'.cell? ⟨ba,oa+C,none⟩=some (.int .i64 M)):=h_ λw' h=>by
    obtain⟨k1,_,_,k4,_⟩:=HG.out w' (ul.out.grow h).base;exact⟨k1,k4⟩
   have CO:Hid (∀w',Below d8.heap.size d8 w'->Calls Tryz.prog 20 #[.agg cs.toArray, .int .i64 (C:Int), .int .i64 M, .slice (some ⟨pb,po,none⟩) bF.length pc, .pointer (some ⟨G,0,none⟩)] w' λe U=>Below w'.heap.size w' U/\∃y,e= .returned (.tuple #[.pointer (some ⟨y,0,none⟩), .int .i64 0])/\Dw E G (yX c (C:Int) M bF ⟨(s2.js.d.fail x.writes x.bytes).start,Kn,Ki,Fl,false⟩ H) u1 w u2 I y U):=h_ λw' h=>by
    have At:=ul.out.grow h;obtain⟨_,_,k3,_,k5,_⟩:=HG.out w' At.base;have hd:aI w' zk.b zk.bs zk.bm zk.pv (s2.js.d.fail x.writes x.bytes).start 300:=At.hc.pj.j.ly;have Xk:Fl=H.map λe=>(aP e).data.toList:=T.out.bW
    have hC:=uY (own:=(C:Int)) (secret:=M) (pc:=pc) H Rh.out rt.out At.base hd (λk hk=>At.hc.ju (.inr (.inr (.inr hk)))) Wj Xk k3 HZ.out k5 ww.out
     (λe he=>⟨(T.out.ok e he).1,(T.out.ok e he).2.1,(T.out.ok e he).2.2,T.out.vZ e he⟩) (gL T.out.chain) (by have:=T.out.len;have:=Qs.out;have:=qr.out;omega)
    rw[<-lw.out]at hC;rw[pu.out]at hC;refine hC.mono ?_;intro e U hp;have Jz:GU E w' zk.b zk.bs zk.bm 300 zk.pv c (C:Int) M bF ⟨(s2.js.d.fail x.writes x.bytes).start,Kn,Ki,Fl,false⟩ H e U:=by rw[pu.out];exact hp
    obtain⟨p',e1,e2,e3⟩:=At.sT Jz gc.out;exact⟨hp.1,p'.o.hb,e2,p',rfl,e1.trans pu.out,e3⟩
   clear hp Vc Nk Nv CT sm Wj ed eb Vi;go_wp2_with fail;refine Free.ai 14 [(8, .ind (λx=> .tuple #[.pointer (some ⟨x,0,none⟩), .int .i64 0]) (Dw E G (yX c (C:Int) M bF ⟨(s2.js.d.fail x.writes x.bytes).start,Kn,Ki,Fl,false⟩ H) u1 w u2 I))] (λw'=>Below d8.heap.size d8 w') (by kernel_rfl) (by kernel_rfl) (Bc rfl) (Below.refl _ _).drew (λ_ _ h g=>h.trans (Below.mono g h.size)) ?_;simp only[eJ,dT];iterate 9 (first|(apply Free.ae (Free.wq rfl) rfl;(intro w' m B;exact Hk.aU 27 (.tmp 5) rfl W.heap.size 0 rfl cs _ (Pr.out w' m).1 Tryz.underlying27 rfl HI.out);simp only[Pt])|(apply Free.aR (Free.wq rfl) rfl;(intro w' m B;refine Free.au (f:=20) (args:= #[.agg cs.toArray, .int .i64 (C:Int), .int .i64 M, .slice (some ⟨pb,po,none⟩) bF.length pc, .pointer (some ⟨G,0,none⟩)]) (by clear m B;go_simp<;>rfl) ?_;refine(CO.out w' m).mono ?_;rintro e pm ⟨F,y,rfl,hr⟩;exact⟨_,rfl,F,y,rfl,hr⟩))|(apply Free.ae (Free.wq rfl) rfl;(intro w' m B;have q1:=(Pr.out w' m).2;clear B m;go_light;go_simp<;>rfl);(try simp only[Pt])))
   intro X9;simp only[Pt];iterate 5 (apply Free.ae (Free.wq rfl) rfl;(intro w' m B;skip;clear B m;go_light;go_simp<;>rfl);(try simp only[Pt]))
   apply Free.ax;intro Xs Vm _ hh;simp only[fm,fo];obtain⟨Tm,rfl,i8,Ny⟩:=hh _ dH;have Uk:Hid (DJ E c (C:Int) M bF G (k+1) (.pointer (some ⟨Tm.o.hb,0,none⟩)) u1 u2 Xs Tm (yX c (C:Int) M bF ⟨(s2.js.d.fail x.writes x.bytes).start,Kn,Ki,Fl,false⟩ H) H w I):=h_
    ⟨rfl,i8,Ny,T.out,HW.out.2.1,λy hy=>by
     have h:=HW.out.2.2.1 y hy
     rwa[qL (s':=s) m6.out.2.1.symm m6.out.2.2.1.symm],HW.out.2.2.2.1,HW.out.2.2.2.2⟩
   clear Vm hh i8 Ny CO Pr ul HW;go_wp2_with fail
   go_roundw
   case rel=>exact⟨k+1,Tm,_,_,_,_,by push_cast;rfl,Qs.out,Uk.out⟩
   case measure=>have:=Qs.out;simp[RowKit.intOf];omega
end Go.Proofs.YtkmbmfengcdmoaaGreatDoor
