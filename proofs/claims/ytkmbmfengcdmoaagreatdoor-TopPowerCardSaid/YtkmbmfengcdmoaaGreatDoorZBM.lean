/- Law 47: a house opened on a new disk. Conditions: the variables of digest and strconv hold their values; the arguments lie in memory. -/
import Derived.Test.YtkmbmfengcdmoaaGreatDoorZBI
import Derived.Test.YtkmbmfengcdmoaaGreatDoorZBH
import Derived.Test.YtkmbmfengcdmoaaGreatDoorZBK
import Derived.Test.YtkmbmfengcdmoaaGreatDoorZBL
import Derived.Test.YtkmbmfengcdmoaaGreatDoorZAH
import Derived.Test.YtkmbmfengcdmoaaGreatDoorZAP
import Derived.Test.YtkmbmfengcdmoaaGreatDoorZBC
import Derived.Test.YtkmbmfengcdmoaaGreatDoorZBG
import Derived.Test.YtkmbmfengcdmoaaGreatDoorZAI
import Derived.Test.YtkmbmfengcdmoaaGreatDoorZAS
import Derived.Test.YtkmbmfengcdmoaaGreatDoorZAE
import Derived.Test.YtkmbmfengcdmoaaGreatDoorZAL
set_option linter.all false
set_option maxRecDepth 100000
namespace Go.Proofs.YtkmbmfengcdmoaaGreatDoor
open Go.RowKit Go.ay Go.Jn Go.Dk Go.Ho
structure EN (aw:dv):Prop where
 e:Nc aw
 nd:(aw.map (·.1)).Nodup
structure Own (s:HS) (j:Int) (l:List aV):Prop where
 perm:(j6 s.aw j).Perm (l.map aP)
 ch:(iA l j (s.bF.getD j.toNat 0)).1=0
theorem Mi{aw:dv}{j:Int}{t:ByteArray}(h:t∈j6 aw j):∃x,(t,x)∈aw/\x.house=j:=by unfold j6 at h;obtain⟨p,c,rfl⟩:=nS.1 h;obtain⟨a,b⟩:=PY.1 c;exact⟨p.2,a,by simpa using b⟩
theorem EN.get{aw:dv}(h:EN aw){x:aV}(a:(aP x,x)∈aw):fP aw (aP x)=x:=by unfold fP;rw[Mk.get_some h.nd a];rfl
theorem EN.mem{aw:dv}(h:EN aw){x:aV}{t:ByteArray}(a:(t,x)∈aw):t=aP x:=h.e.eq _ a
theorem EN.has{aw:dv}(h:EN aw){x:aV}{j:Int}(c:aP x∈j6 aw j):(aP x,x)∈aw/\x.house=j:=by obtain⟨y,a,b⟩:=Mi c;have e:=kQ (h.mem a);subst e;exact⟨a,b⟩
theorem Gk{aw:dv}(m:EN aw){j:Int}{l:List aV}(o:(j6 aw j).Perm (l.map aP))(r:∀(i:Nat) x,l[i]? =some x->x.seq=(i:Int)):bJ aw j=l:=by
 have hm:∀x∈l,fP aw (aP x)=x:=λx c=>m.get (m.has (o.mem_iff.2 (nS.2 ⟨x,c,rfl⟩))).1
 have y:nO aw j=l.map aP:=by
  unfold nO;refine tL ((dY _ _).trans o) (mq _ _) ?_;unfold z7;rw[List.pairwise_map,List.pairwise_iff_getElem];intro a b h k z;have t:=r a _ (eH h);have u:=r b _ (eH k);have f:nL aw (aP l[a])=(a:Int):=by unfold nL;rw[hm _ (KM h)];exact t
  have g:nL aw (aP l[b])=(b:Int):=by unfold nL;rw[hm _ (KM k)];exact u
  rintro(q|q)
  ·rw[f,g]at q;omega
  ·have:=q.1;rw[f,g]at this;omega
 unfold bJ;rw[y,PS];exact(List.map_congr_left (λx c=>by exact hm x c)).trans (List.map_id l)
theorem uO{l:List aV}(b:∀(i:Nat) x,l[i]? =some x->x.seq=(i:Int)):∀k n,n+k=l.length->jD l k n=l.length
 |0,n,h=>by rw[jD];omega
 |k+1,n,h=>by
  have a:n<l.length:=by omega
  have f:Hw l n:=by
   refine⟨a, ?_, ?_⟩
   ·rw[eH a];exact congrArg some (b n _ (eH a))
   ·by_cases e:n+1=l.length
    ·exact .inl e
    ·right;have c:n+1<l.length:=by omega
     rw[eH c];intro q;have g:(l[n+1]).seq=(n:Int):=by injection q
     have:=b (n+1) _ (eH c);omega
  rw[uP f];exact uO b k (n+1) (by omega)
theorem uN{l:List aV}{house pub:Int}:∀(n k:Nat),(gi l house pub n k).1=0->gi l house pub n k=(0, -1)
 |0,_,_=>rfl
 |n+1,k,h=>by
  rw[gi]at h⊢;split
  ·rfl
  ·rename_i e b;rw[b]at h;simp only at h;by_cases a:iD l k e house pub=0
   ·rw[if_pos a]at h⊢;exact uN n (k+1) h
   ·rw[if_neg a]at h;dsimp only at h;exact absurd h a
theorem Lh{l:List aV}{house pub:Int}(h:(iA l house pub).1=0):iA l house pub=(0, -1):=by
 unfold iA at h⊢;split
 ·rename_i a;rw[if_pos a]at h;exact uN _ _ h
 ·rename_i a;rw[if_neg a]at h;cases h
theorem Ap{l:List aV}{j pub:Int}(h:(iA l j pub).1=0):fA l j pub=l:=by
 have c:∀(i:Nat) x,l[i]? =some x->x.seq=(i:Int):=λi x f=>(sj h i x f).2.1
 have a:pV l=l.length:=uO c _ 0 (by omega);have b:Ej l j pub=l.length:=by unfold Ej;rw[a,KK,Lh h,if_neg (show ¬((-1:Int)≥0) by decide)]
 unfold fA;rw[b,KK]
theorem Own.sorted{s:HS}{j:Int}{l:List aV}(h:Own s j l)(a:EN s.aw):bJ s.aw j=l:=Gk a h.perm λi x b=>(sj h.ch i x b).2.1
theorem Own.ou{s:HS}{j:Int}{l:List aV}(h:Own s j l)(a:EN s.aw):bE s j=l:=by unfold bE;rw[h.sorted a];exact Ap h.ch
theorem Own.fork{s:HS}{l:List aV}(h:Own s s.me l)(a:EN s.aw):gR s=false:=by unfold gR;rw[h.ou a,h.sorted a];simp
theorem EN.put{aw:dv}(h:EN aw){e:aV}(g:∀p∈aw,p.1≠aP e)(k:e.Ok)(l:e.prev.size<=1000000000)(j:e.body.size<=1000000000)(m:aw.length<1000000):EN (aw++ [(aP e,e)]):=by
 refine⟨⟨λp c=> ?_,λp c=> ?_,by rw[fu,DT];omega⟩, ?_⟩
 ·rcases zT.1 c with q|q
  ·exact h.e.eq p q
  ·rw[vU]at q;subst q;rfl
 ·rcases zT.1 c with q|q
  ·exact h.e.ok p q
  ·rw[vU]at q;subst q;exact⟨k,l,j⟩
 ·rw[uE,List.nodup_append];refine⟨h.nd,by simp,λa i b f=> ?_⟩;simp only[xJ,NP,vU]at f;subst f;obtain⟨p,c,rfl⟩:=nS.1 i;exact g p c
structure GH (n:Nat) (s:HS) (m:Nat):Prop where
 run:s.run=true
 j:mU n s.js m
 bW:s.js.bW=s.aw.map λp=>p.1.data.toList
 en:EN s.aw
 gen:∀p∈s.aw,gB s.aj s.bF p.2 p.1=true
 inv:lv s
 jX:s.aw.length<=m
structure DH (n:Nat) (s:HS) (m:Nat) (e:aV) (s':HS):Prop where
 eq:s'= {s with js:=s'.js,run:=false}
 dead:Nf n s'.js (m+1) (s.aw.map λp=>p.1.data.toList) ((s.aw++ [(aP e,e)]).map λp=>p.1.data.toList)
 arm:s.js.d.bH=true
 new:∀p∈s.aw,p.1≠aP e
 gen:gB s.aj s.bF e (aP e)=true
structure dA (n:Nat) (s:HS) (m:Nat) (e:aV) (s':HS):Prop where
 gh:GH n s' (m+1)
 eq:s'= {s with js:=s'.js,aw:=s.aw++ [(aP e,e)]}
 arm:s'.js.d.bH=s.js.d.bH
 new:∀p∈s.aw,p.1≠aP e
 gen:gB s.aj s.bF e (aP e)=true
theorem dB{a:Int}{bF:List Int}{e:aV}{t:ByteArray}(h:gB a bF e t=true):dj a e=true/\t.size<=2000/\nM e (bF.getD e.house.toNat 0)=true:=by unfold gB at h;simp only[ua,uD]at h;exact⟨h.1,by omega,h.2.2⟩
theorem Bm(l:List (List UInt8))(b:List UInt8):dG (l++ [b])=dG l+4+b.length:=by rw[kR];show _+(4+b.length+0)=_;omega
theorem A9{aw:dv}{t:ByteArray}(h:(Mk.get aw t).isSome=false):∀p∈aw,p.1≠t:=Mk.wE.1 (by cases hg:Mk.get aw t with|none=>rfl|some _=>rw[hg]at h;cases h)
theorem jP(b:ByteArray):b.data.toList.length=b.size:=by simp
theorem GH.store{n:Nat}{s:HS}{m:Nat}(h:GH n s m)(x:4<=n)(hm:m<900000){e:aV}(a:∀p∈s.aw,p.1≠aP e)(g:gB s.aj s.bF e (aP e)=true)(y:e.Ok)(z:e.prev.size<=1000000000)(u:e.body.size<=1000000000):
  (s.store n e (aP e)=(s,19)/\32*((n-2) / 2)<dG s.js.bW+4+(aP e).size)\/
   ((s.store n e (aP e)).2=0/\dA n s m e (s.store n e (aP e)).1)\/((s.store n e (aP e)).2=21/\DH n s m e (s.store n e (aP e)).1):=by
 have A:=(dB g).2.1;have r:=h.jX;have f:s.js.bW++ [(aP e).data.toList]=(s.aw++ [(aP e,e)]).map λp=>p.1.data.toList:=by rw[h.bW,uE];rfl
 rcases h.j.append x (by omega) (aP e).data.toList with⟨q,_⟩|⟨C,t,b⟩|⟨b,o,i,B⟩|⟨b,o,i⟩
 ·rw[jP]at q;omega
 ·left;rw[Bm,jP]at t;refine⟨?_,t⟩;unfold HS.store;rw[b];rfl
 ·right;left;have k:s.store n e (aP e)=({s with js:=(s.js.append n (aP e).data.toList).1,aw:=s.aw++ [(aP e,e)]},0):=by unfold HS.store;rw[if_pos b,Mk.mf a]
  rw[k];have c:=h.en.put a y z u (by omega);refine⟨rfl,⟨h.run,o, ?_,c, ?_,⟨c.e,h.inv.KH,h.inv.me,h.inv.pn,h.inv.KI⟩, ?_⟩,rfl,B,a,g⟩
  ·show(s.js.append n (aP e).data.toList).1.bW=_;rw[i,f]
  ·intro p l;rcases zT.1 l with q|q
   ·exact h.gen p q
   ·rw[vU]at q;subst q;exact g
  ·show(s.aw++ [(aP e,e)]).length<=_;rw[fu,DT];omega
 ·right;right;have k:s.store n e (aP e)=({s with js:=(s.js.append n (aP e).data.toList).1,run:=false},21):=by unfold HS.store;rw[if_neg (by rw[b];decide),if_neg (by rw[b];decide)]
  rw[k];refine⟨rfl,rfl, ?_,o,a,g⟩;rw[f,h.bW]at i;exact i
open Go.Apl Go.Sg
theorem GH.take{n m:Nat}{s:HS}(h:GH n s m)(u:4<=n)(hm:m<900000){e:aV}(y:e.Ok)(z:e.prev.size<=1000000000)(t:e.body.size<=1000000000):
  (∃c,s.take n e=(s,c)/\c≠0/\c≠17/\c≠21/\(gB s.aj s.bF e (aP e)=true->c=19/\32*((n-2) / 2)<dG s.js.bW+4+(aP e).size))\/(s.take n e=(s,17)/\dj s.aj e=true/\nM e (s.bF.getD e.house.toNat 0)=false)\/
   (s.take n e=(s,0)/\(aP e,e)∈s.aw)\/((s.take n e).2=0/\dA n s m e (s.take n e).1)\/((s.take n e).2=21/\DH n s m e (s.take n e).1):=by
 unfold HS.take;rw[if_neg (by rw[h.run];decide)];by_cases f:dj s.aj e=false
 ·rw[if_pos f];exact .inl ⟨1,rfl,by decide,by decide,by decide,λb=>by rw[(dB b).1]at f;cases f⟩
 rw[if_neg f];have g:dj s.aj e=true:=by simpa using f
 by_cases r:2000<(aP e).size
 ·rw[if_pos r];exact .inl ⟨3,rfl,by decide,by decide,by decide,λb=>by have:=(dB b).2.1;omega⟩
 rw[if_neg r];by_cases i:(Mk.get s.aw (aP e)).isSome=true
 ·rw[if_pos i];refine .inr (.inr (.inl ⟨rfl, ?_⟩));cases b:Mk.get s.aw (aP e)with
  |none=>rw[b]at i;cases i
  |some x=>
   have hm:=Mk.get_mem b
   have:=kQ (h.en.mem hm);rw[<-this]at hm;exact hm
 rw[if_neg i];have l:=A9 (by simpa using i);by_cases a:gB s.aj s.bF e (aP e)=false
 ·rw[if_pos a];refine .inr (.inl ⟨rfl,g, ?_⟩);unfold gB at a;rw[g,dt (by omega)]at a;simpa using a
 rw[if_neg a];have k:gB s.aj s.bF e (aP e)=true:=by simpa using a
 rcases h.store u hm l k y z t with⟨q,j⟩|⟨o,j⟩|⟨o,j⟩
 ·exact .inl ⟨19,q,by decide,by decide,by decide,λ_=>⟨rfl,j⟩⟩
 ·exact .inr (.inr (.inr (.inl ⟨o,j⟩)))
 ·exact .inr (.inr (.inr (.inr ⟨o,j⟩)))
theorem vf(l:List aV)(e:aV)(house:Int):gD l e house≠21:=by
 unfold gD
 repeat' split
 all_goals decide
theorem Ee(l:List aV)(k:Nat)(e:aV)(house pub:Int):iD l k e house pub≠21:=by
 unfold iD;by_cases h:gD (l.take k) e house=0
 ·rw[if_pos h];split
  ·split
   ·show((0:Int)≠21);decide
   ·show((17:Int)≠21);decide
  ·show((17:Int)≠21);decide
 ·rw[if_neg h];exact vf (l.take k) e house
theorem sg(l:List aV)(house pub:Int):∀n k,(gi l house pub n k).1≠21
 |0,_=>by show((0:Int)≠21);decide
 |n+1,k=>by
  rw[gi];split
  ·show((0:Int)≠21);decide
  ·rename_i e b;by_cases a:iD l k e house pub=0
   ·rw[if_pos a];exact sg l house pub n (k+1)
   ·rw[if_neg a];dsimp only;exact Ee l k e house pub
theorem Ea(l:List aV)(house secret day:Int)(body:ByteArray):eI l house secret day body≠21:=by
 unfold eI;split
 ·split
  ·exact vf _ _ _
  ·unfold iA;by_cases a:gS house (cQ secret)
   ·rw[if_pos a];exact sg l house (cQ secret) l.length 0
   ·rw[if_neg a];show((1:Int)≠21);decide
 ·decide
theorem GH.add{n m:Nat}{s:HS}(h:GH n s m)(hn:4<=n)(hm:m<900000){l:List aV}(t:Own s s.me l)(Q:s.bF.getD s.me.toNat 0=cQ s.secret){day:Int}{body:ByteArray}(E: -9223372036854775808<=day)(F:day<=9223372036854775807)(Y:body.size<=1000000000):
  (∃c,s.add n day body=(s,aM,c)/\c≠0/\c≠21/\(eI l s.me s.secret day body≠0->c=eI l s.me s.secret day body)/\(eI l s.me s.secret day body=0->(aP (dn l s.me s.secret day body)).size<=2000->c=19/\32*((n-2) / 2)<dG s.js.bW+4+(aP (dn l s.me s.secret day body)).size))\/
   ((s.add n day body).2=(dn l s.me s.secret day body,0)/\eI l s.me s.secret day body=0/\dA n s m (dn l s.me s.secret day body) (s.add n day body).1/\Own (s.add n day body).1 s.me (l++ [dn l s.me s.secret day body]))\/
   ((s.add n day body).2=(aM,21)/\eI l s.me s.secret day body=0/\DH n s m (dn l s.me s.secret day body) (s.add n day body).1):=by
 have O:=t.ou h.en;have J:s.next day body=dn l s.me s.secret day body:=by unfold HS.next;rw[O]
 have W:=h.inv.KH;have X:=h.inv.me;have h2:=h.inv.KI;unfold HS.add;rw[O,J];by_cases k:eI l s.me s.secret day body≠0
 ·rw[if_pos k];exact .inl ⟨_,rfl,k,Ea _ _ _ _ _,λ_=>rfl,λe=>absurd e k⟩
 rw[if_neg k];have a:eI l s.me s.secret day body=0:=by simpa using k
 obtain⟨e,C⟩:=x_ (dn l s.me s.secret day body)
 have G:l.length<=1000000:=by have:=h.en.e.jX;have j:=t.perm.length_eq;have N:=gE s.aw s.me;rw[rm]at j;omega
 obtain⟨z,A,B⟩:=ky l s.me s.secret day body G (by omega) (by omega) E F Y;obtain⟨y,_,H⟩:=Cj a;obtain⟨f,b,_⟩:=vg H;have o:=mA a;have M:=zE (l:=l) (house:=s.me) (day:=day) (body:=body) y;rw[<-C]at z A B o M⊢;have j:e.house=s.me:=by rw[C];rfl
 have N:e.seq=(l.length:Int):=by rw[C];rfl
 have S:e.day=day:=by rw[C];rfl
 by_cases hz:2000<(aP e).size
 ·rw[if_pos hz];exact .inl ⟨_,rfl,by decide,by decide,λq=>absurd a q,λ_ q=>by omega⟩
 rw[if_neg hz];have I:∀p∈s.aw,p.1≠aP e:=λp R q=>by
  have T:=h.en.e.eq p R;have U:=kQ (T.symm.trans q);have u:aP e∈j6 s.aw s.me:=by unfold j6;refine nS.2 ⟨p,PY.2 ⟨R, ?_⟩,q⟩;rw[U,j];simp
  obtain⟨x,hx,K⟩:=nS.1 (t.perm.mem_iff.1 u);have V:=kQ K;subst V;obtain⟨i,P⟩:=NQ.1 hx;have e7:=(sj t.ch i x P).2.1;have e8:=(jS.1 P).1;omega
 have Z:gB s.aj s.bF e (aP e)=true:=by unfold gB dj;rw[j,Q,M,N,S];unfold ql at f;unfold pP at b;simp only[ua,uD]at f b⊢;have r:0<=day/\day<=2000:=b.2.2;exact⟨⟨W,X,by omega,f.1,r.1,r.2⟩,by omega,trivial⟩
 rcases h.store hn hm I Z z A B with⟨q,g⟩|⟨D,g⟩|⟨D,g⟩
 ·rw[q];exact .inl ⟨19,rfl,by decide,by decide,λq=>absurd a q,λ_ _=>⟨rfl,g⟩⟩
 ·rw[if_neg (by rw[D];decide)];refine .inr (.inl ⟨rfl,a,g, ?_, ?_⟩)
  ·show(j6 (s.store n e (aP e)).1.aw s.me).Perm _;rw[g.eq];show(j6 (s.aw++ [(aP e,e)]) s.me).Perm _;rw[oN,uE];show(j6 s.aw s.me++(if e.house==s.me then [aP e]else [])).Perm _;rw[j,if_pos (by simp)];exact t.perm.append_right _
  ·show(iA _ s.me ((s.store n e (aP e)).1.bF.getD s.me.toNat 0)).1=0;rw[g.eq];show(iA _ s.me (s.bF.getD s.me.toNat 0)).1=0;rw[Q];exact o
 ·rw[if_pos (by rw[D];decide),D];exact .inr (.inr ⟨rfl,a,g⟩)
theorem Own.other{s s':HS}{j:Int}{l:List aV}{e:aV}(h:Own s j l)(a:s'= {s with js:=s'.js,aw:=s.aw++ [(aP e,e)]})(b:e.house≠j):Own s' j l:=by
 refine⟨?_, ?_⟩
 ·rw[a];show(j6 (s.aw++ [(aP e,e)]) j).Perm _;rw[oN];show(j6 s.aw j++(if e.house==j then [aP e]else [])).Perm _;rw[if_neg (by simpa using b),DS];exact h.perm
 ·rw[a];exact h.ch
theorem kY(aw:dv)(j:Int):(bJ aw j).length=aw.countP (λp=>p.2.house==j):=by unfold bJ;rw[rm,fe];unfold j6;rw[rm,List.countP_eq_length_filter]
open Go.Cs Go.Cv
def yX(c:cZ)(own secret:Int)(bF:List Int)(js:JS)(es:List aV):HS:=⟨c.aj,c.bQ.length,c.days,own,secret,bF,js,true,eP es⟩
def OV(n:Nat):JS:=⟨DD.new n,(0,0,0),0,[],false⟩
def yR(c:cZ)(own secret:Int)(bF:List Int)(n:Nat):HS:=yX c own secret bF (OV n) []
theorem uT{es:List aV}(b:∀e∈es,e.Ok/\e.prev.size<=1000000/\e.body.size<=1000000)(a:(es.map aP).Nodup)(g:es.length<=1000000):EN (eP es):=by
 refine⟨⟨λp c=> ?_,λp c=> ?_,by unfold eP;rw[rm];exact g⟩,by rw[yv];exact a⟩
 ·obtain⟨x,_,rfl⟩:=nS.1 c;rfl
 ·obtain⟨x,h,rfl⟩:=nS.1 c;obtain⟨f,i,j⟩:=b x h;exact⟨f,by show x.prev.size<=_;omega,by show x.body.size<=_;omega⟩
theorem yZ{c:cZ}{own secret:Int}{bF:List Int}{js:JS}{es:List aV}(h:oO c own secret bF=true)(i:EN (eP es)):lv (yX c own secret bF js es):=by obtain⟨a,b,f,g,_⟩:=tf h;exact⟨i.e,b,f,g,sD a⟩
theorem Jy{c:cZ}{own secret:Int}{bF:List Int}{js:JS}{es:List aV}(h:oO c own secret bF=true):(yX c own secret bF js es).bF.getD (yX c own secret bF js es).me.toNat 0=cQ (yX c own secret bF js es).secret:=(tf h).2.2.2.2.2.2.symm
theorem Fv{c:cZ}{own secret:Int}{bF:List Int}(h:oO c own secret bF=true){j:Int}(i:0<=j)(o:j<c.aj):gS j (bF.getD j.toNat 0):=by
 obtain⟨f,_,_,m,g,_⟩:=tf h;have k:=sD f;have b:j.toNat<bF.length:=by omega
 have l:bF.getD j.toNat 0=bF[j.toNat]:=by rw[BX,eH b];rfl
 have a:=GJ.1 g bF[j.toNat] (KM b);unfold iW at a;simp only[ua,uD]at a;rw[l];exact⟨i,by omega,a.1,by omega⟩
theorem Mq{s:HS}{j:Int}(b:gS j (s.bF.getD j.toNat 0))(a:j6 s.aw j= []):Own s j []:=by refine⟨by rw[a];exact P5 _, ?_⟩;unfold iA;rw[if_pos b];rfl
theorem Ii:EN (eP []):=uT (es:= []) (λe a=>by cases a) List.nodup_nil (gu _)
theorem nu{x:ei}(h:x.Ok):(iT x).size<=136:=om h 6
theorem Ba{c:cZ}{own secret:Int}{bF:List Int}{n:Nat}(a:4<=n)(b:n<=4000)(h:oO c own secret bF=true):GH n (yR c own secret bF n) 0:=
 ⟨rfl,mU.new a b,rfl,Ii,λp f=>(by cases f),yZ h Ii,aL _⟩
theorem Dq{c:cZ}{own secret:Int}{bF:List Int}{n:Nat}(h:oO c own secret bF=true){j:Int}(a:0<=j)(b:j<c.aj):Own (yR c own secret bF n) j []:=Mq (Fv h a b) rfl
theorem oE{n:Nat}{s:HS}{x:ei}{l:List aV}(c:s.run=true)(a:Own s s.me l)(b:EN s.aw):
  s.file n x=if dE s x=false then(s,aM,1)else if((cg s l).any λy=>y.ref==x.ref)=true then(s,aM,9)else s.add n x.cJ (iT x):=by
 unfold HS.file;rw[if_neg (by rw[c];decide),if_neg (show ¬gR s=true by rw[a.fork b];decide)];unfold dP;rw[a.ou b]
theorem Pg{n:Nat}{s:HS}{x:Let}{l:List aV}(c:s.run=true)(a:Own s s.me l)(b:EN s.aw):
  s.GG n x=if x.j8≠s.me then(s,aM,1)else if(tx x.patch.text).size=0 then(s,aM,3)else s.add n x.na ⟨(Ja x (tx x.patch.text)).toArray⟩:=by
 unfold HS.GG;rw[if_neg (by rw[c];decide),if_neg (show ¬gR s=true by rw[a.fork b];decide)]
structure GP (s:HS) (l:List aV) (x:ei):Prop where
 v:dE s x=true
 new:((cg s l).any λy=>y.ref==x.ref)=false
theorem GH.file{n m:Nat}{s:HS}(h:GH n s m)(r:4<=n)(hm:m<900000){l:List aV}(o:Own s s.me l)(q:s.bF.getD s.me.toNat 0=cQ s.secret){x:ei}(j:x.Ok):
  (∃c,s.file n x=(s,aM,c)/\c≠0/\c≠21)\/
   ((s.file n x).2=(dn l s.me s.secret x.cJ (iT x),0)/\eI l s.me s.secret x.cJ (iT x)=0/\GP s l x/\dA n s m (dn l s.me s.secret x.cJ (iT x)) (s.file n x).1/\Own (s.file n x).1 s.me (l++ [dn l s.me s.secret x.cJ (iT x)]))\/
   ((s.file n x).2=(aM,21)/\eI l s.me s.secret x.cJ (iT x)=0/\GP s l x/\DH n s m (dn l s.me s.secret x.cJ (iT x)) (s.file n x).1):=by
 rw[oE h.run o h.en];by_cases g:dE s x=false
 ·rw[if_pos g];exact .inl ⟨1,rfl,by decide,by decide⟩
 rw[if_neg g];by_cases i:((cg s l).any λy=>y.ref==x.ref)=true
 ·rw[if_pos i];exact .inl ⟨9,rfl,by decide,by decide⟩
 rw[if_neg i];have k:GP s l x:=⟨by simpa using g,by simpa using i⟩
 rcases h.add r hm o q (day:=x.cJ) (body:=iT x) j.f0 j.f1 (by have:=nu j;omega)with⟨c,a,b,f,_⟩|⟨a,b,f,t⟩|⟨a,b,f⟩
 ·exact .inl ⟨c,a,b,f⟩
 ·exact .inr (.inl ⟨a,b,k,f,t⟩)
 ·exact .inr (.inr ⟨a,b,k,f⟩)
theorem GH.GG{n m:Nat}{s:HS}(h:GH n s m)(u:4<=n)(hm:m<900000){l:List aV}(q:Own s s.me l)(t:s.bF.getD s.me.toNat 0=cQ s.secret){x:Let}(i: -9223372036854775808<=x.na)(j:x.na<=9223372036854775807){body:ByteArray}(r:body=⟨(Ja x (tx x.patch.text)).toArray⟩)(g:body.size<=1000000000):
  (∃c,s.GG n x=(s,aM,c)/\c≠0/\c≠21)\/
   ((s.GG n x).2=(dn l s.me s.secret x.na body,0)/\eI l s.me s.secret x.na body=0/\dA n s m (dn l s.me s.secret x.na body) (s.GG n x).1/\Own (s.GG n x).1 s.me (l++ [dn l s.me s.secret x.na body]))\/
   ((s.GG n x).2=(aM,21)/\eI l s.me s.secret x.na body=0/\DH n s m (dn l s.me s.secret x.na body) (s.GG n x).1):=by
 rw[Pg h.run q h.en, <-r];by_cases k:x.j8≠s.me
 ·rw[if_pos k];exact .inl ⟨1,rfl,by decide,by decide⟩
 rw[if_neg k];by_cases o:(tx x.patch.text).size=0
 ·rw[if_pos o];exact .inl ⟨3,rfl,by decide,by decide⟩
 rw[if_neg o];rcases h.add u hm q t (day:=x.na) (body:=body) i j g with⟨c,a,b,f,_⟩|⟨a,b,f,y⟩|⟨a,b,f⟩
 ·exact .inl ⟨c,a,b,f⟩
 ·exact .inr (.inl ⟨a,b,f,y⟩)
 ·exact .inr (.inr ⟨a,b,f⟩)
end Go.Proofs.YtkmbmfengcdmoaaGreatDoor
namespace Go.Proofs.YtkmbmfengcdmoaaGreatDoor
open Go.Sg Go.W32 Go.Cs Go.Ho

theorem KZ{l:List aV}{day:Int}{body:ByteArray}(g:(iA l 0 (cQ 5)).1=0)(j:l.length<100)(i:body.size<=2000)(a:0<=day/\day<=2000)(h:∀x,l.getLast? =some x->x.day<=day):eI l 0 5 day body=0:=by
 unfold eI;rw[if_pos zx,if_pos g];unfold gD;have b:ql l.length (Fq l 0 day body)=true:=by unfold ql;show(decide ((l.length:Int)<4000)&&decide ((body.size:Int)<=2000))=true;rw[dt (by omega),dt (by omega)];rfl
 have c:pP l.length (Fq l 0 day body) 0=true:=by unfold pP;show(((0:Int)==0)&&(((l.length:Int)==(l.length:Int))&&(decide (0<=day)&&decide (day<=2000))))=true;rw[dt a.1,dt a.2];simp
 have f:rA l (Fq l 0 day body)=true:=by
  unfold rA;cases hg:l.getLast? with
  |none=>rfl
  |some x=>exact dt (h x hg)
 rw[if_pos b,if_pos c,if_pos f]
end Go.Proofs.YtkmbmfengcdmoaaGreatDoor
namespace Go.Proofs.YtkmbmfengcdmoaaGreatDoor
open Go.RowKit Go.W32 Go.ay Go.Cs Go.Lib Go.Opn Go.Mg Go.Cv Go.Apl

end Go.Proofs.YtkmbmfengcdmoaaGreatDoor
namespace Go.Proofs.YtkmbmfengcdmoaaGreatDoor
open Go.RowKit Go.ay Go.Cs Go.Jn Go.Dk Go.Ho Go.Apl Go.Sg Go.Cv

theorem GH.Ci{n m:Nat}{s:HS}(h:GH n s m)(r:4<=n)(hm:m<900000){l:List aV}(o:Own s s.me l)(k:s.bF.getD s.me.toNat 0=cQ s.secret){day:Int}{body:ByteArray}(a: -9223372036854775808<=day)(b:day<=9223372036854775807)(i:body.size<=1000000000)
  (g:s.js.d.bH=false) (j:eI l s.me s.secret day body=0) (hz:(aP (dn l s.me s.secret day body)).size<=2000) (x:dG s.js.bW+4+(aP (dn l s.me s.secret day body)).size<=32*((n-2) / 2)):
  (s.add n day body).2=(dn l s.me s.secret day body,0)/\dA n s m (dn l s.me s.secret day body) (s.add n day body).1/\Own (s.add n day body).1 s.me (l++ [dn l s.me s.secret day body]):=by
 rcases h.add r hm o k a b i with⟨c,_,_,_,_,q⟩|⟨t,_,f,u⟩|⟨_,_,f⟩
 ·have:=(q j hz).2;omega
 ·exact⟨t,f,u⟩
 ·have:=f.arm;rw[g]at this;cases this
theorem GH.zM{n m:Nat}{s:HS}(h:GH n s m)(i:4<=n)(hm:m<900000){e:aV}(j:e.Ok)(k:e.prev.size<=1000000000)(g:e.body.size<=1000000000)(f:s.js.d.bH=false)(a:(aP e,e)∉s.aw)(b:gB s.aj s.bF e (aP e)=true)(r:dG s.js.bW+4+(aP e).size<=32*((n-2) / 2)):
  (s.take n e).2=0/\dA n s m e (s.take n e).1:=by
 rcases h.take i hm j k g with⟨c,_,_,_,_,q⟩|⟨_,_,q⟩|⟨_,q⟩|⟨l,o⟩|⟨_,q⟩
 ·have:=(q b).2;omega
 ·have:=(dB b).2.2;rw[q]at this;cases this
 ·exact absurd q a
 ·exact⟨l,o⟩
 ·have:=q.arm;rw[f]at this;cases this
theorem mK{α β:Type}{x:α×β}{b:β}(h:x.2=b):x=(x.1,b):=by rw[<-h]
theorem Ga(b:List UInt8):dG [b]=4+b.length:=rfl
theorem dA.bF{n m:Nat}{s s':HS}{e:aV}(h:dA n s m e s'):s'.bF=s.bF/\s'.me=s.me/\s'.secret=s.secret/\s'.aj=s.aj/\s'.bQ=s.bQ/\s'.days=s.days/\s'.aw=s.aw++ [(aP e,e)]:=by have e:=h.eq;refine⟨?_, ?_, ?_, ?_, ?_, ?_, ?_⟩<;>rw[e]
def gq:List Int:= [16807,49]
end Go.Proofs.YtkmbmfengcdmoaaGreatDoor
namespace Go.Proofs.YtkmbmfengcdmoaaGreatDoor
open Go.RowKit Go.ay Go.Jn Go.Dk Go.Ho
structure xO (we w:World) (n1:Nat) (p1:Pl) (s1:HS) (n2:Nat) (p2:Pl) (s2:HS):Prop where
 a:HC we w n1 p1 s1
 b:HC we w n2 p2 s2
 off:∀k,p1.F k-> ¬p2.F k
section
variable {we w w':World} {n1 n2:Nat} {p1 p2:Pl} {s1 s2 s':HS} {v:Value} {e:Ending}
theorem xO.swap(h:xO we w n1 p1 s1 n2 p2 s2):xO we w n2 p2 s2 n1 p1 s1:=⟨h.b,h.a,λk f c=>h.off k c f⟩
end
open Go.Mp Go.Lib
section
variable {we w w':World} {n:Nat} {p:Pl} {s:HS} {v:Value} {e:Ending} {d:DD}
theorem HC.ly(h:HC we w n p s)(q:eM w p.b p.bs p.bm n p.pv d v e w'):bS we w n p {s with js:= {s.js with d:=d}} v e w':=by
 obtain⟨l,c,g,m,i,j⟩:=h.pj.ly q;refine⟨l,{p with bm:=c,pv:=g},rfl,rfl,rfl,h.NK (rv':=p.rv) m i j,i.mono (λk _ f=> .inr f), ?_⟩;intro k a;rcases a with a|a
 ·exact .inl (.inl a)
 ·exact(j k a).imp (λh=> .inr h) id
theorem HC.fail(h:HC we w n p s)(x y:Int)(a: -9223372036854775808<=x)(c:x<=9223372036854775807)(f: -9223372036854775808<=y)(g:y<=9223372036854775807):
  Calls Tryz.prog 24 #[.pointer (some ⟨p.b,0,none⟩), .int .i64 x, .int .i64 y] w (bS we w n p {s with js:= {s.js with d:=s.js.d.fail x y}} (.tuple #[])):=
 (oD h.pj.j.ly x y a c).mono λ_ _ q=>h.ly q
theorem HC.start(h:HC we w n p s):Calls Tryz.prog 25 #[.pointer (some ⟨p.b,0,none⟩)] w (bS we w n p {s with js:= {s.js with d:=s.js.d.start}} (.tuple #[])):=
 (Ie h.pj.j.ly).mono λ_ _ q=>h.ly q
theorem HC.arm(h:HC we w n p s)(x y z:Int)(a: -9223372036854775808<=x)(c:x<=9223372036854775807)(f: -9223372036854775808<=y)(g:y<=9223372036854775807)(i: -9223372036854775808<=z)(k:z<=9223372036854775807):
  Calls Tryz.prog 21 #[.pointer (some ⟨p.b,0,none⟩), .int .i64 x, .int .i64 y, .int .i64 z] w (bS we w n p {s with js:= {s.js with d:=s.js.d.arm x y z}} (.tuple #[])):=
 (OA h.pj.j.ly x y z a c f g i k).mono λ_ _ q=>h.ly q
end
end Go.Proofs.YtkmbmfengcdmoaaGreatDoor
namespace Go.Proofs.YtkmbmfengcdmoaaGreatDoor
open Go.RowKit Go.ay Go.Jn Go.Dk Go.Ho Go.Lib

abbrev Bk:=Nat×List Value×TypeId
structure St (we w:World) (n1:Nat) (p1:Pl) (s1:HS) (n2:Nat) (p2:Pl) (s2:HS) (L:List Bk):Prop where
 two:xO we w n1 p1 s1 n2 p2 s2
 bg:∀x∈L,ay w x.1 x.2.1 x.2.2/\ ¬p1.F x.1/\ ¬p2.F x.1
section
variable {we w w':World} {n1 n2:Nat} {p1 p2:Pl} {s1 s2 s':HS} {v:Value} {e:Ending} {L:List Bk}
theorem St.swap(h:St we w n1 p1 s1 n2 p2 s2 L):St we w n2 p2 s2 n1 p1 s1 L:=⟨h.two.swap,λx a=>⟨(h.bg x a).1,(h.bg x a).2.2,(h.bg x a).2.1⟩⟩
theorem GH.lim{n m:Nat}{s:HS}(h:GH n s m):s.js.d.aF.length<=900000/\s.js.bW.length<=1000000:=by refine⟨by rw[h.j.aF];exact gu _, ?_⟩;rw[h.bW,rm];exact h.en.e.jX
end
end Go.Proofs.YtkmbmfengcdmoaaGreatDoor
namespace Go.Cv
open Go Go.Cs
def iR(m:Nat)(c:cZ):Bool:= !(decide (20<c.aE.length)||decide (30<c.bP.length)||decide (70<c.bQ.length)||decide (m<c.iH.length)||decide (100<c.off.length))&&c.iH.all λq=>decide (q.1.start.length<=20)
end Go.Cv
namespace Go.Proofs.YtkmbmfengcdmoaaGreatDoor
open Go.RowKit Go.W32 Go.ay Go.Cs Go.Lib Go.Opn Go.Mg Go.Cv

set_option maxHeartbeats 2000000 in
theorem zF(m:Nat)(c:cZ)(W:World)(I:dV W c)(hz:lk c)(hm:m<=1000):Calls Tryz.prog 33 #[.agg (cD c).toArray, .int .i64 (m:Int)] W λe w'=>e= .returned (.bool (iR m c))/\Below W.heap.size W w':=by
 obtain⟨R,D⟩:=x_ (λe w'=>e= .returned (.bool (iR m c))/\Below W.heap.size W w':Ending->World->Prop)
 rw[<-D];have a:Hid (∀w' v,iR m c=v->Below W.heap.size W w'->R (.returned (.bool v)) w'):=h_ λw' v h N=>by rw[D,h];exact⟨rfl,N⟩
 clear D;obtain⟨u,z,f⟩:=uh W c;have t:=h_ f.e;have b:=h_ f.below;have f1:=f.row.at (show z[1]? =some (.slice c.hA c.aE.length c.hc) by rw[f.cs];rfl);have f2:=f.row.at (show z[2]? =some (.slice c.uA c.bP.length c.uc) by rw[f.cs];rfl);have f3:=f.row.at (show z[3]? =some (.slice c.aA c.bQ.length c.ac) by rw[f.cs];rfl);have M:=f.row.at (show z[4]? =some (.slice c.kA c.iH.length c.kc) by rw[f.cs];rfl);have f6:=f.row.at (show z[6]? =some (.slice c.oA c.off.length c.oc) by rw[f.cs];rfl);rw[<-f.cs];have H:=h_ (I.k.below f.below (aL _));have P:=hz.k;clear f I hz;go_enter Tryz.func33,Tryz.ntmps33;by_cases j:20<c.aE.length
 ·have Q:decide ((20:Int)<(c.aE.length:Int))=true:=dt (by omega);have g:=h_ (a.out u false (by unfold iR;simp[j]) b.out);clear j;go_wp2_with (simp only[t.out])
  exact g.out
 have Q:decide ((20:Int)<(c.aE.length:Int))=false:=dy (by omega);by_cases l:30<c.bP.length
 ·have S:decide ((30:Int)<(c.bP.length:Int))=true:=dt (by omega);have g:=h_ (a.out u false (by unfold iR;simp[l]) b.out);clear j l;go_wp2_with (simp only[t.out])
  exact g.out
 have S:decide ((30:Int)<(c.bP.length:Int))=false:=dy (by omega);by_cases y:70<c.bQ.length
 ·have T:decide ((70:Int)<(c.bQ.length:Int))=true:=dt (by omega);have g:=h_ (a.out u false (by unfold iR;simp[y]) b.out);clear j l y;go_wp2_with (simp only[t.out])
  exact g.out
 have T:decide ((70:Int)<(c.bQ.length:Int))=false:=dy (by omega);by_cases o:m<c.iH.length
 ·have U:decide (m<c.iH.length)=true:=dt o;have g:=h_ (a.out u false (by unfold iR;simp[o]) b.out);clear j l y o;go_wp2_with (simp only[t.out])
  exact g.out
 have U:decide (m<c.iH.length)=false:=dy o;by_cases B:100<c.off.length
 ·have V:decide ((100:Int)<(c.off.length:Int))=true:=dt (by omega);have g:=h_ (a.out u false (by unfold iR;simp[B]) b.out);clear j l y o B;go_wp2_with (simp only[t.out])
  exact g.out
 have V:decide ((100:Int)<(c.off.length:Int))=false:=dy (by omega);have HS:Hid (iR m c=c.iH.all λq=>decide (q.1.start.length<=20)):=h_ (by unfold iR;simp[j,l,y,o,B]);have J:c.iH.length<=1000:=by omega
 clear j l y o B;go_wp2_with (simp only[t.out])
 go_loopw [5] (λv wr=> ∃(k:Nat),v= .int .i64 (k:Int)/\k<=c.iH.length/\wr=u/\Hid ((c.iH.take k).all (λq=>decide (q.1.start.length<=20))=true)) (λv _=>(c.iH.length:Int).toNat- (RowKit.intOf v).toNat)
 case atStart=>exact⟨0,rfl,gu _,rfl,h_ (by simp)⟩
 case round=>
  obtain⟨k,rfl,O,rfl,G⟩:=hrel;rcases pC O with i|i
  ·have F:(k:Int)<(c.iH.length:Int):=by omega
   obtain⟨Y,oa,E⟩:=cG H.out (by intro e;rw[e]at i;simp at i);obtain⟨x,A⟩:∃x,c.iH[k]? =some x:=⟨_,eH i⟩
   have r:=H.out;rw[E]at r M;have Z:=dq r A 4 (.slice x.2.1 x.1.start.length x.2.2) rfl;clear r;by_cases C:x.1.start.length<=20
   ·have X:decide ((20:Int)<(x.1.start.length:Int))=false:=dy (by omega);have K:=h_ (lI A G.out (dt C));clear C A E;go_wp2_with fail
    go_roundw
    case rel=>exact⟨k+1,rfl,i,(by first|rfl|trivial),K⟩
    case measure=>simp[RowKit.intOf];omega
   ·have X:decide ((20:Int)<(x.1.start.length:Int))=true:=dt (by omega);have g:=h_ (a.out wr false (by rw[HS.out];exact il A (dy C)) b.out);clear C A E;go_wp2_with fail;exact g.out
  ·have F: ¬(k:Int)<(c.iH.length:Int):=by omega
   have g:=h_ (a.out wr true (by have h:=G.out;rw[np (by omega)]at h;rw[HS.out];exact h) b.out);go_wp2_with fail;exact g.out
open Go.Apl
structure xE where
 kind:Int
 x:ei
 l:Rl
 e:aV
 after:Int
 writes:Int
 bytes:Int
theorem IU(cs:List Value)(h:cs.length=25):(Tryz.prog.info? 38).map (·.size)=some cs.length:=by rw[h];kernel_rfl
open Go.Jn Go.Dk Go.Ho Go.Maps Go.WideMaps Go.Rf
def od(S n:Nat)(x:Nat)(w:World):Prop:=∃bs bm,aI w x bs bm (.slice none 0 0) (DD.new n) n/\∀k,Fp x bs bm (.slice none 0 0) k->S<=k
theorem od.grow{S n x:Nat}{w w':World}(h:od S n x w)(f:Below w.heap.size w w'):od S n x w':=by obtain⟨a,bm,b,c⟩:=h;exact⟨a,bm,b.below f,c⟩
theorem l5(S n:Nat)(w:World)(h:4<=n)(i:n<=4000)(m:S<=w.heap.size):Calls Tryz.prog 19 #[.int .i64 n] w λe w'=> ∃b,e= .returned (.pointer (some ⟨b,0,none⟩))/\od S n b w'/\Below w.heap.size w w':=by
 refine(Mc n w (by omega) i).mono ?_;rintro e w' ⟨b,a,bm,c,f,g,h,j,l⟩;refine⟨b,c,⟨a,bm,f, ?_⟩,g⟩;rintro k (rfl|rfl|rfl|e)
 ·omega
 ·omega
 ·omega
 ·cases e
def DY(we:World)(S n:Nat)(c:cZ)(own secret:Int)(bF:List Int)(b:Nat)(x:Nat)(w:World):Prop:=
 ∃p:Pl,p.o.hb=x/\p.b=b/\HC we w n p (yR c own secret bF n)/\∀k,p.F k->S<=k
theorem DY.grow{we:World}{S n:Nat}{c:cZ}{own secret:Int}{bF:List Int}{b x:Nat}{w w':World}(h:DY we S n c own secret bF b x w)(j:Below w.heap.size w w'):DY we S n c own secret bF b x w':=by obtain⟨p,a,f,g,i⟩:=h;exact⟨p,a,f,g.grow j,i⟩
theorem AG{n:Nat}(a:4<=n):dR n (DD.new n)=(0,some ((0,0,0),0,[])):=th rfl a (qm a).1
theorem mH{we w:World}{S b n:Nat}{c:cZ}{own secret:Int}{m:Option Addr}{pc:Nat}{bF:List Int}(t:4<=n)(z:cB we)(u:gK we)(A:Below we.heap.size we w)(a:we.heap.size<=S)(y:S<=w.heap.size)(C:od S n b w)
  (B:dV w c) (hz:lk c) (E:SL w 1 Cs.encI m bF) (g:bF.length<=4611686018427387903):
  Calls Tryz.prog 20 #[.agg (cD c).toArray, .int .i64 own, .int .i64 secret, .slice m bF.length pc, .pointer (some ⟨b,0,none⟩)] w λe w'=>Below w.heap.size w w'/\
   ((oO c own secret bF=false/\e= .returned (.tuple #[.pointer none, .int .i64 1]))\/(oO c own secret bF=true/\∃x,e= .returned (.tuple #[.pointer (some ⟨x,0,none⟩), .int .i64 0])/\DY we S n c own secret bF b x w')):=by
 obtain⟨I,bm,r,l⟩:=C;refine(uY (es:= []) z u A r (λk f=>fO a (l k f)) (AG t) rfl B hz E g (λe D=>by cases D) List.nodup_nil (gu _)).mono ?_;rintro e w' ⟨q,⟨i,j⟩|⟨i,p,j,J,K,M,F,G,H⟩⟩
 ·exact⟨q, .inl ⟨i,j⟩⟩
 ·exact⟨q, .inr ⟨i,p.o.hb,G,p,rfl,j,H,λk f=>(F k f).elim (λh=>l k h) (λh=>fO y h)⟩⟩
def KU(r:Nat->Nat->World->Prop)(x:Nat)(w:World):Prop:=∃b,r b x w
end Go.Proofs.YtkmbmfengcdmoaaGreatDoor
