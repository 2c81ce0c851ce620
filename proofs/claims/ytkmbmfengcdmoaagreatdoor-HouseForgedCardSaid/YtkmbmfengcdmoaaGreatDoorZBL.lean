/- Law 47's example of a contract. No condition. -/
import Derived.Test.YtkmbmfengcdmoaaGreatDoorZBK
import Derived.Test.YtkmbmfengcdmoaaGreatDoorZBJ
import Derived.Test.YtkmbmfengcdmoaaGreatDoorZAO
import Derived.Test.YtkmbmfengcdmoaaGreatDoorZBB
set_option linter.all false
set_option maxRecDepth 100000
namespace Go.Proofs.YtkmbmfengcdmoaaGreatDoor
open Go.RowKit Go.ay Go.Jn Go.Dk Go.Ho Go.Apl Go.Sg

theorem zm:∀ {l:List (List UInt8)},(∀b∈l,b.length<=2000)->dG l<=2004*l.length
 | [],_=>aL _
 |b::l,h=>by
  have h1:=h b (by simp);have h2:=zm (l:=l) λx hx=>h x (by simp[hx])
  show 4+b.length+dG l<=2004*(l.length+1);omega
theorem GH.room{n m:Nat}{s:HS}(h:GH n s m):dG s.js.bW<=2004*s.aw.length:=by
 have:=zm (l:=s.js.bW) λb hb=>by
  rw[h.bW]at hb;obtain⟨p,hp,rfl⟩:=nS.1 hb;rw[jP];exact(dB (h.gen p hp)).2.1
 rw[h.bW,rm]at this;rw[h.bW];exact this
theorem GH.take{n m:Nat}{s:HS}(h:GH n s m)(hn:4<=n)(hm:m<900000){e:aV}(ho:e.Ok)(hp:e.prev.size<=1000000000)(hb:e.body.size<=1000000000):
  (∃c,s.take n e=(s,c)/\c≠0/\c≠17/\c≠21/\(gB s.aj s.pubs e (aP e)=true->c=19/\32*((n-2) / 2)<dG s.js.bW+4+(aP e).size))\/(s.take n e=(s,17)/\dj s.aj e=true/\nM e (s.pubs.getD e.house.toNat 0)=false)\/
   (s.take n e=(s,0)/\(aP e,e)∈s.aw)\/((s.take n e).2=0/\dA n s m e (s.take n e).1)\/((s.take n e).2=21/\DH n s m e (s.take n e).1):=by
 unfold HS.take;rw[if_neg (by rw[h.run];decide)];by_cases h1:dj s.aj e=false
 ·rw[if_pos h1];exact .inl ⟨1,rfl,by decide,by decide,by decide,λhg=>by rw[(dB hg).1]at h1;cases h1⟩
 rw[if_neg h1];have h1':dj s.aj e=true:=by simpa using h1
 by_cases h2:2000<(aP e).size
 ·rw[if_pos h2];exact .inl ⟨3,rfl,by decide,by decide,by decide,λhg=>by have:=(dB hg).2.1;omega⟩
 rw[if_neg h2];by_cases h3:(Mk.get s.aw (aP e)).isSome=true
 ·rw[if_pos h3];refine .inr (.inr (.inl ⟨rfl, ?_⟩));cases hg:Mk.get s.aw (aP e)with
  |none=>rw[hg]at h3;cases h3
  |some x=>
   have hm:=Mk.get_mem hg
   have:=kQ (h.en.mem hm);rw[<-this]at hm;exact hm
 rw[if_neg h3];have hne:=A9 (by simpa using h3);by_cases h4:gB s.aj s.pubs e (aP e)=false
 ·rw[if_pos h4];refine .inr (.inl ⟨rfl,h1', ?_⟩);unfold gB at h4;rw[h1',dt (by omega)]at h4;simpa using h4
 rw[if_neg h4];have h4':gB s.aj s.pubs e (aP e)=true:=by simpa using h4
 rcases h.store hn hm hne h4' ho hp hb with⟨q,q2⟩|⟨q1,q2⟩|⟨q1,q2⟩
 ·exact .inl ⟨19,q,by decide,by decide,by decide,λ_=>⟨rfl,q2⟩⟩
 ·exact .inr (.inr (.inr (.inl ⟨q1,q2⟩)))
 ·exact .inr (.inr (.inr (.inr ⟨q1,q2⟩)))
theorem vf(l:List aV)(e:aV)(house:Int):gD l e house≠21:=by
 unfold gD
 repeat' split
 all_goals decide
theorem Ee(l:List aV)(k:Nat)(e:aV)(house pub:Int):iD l k e house pub≠21:=by
 unfold iD;by_cases h:gD (l.take k) e house=0
 ·rw[if_pos h];split
  ·split
   ·show((0:Int)≠21);decide
   ·show((17:Int)≠21);decide
  ·show((17:Int)≠21);decide
 ·rw[if_neg h];exact vf (l.take k) e house
theorem sg(l:List aV)(house pub:Int):∀n k,(gi l house pub n k).1≠21
 |0,_=>by show((0:Int)≠21);decide
 |n+1,k=>by
  rw[gi];split
  ·show((0:Int)≠21);decide
  ·rename_i e he;by_cases h0:iD l k e house pub=0
   ·rw[if_pos h0];exact sg l house pub n (k+1)
   ·rw[if_neg h0];dsimp only;exact Ee l k e house pub
theorem Ea(l:List aV)(house secret day:Int)(body:ByteArray):eI l house secret day body≠21:=by
 unfold eI;split
 ·split
  ·exact vf _ _ _
  ·unfold iA;by_cases hk:gS house (cQ secret)
   ·rw[if_pos hk];exact sg l house (cQ secret) l.length 0
   ·rw[if_neg hk];show((1:Int)≠21);decide
 ·decide
theorem GH.add{n m:Nat}{s:HS}(h:GH n s m)(hn:4<=n)(hm:m<900000){l:List aV}(hl:Own s s.me l)(hk:s.pubs.getD s.me.toNat 0=cQ s.secret){day:Int}{body:ByteArray}(hd0: -9223372036854775808<=day)(hd1:day<=9223372036854775807)(hb:body.size<=1000000000):
  (∃c,s.add n day body=(s,aM,c)/\c≠0/\c≠21/\(eI l s.me s.secret day body≠0->c=eI l s.me s.secret day body)/\(eI l s.me s.secret day body=0->(aP (dn l s.me s.secret day body)).size<=2000->c=19/\32*((n-2) / 2)<dG s.js.bW+4+(aP (dn l s.me s.secret day body)).size))\/
   ((s.add n day body).2=(dn l s.me s.secret day body,0)/\eI l s.me s.secret day body=0/\dA n s m (dn l s.me s.secret day body) (s.add n day body).1/\Own (s.add n day body).1 s.me (l++ [dn l s.me s.secret day body]))\/
   ((s.add n day body).2=(aM,21)/\eI l s.me s.secret day body=0/\DH n s m (dn l s.me s.secret day body) (s.add n day body).1):=by
 have hC:=hl.ou h.en;have hnx:s.next day body=dn l s.me s.secret day body:=by unfold HS.next;rw[hC]
 have h0:=h.inv.KH;have h1:=h.inv.me;have h2:=h.inv.KI;unfold HS.add;rw[hC,hnx];by_cases ha:eI l s.me s.secret day body≠0
 ·rw[if_pos ha];exact .inl ⟨_,rfl,ha,Ea _ _ _ _ _,λ_=>rfl,λe=>absurd e ha⟩
 rw[if_neg ha];have ha':eI l s.me s.secret day body=0:=by simpa using ha
 obtain⟨e,ee⟩:=x_ (dn l s.me s.secret day body)
 have hll:l.length<=1000000:=by have:=h.en.e.jX;have e1:=hl.perm.length_eq;have e2:=gE s.aw s.me;rw[rm]at e1;omega
 obtain⟨ok1,ok2,ok3⟩:=ky l s.me s.secret day body hll (by omega) (by omega) hd0 hd1 hb;obtain⟨hsec,_,hmi⟩:=Cj ha';obtain⟨hlim,harg,_⟩:=vg hmi;have hch:=mA ha';have hsg:=zE (l:=l) (house:=s.me) (day:=day) (body:=body) hsec;rw[<-ee]at ok1 ok2 ok3 hch hsg⊢;have e1:e.house=s.me:=by rw[ee];rfl
 have e2:e.seq=(l.length:Int):=by rw[ee];rfl
 have e3:e.day=day:=by rw[ee];rfl
 by_cases hz:2000<(aP e).size
 ·rw[if_pos hz];exact .inl ⟨_,rfl,by decide,by decide,λq=>absurd ha' q,λ_ q=>by omega⟩
 rw[if_neg hz];have hne:∀p∈s.aw,p.1≠aP e:=λp hp q=>by
  have e4:=h.en.e.eq p hp;have e5:=kQ (e4.symm.trans q);have hmem:aP e∈j6 s.aw s.me:=by unfold j6;refine nS.2 ⟨p,PY.2 ⟨hp, ?_⟩,q⟩;rw[e5,e1];simp
  obtain⟨x,hx,hxe⟩:=nS.1 (hl.perm.mem_iff.1 hmem);have e6:=kQ hxe;subst e6;obtain⟨i,hi⟩:=NQ.1 hx;have e7:=(sj hl.ch i x hi).2.1;have e8:=(jS.1 hi).1;omega
 have hg:gB s.aj s.pubs e (aP e)=true:=by unfold gB dj;rw[e1,hk,hsg,e2,e3];unfold ql at hlim;unfold pP at harg;simp only[ua,uD]at hlim harg⊢;have hd2:0<=day/\day<=2000:=harg.2.2;exact⟨⟨h0,h1,by omega,hlim.1,hd2.1,hd2.2⟩,by omega,trivial⟩
 rcases h.store hn hm hne hg ok1 ok2 ok3 with⟨q,q2⟩|⟨q1,q2⟩|⟨q1,q2⟩
 ·rw[q];exact .inl ⟨19,rfl,by decide,by decide,λq=>absurd ha' q,λ_ _=>⟨rfl,q2⟩⟩
 ·rw[if_neg (by rw[q1];decide)];refine .inr (.inl ⟨rfl,ha',q2, ?_, ?_⟩)
  ·show(j6 (s.store n e (aP e)).1.aw s.me).Perm _;rw[q2.eq];show(j6 (s.aw++ [(aP e,e)]) s.me).Perm _;rw[oN,uE];show(j6 s.aw s.me++(if e.house==s.me then [aP e]else [])).Perm _;rw[e1,if_pos (by simp)];exact hl.perm.append_right _
  ·show(iA _ s.me ((s.store n e (aP e)).1.pubs.getD s.me.toNat 0)).1=0;rw[q2.eq];show(iA _ s.me (s.pubs.getD s.me.toNat 0)).1=0;rw[hk];exact hch
 ·rw[if_pos (by rw[q1];decide),q1];exact .inr (.inr ⟨rfl,ha',q2⟩)
theorem Own.other{s s':HS}{j:Int}{l:List aV}{e:aV}(h:Own s j l)(hs:s'= {s with js:=s'.js,aw:=s.aw++ [(aP e,e)]})(hj:e.house≠j):Own s' j l:=by
 refine⟨?_, ?_⟩
 ·rw[hs];show(j6 (s.aw++ [(aP e,e)]) j).Perm _;rw[oN];show(j6 s.aw j++(if e.house==j then [aP e]else [])).Perm _;rw[if_neg (by simpa using hj),DS];exact h.perm
 ·rw[hs];exact h.ch
theorem kY(aw:dv)(j:Int):(bJ aw j).length=aw.countP (λp=>p.2.house==j):=by unfold bJ;rw[rm,fe];unfold j6;rw[rm,List.countP_eq_length_filter]
theorem uG(aw:dv):∀k:Nat,(mV aw k).length=aw.countP (λp=>decide (0<=p.2.house/\p.2.house<(k:Int)))
 |0=>by
  have:aw.countP (λp=>decide (0<=p.2.house/\p.2.house<((0:Nat):Int)))=0:=Kx.2 λp _=>by simp<;>omega
  rw[this];rfl
 |k+1=>by
  rw[jT,fu,uG aw k,kY];induction aw with
  |nil=>rfl
  |cons p r ih=>
   simp only[List.countP_cons];by_cases h1:p.2.house=(k:Int)
   ·have t1:decide (0<=p.2.house/\p.2.house<(k:Int))=false:=dy (by omega);have t2:(p.2.house==(k:Int))=true:=by simpa using h1
    have t3:decide (0<=p.2.house/\p.2.house<((k+1:Nat):Int))=true:=dt (by omega);rw[t1,t2,t3];simp only[GA,B6,uf];omega
   ·have t2:(p.2.house==(k:Int))=false:=by simpa using h1
    have t3:decide (0<=p.2.house/\p.2.house<((k+1:Nat):Int))=decide (0<=p.2.house/\p.2.house<(k:Int)):=PC.2 (by omega);rw[t2,t3];simp only[GA,B6];omega
theorem GH.len{n m:Nat}{s:HS}(h:GH n s m):(ug s).length=s.aw.length:=by unfold ug;rw[uG,List.countP_eq_length];intro p hp;have h1:=Bj (dB (h.gen p hp)).1;have h2:=h.inv.KH;have h3:=h.inv.me;exact dt (by omega)
open Go.Cs Go.Cv
def yX(c:cZ)(own secret:Int)(pubs:List Int)(js:JS)(es:List aV):HS:=⟨c.aj,c.bQ.length,c.days,own,secret,pubs,js,true,eP es⟩
def OV(n:Nat):JS:=⟨DD.new n,(0,0,0),0,[],false⟩
def yR(c:cZ)(own secret:Int)(pubs:List Int)(n:Nat):HS:=yX c own secret pubs (OV n) []
theorem uT{es:List aV}(hok:∀e∈es,e.Ok/\e.prev.size<=1000000/\e.body.size<=1000000)(hnd:(es.map aP).Nodup)(hf:es.length<=1000000):EN (eP es):=by
 refine⟨⟨λp hp=> ?_,λp hp=> ?_,by unfold eP;rw[rm];exact hf⟩,by rw[yv];exact hnd⟩
 ·obtain⟨x,_,rfl⟩:=nS.1 hp;rfl
 ·obtain⟨x,hx,rfl⟩:=nS.1 hp;obtain⟨h1,h2,h3⟩:=hok x hx;exact⟨h1,by show x.prev.size<=_;omega,by show x.body.size<=_;omega⟩
theorem yZ{c:cZ}{own secret:Int}{pubs:List Int}{js:JS}{es:List aV}(h:oO c own secret pubs=true)(he:EN (eP es)):lv (yX c own secret pubs js es):=by obtain⟨h1,h2,h3,h4,_⟩:=tf h;exact⟨he.e,h2,h3,h4,sD h1⟩
theorem Jy{c:cZ}{own secret:Int}{pubs:List Int}{js:JS}{es:List aV}(h:oO c own secret pubs=true):(yX c own secret pubs js es).pubs.getD (yX c own secret pubs js es).me.toNat 0=cQ (yX c own secret pubs js es).secret:=(tf h).2.2.2.2.2.2.symm
theorem Fv{c:cZ}{own secret:Int}{pubs:List Int}(h:oO c own secret pubs=true){j:Int}(h0:0<=j)(h1:j<c.aj):gS j (pubs.getD j.toNat 0):=by
 obtain⟨e1,_,_,e4,e5,_⟩:=tf h;have h12:=sD e1;have hl:j.toNat<pubs.length:=by omega
 have hg:pubs.getD j.toNat 0=pubs[j.toNat]:=by rw[BX,eH hl];rfl
 have hk:=GJ.1 e5 pubs[j.toNat] (KM hl);unfold iW at hk;simp only[ua,uD]at hk;rw[hg];exact⟨h0,by omega,hk.1,by omega⟩
theorem Mq{s:HS}{j:Int}(hk:gS j (s.pubs.getD j.toNat 0))(he:j6 s.aw j= []):Own s j []:=by refine⟨by rw[he];exact P5 _, ?_⟩;unfold iA;rw[if_pos hk];rfl
theorem Ii:EN (eP []):=uT (es:= []) (λe he=>by cases he) List.nodup_nil (gu _)
theorem nu{x:ei}(h:x.Ok):(iT x).size<=136:=om h 6
theorem Ba{c:cZ}{own secret:Int}{pubs:List Int}{n:Nat}(h4:4<=n)(hn:n<=4000)(h:oO c own secret pubs=true):GH n (yR c own secret pubs n) 0:=
 ⟨rfl,mU.new h4 hn,rfl,Ii,λp hp=>(by cases hp),yZ h Ii,aL _⟩
theorem Dq{c:cZ}{own secret:Int}{pubs:List Int}{n:Nat}(h:oO c own secret pubs=true){j:Int}(h0:0<=j)(h1:j<c.aj):Own (yR c own secret pubs n) j []:=Mq (Fv h h0 h1) rfl
theorem oE{n:Nat}{s:HS}{x:ei}{l:List aV}(hr:s.run=true)(hl:Own s s.me l)(hn:EN s.aw):
  s.file n x=if dE s x=false then(s,aM,1)else if((cg s l).any λy=>y.ref==x.ref)=true then(s,aM,9)else s.add n x.cJ (iT x):=by
 unfold HS.file;rw[if_neg (by rw[hr];decide),if_neg (show ¬gR s=true by rw[hl.fork hn];decide)];unfold dP;rw[hl.ou hn]
theorem Pg{n:Nat}{s:HS}{x:Let}{l:List aV}(hr:s.run=true)(hl:Own s s.me l)(hn:EN s.aw):
  s.GG n x=if x.j8≠s.me then(s,aM,1)else if(tx x.patch.text).size=0 then(s,aM,3)else s.add n x.na ⟨(Ja x (tx x.patch.text)).toArray⟩:=by
 unfold HS.GG;rw[if_neg (by rw[hr];decide),if_neg (show ¬gR s=true by rw[hl.fork hn];decide)]
theorem Ez{n:Nat}{s:HS}{x:ei}(hr:s.run=false):s.file n x=(s,aM,22):=by unfold HS.file;rw[if_pos hr]
structure GP (s:HS) (l:List aV) (x:ei):Prop where
 v:dE s x=true
 new:((cg s l).any λy=>y.ref==x.ref)=false
theorem GH.file{n m:Nat}{s:HS}(h:GH n s m)(hn:4<=n)(hm:m<900000){l:List aV}(hl:Own s s.me l)(hk:s.pubs.getD s.me.toNat 0=cQ s.secret){x:ei}(hx:x.Ok):
  (∃c,s.file n x=(s,aM,c)/\c≠0/\c≠21)\/
   ((s.file n x).2=(dn l s.me s.secret x.cJ (iT x),0)/\eI l s.me s.secret x.cJ (iT x)=0/\GP s l x/\dA n s m (dn l s.me s.secret x.cJ (iT x)) (s.file n x).1/\Own (s.file n x).1 s.me (l++ [dn l s.me s.secret x.cJ (iT x)]))\/
   ((s.file n x).2=(aM,21)/\eI l s.me s.secret x.cJ (iT x)=0/\GP s l x/\DH n s m (dn l s.me s.secret x.cJ (iT x)) (s.file n x).1):=by
 rw[oE h.run hl h.en];by_cases h1:dE s x=false
 ·rw[if_pos h1];exact .inl ⟨1,rfl,by decide,by decide⟩
 rw[if_neg h1];by_cases h2:((cg s l).any λy=>y.ref==x.ref)=true
 ·rw[if_pos h2];exact .inl ⟨9,rfl,by decide,by decide⟩
 rw[if_neg h2];have hf:GP s l x:=⟨by simpa using h1,by simpa using h2⟩
 rcases h.add hn hm hl hk (day:=x.cJ) (body:=iT x) hx.f0 hx.f1 (by have:=nu hx;omega)with⟨c,q1,q2,q3,_⟩|⟨q1,q2,q3,q4⟩|⟨q1,q2,q3⟩
 ·exact .inl ⟨c,q1,q2,q3⟩
 ·exact .inr (.inl ⟨q1,q2,hf,q3,q4⟩)
 ·exact .inr (.inr ⟨q1,q2,hf,q3⟩)
theorem Ad{n:Nat}{s:JS}(hb:s.broken=false)(hoff:s.d.on=false)(hnum:s.v.1≠999999999){b:List UInt8}(hl:b.length<=2000)(hr:s.v.2.2+(4+b.length)<=32*((n-2) / 2)):s.append n b=({s with broken:=true},21):=by
 have hrd:∀k:Int,DD.read n s.d k=([],21):=λk=>by
  unfold DD.read;rw[if_neg (by rw[hoff];decide)]
 have hst:∀base off,b9 n base off (bR b) s.d=(s.d,21):=λbase off=>by
  unfold b9;have hne:bR b≠ []:=by
   intro e
   have:=kF hl;rw[e,qA]at this;omega
  rw[if_neg hne];have hk:cW off (bR b).length≠ []:=by
   intro e;have hlen:(cW off (bR b).length).length=0:=by rw[e];rfl
   unfold cW at hlen;rw[Qa]at hlen
   have:=kF hl;omega
  cases hks:cW off (bR b).length with
  |nil=>exact absurd hks hk
  |cons q r=>unfold cA;rw[hrd,if_neg (show ¬((21:Int)=0) by decide)]
 have e:cy n s.a s.v.1 s.v.2.1 s.v.2.2 (bR b) s.d=(s.d,21):=by unfold cy;rw[hst,if_neg (show ¬((21:Int)=0) by decide)]
 unfold JS.append;rw[if_neg (by rw[hb];decide),if_neg (by omega),if_neg (by omega),e,if_neg (show ¬((21:Int)=0) by decide)]
end Go.Proofs.YtkmbmfengcdmoaaGreatDoor
namespace Go.Proofs.YtkmbmfengcdmoaaGreatDoor
open Go.Sg Go.W32 Go.Cs Go.Ho

theorem kG(n:Nat)(h:n<=9):Lib.itoa (n:Int)= [48+UInt8.ofNat n]:=by
 have:∀n,n<=9-> [48+UInt8.ofNat n]= [UInt8.ofNat (48+n)]:=by decide
 rw[this n h];unfold Lib.itoa;rw[if_neg (by omega)];simp[Lib.decDigits_one (show n<10 by omega)]
theorem TJ:Lib.itoa 0= [48]:=kG 0 (by decide)
theorem Ua:Lib.itoa 3= [51]:=kG 3 (by decide)
theorem Ub:Lib.itoa 5= [53]:=kG 5 (by decide)
theorem Uc:Lib.itoa 7= [55]:=kG 7 (by decide)
theorem Ox:dec 1=⟨#[49]⟩:=(du 1 (by decide)).trans rfl
theorem SV:dec 2=⟨#[50]⟩:=(du 2 (by decide)).trans rfl
theorem Qv:dec 4=⟨#[52]⟩:=(du 4 (by decide)).trans rfl
theorem SX:dec 6=⟨#[54]⟩:=(du 6 (by decide)).trans rfl
theorem Nj:dec 64=⟨#[54,52]⟩:=by have h1:=bI 64 (by decide);have h2:=du 6 (by decide);simp only[Nat.reduceDiv,Nat.reduceMod]at h1;refine h1.trans ?_;rw[h2];decide+kernel
theorem Qw:dec 43=⟨#[52,51]⟩:=by have h1:=bI 43 (by decide);have h2:=du 4 (by decide);simp only[Nat.reduceDiv,Nat.reduceMod]at h1;refine h1.trans ?_;rw[h2];decide+kernel
theorem H8:dec 1972968998=⟨#[49,57,55,50,57,54,56,57,57,56]⟩:=by have h1:=bI 1972968998 (by decide);have h2:=bI 197296899 (by decide);have h3:=bI 19729689 (by decide);have h4:=bI 1972968 (by decide);have h5:=bI 197296 (by decide);have h6:=bI 19729 (by decide);have h7:=bI 1972 (by decide);have h8:=bI 197 (by decide);have h9:=bI 19 (by decide);have h10:=du 1 (by decide);simp only[Nat.reduceDiv,Nat.reduceMod]at h1 h2 h3 h4 h5 h6 h7 h8 h9;refine h1.trans ?_;rw[h2,h3,h4,h5,h6,h7,h8,h9,h10];decide+kernel
theorem Nl:dec 4976023=⟨#[52,57,55,54,48,50,51]⟩:=by have h1:=bI 4976023 (by decide);have h2:=bI 497602 (by decide);have h3:=bI 49760 (by decide);have h4:=bI 4976 (by decide);have h5:=bI 497 (by decide);have h6:=bI 49 (by decide);have h7:=du 4 (by decide);simp only[Nat.reduceDiv,Nat.reduceMod]at h1 h2 h3 h4 h5 h6;refine h1.trans ?_;rw[h2,h3,h4,h5,h6,h7];decide+kernel
theorem Nk:dec 103382979=⟨#[49,48,51,51,56,50,57,55,57]⟩:=by have h1:=bI 103382979 (by decide);have h2:=bI 10338297 (by decide);have h3:=bI 1033829 (by decide);have h4:=bI 103382 (by decide);have h5:=bI 10338 (by decide);have h6:=bI 1033 (by decide);have h7:=bI 103 (by decide);have h8:=bI 10 (by decide);have h9:=du 1 (by decide);simp only[Nat.reduceDiv,Nat.reduceMod]at h1 h2 h3 h4 h5 h6 h7 h8;refine h1.trans ?_;rw[h2,h3,h4,h5,h6,h7,h8,h9];decide+kernel
theorem Te:Lib.itoa 43= [52,51]:=congrArg (λb:ByteArray=>b.data.toList) Qw
def jk:ByteArray:=⟨#[102,97,99,116,32,49,32,48,32,50,32,51,32,52,32,48]⟩
def gL:ByteArray:=⟨#[108,101,116,116,101,114,32,51,32,55,32,53,32,48,32,52,51,32,112,97,116,99,104,32,48,32,48,32,48,32,48,32,48,32,48,32,48,32,48,32,48,32,48,32,48,32,48,32,48,32,48,32,48,32,48,32,48,32,48,32,48,32]⟩
def Kh:ByteArray:=⟨#[101,110,116,114,121,32,48,32,48,32,52,32,48,32,102,97,99,116,32,49,32,48,32,50,32,51,32,52,32,48]⟩
def Aq:ByteArray:=⟨#[54,54,51,56,99,54,100,54,48,100,51,102,52,50,97,51,52,100,57,101,55,52,97,54,49,99,56,50,49,99,99,53,98,53,101,55,48,48,52,52,52,49,49,100,52,57,55,55,100,99,51,56,54,55,98,52,102,57,56,102,50,55,54,97]⟩
def BM:ByteArray:=⟨#[101,110,116,114,121,32,48,32,49,32,53,32,54,52,32,54,54,51,56,99,54,100,54,48,100,51,102,52,50,97,51,52,100,57,101,55,52,97,54,49,99,56,50,49,99,99,53,98,53,101,55,48,48,52,52,52,49,49,100,52,57,55,55,100,99,51,56,54,55,98,52,102,57,56,102,50,55,54,97,108,101,116,116,101,114,32,51,32,55,32,53,32,48,32,52,51,32,112,97,116,99,104,32,48,32,48,32,48,32,48,32,48,32,48,32,48,32,48,32,48,32,48,32,48,32,48,32,48,32,48,32,48,32,48,32,48,32,48,32,48,32]⟩
def RO:ByteArray:=⟨#[101,110,116,114,121,32,48,32,49,32,54,32,54,52,32,54,54,51,56,99,54,100,54,48,100,51,102,52,50,97,51,52,100,57,101,55,52,97,54,49,99,56,50,49,99,99,53,98,53,101,55,48,48,52,52,52,49,49,100,52,57,55,55,100,99,51,56,54,55,98,52,102,57,56,102,50,55,54,97,108,101,116,116,101,114,32,51,32,55,32,53,32,48,32,52,51,32,112,97,116,99,104,32,48,32,48,32,48,32,48,32,48,32,48,32,48,32,48,32,48,32,48,32,48,32,48,32,48,32,48,32,48,32,48,32,48,32,48,32,48,32]⟩
def jA:ei:=⟨1,0,2,3,4,false⟩
def xB:ei:=⟨2,0,2,3,3,false⟩
def nR:ei:=⟨2,0,2,3,9,false⟩
def uk:Let:=⟨3,0,7,5,0,kv.zero,⟨#[]⟩⟩
def bF:aV:=dn [] 0 5 4 jk
def cU:aV:=dn [bF] 0 5 5 gL
def oy:aV:= {cU with day:=6}
theorem vQ:iT jA=jk:=by have:iT jA=(⟨#[102,97,99,116]⟩:ByteArray)++(⟨#[32]⟩++dec 1)++(⟨#[32]⟩++dec 0)++(⟨#[32]⟩++dec 2)++(⟨#[32]⟩++dec 3)++(⟨#[32]⟩++dec 4)++(⟨#[32]⟩++dec 0):=rfl;rw[this,Em,Ox,SV,Oy,Qv];decide+kernel
theorem tq:tx (kv.zero).text=⟨#[112,97,116,99,104,32,48,32,48,32,48,32,48,32,48,32,48,32,48,32,48,32,48,32,48,32,48,32,48,32,48,32,48,32,48,32,48,32,48,32,48,32,48]⟩:=by simp only[kv.text,kv.zero,kv.small,kv.jc,mT.jc,mT.front,mT.back,mT.zero,Eb,words,word,BZ,Se,xC,xK,DS,kq,qA];simp[TJ,word,dI,tx]
theorem Fk:(⟨(Ja uk (tx kv.zero.text)).toArray⟩:ByteArray)=gL:=by rw[tq];unfold Ja Dj qV uk;simp only[BZ,Se];rw[Ua,Uc,Ub,TJ,show((((⟨#[112,97,116,99,104,32,48,32,48,32,48,32,48,32,48,32,48,32,48,32,48,32,48,32,48,32,48,32,48,32,48,32,48,32,48,32,48,32,48,32,48,32,48]⟩:ByteArray).size:Nat):Int))=43 by decide,Te];decide+kernel
theorem BR(h q d:Int)(p b:ByteArray)(r s:Int):gb ⟨h,q,d,p,b,r,s⟩=⟨([101,110,116,114,121]++ [32]++(dec h).data.toList++ [32]++(dec q).data.toList++ [32]++(dec d).data.toList++ [32]++(dec (p.size:Int)).data.toList++ [32]++p.data.toList++b.data.toList).toArray⟩:=rfl
theorem Bb(r s:Int):gb ⟨0,0,4,⟨#[]⟩,jk,r,s⟩=Kh:=by rw[BR,show(((⟨#[]⟩:ByteArray).size:Nat):Int)=0 from rfl,Em,Qv];decide+kernel

theorem Nu:zD 5 Kh=1320142801:=by unfold zD Gj;rw[Ls];kernel_rfl
theorem ND:lD 5 Kh=1972968998:=by unfold lD;rw[Nu];exact(gZ 1320142801 (by decide)).trans (by decide+kernel)
theorem Qt:iC 1972968998 16807 Kh=1025456832:=by unfold iC GC;rw[H8,Ia];kernel_rfl
theorem RH:pF 5 Kh=4976023:=by unfold pF;rw[oU,ND,Nu,Qt];rfl
theorem Cx:bF=⟨0,0,4,⟨#[]⟩,jk,1972968998,4976023⟩:=by have:bF=⟨0,0,4,⟨#[]⟩,jk,lD 5 (gb ⟨0,0,4,⟨#[]⟩,jk,0,0⟩),pF 5 (gb ⟨0,0,4,⟨#[]⟩,jk,0,0⟩)⟩:=rfl;rw[this,Bb,ND,RH]
theorem Mj:Ib bF=Aq:=by rw[Cx];unfold Ib Po;rw[Bb,H8,Nl];decide+kernel
theorem Ko(r s:Int):gb ⟨0,1,5,Aq,gL,r,s⟩=BM:=by rw[BR,show((Aq.size:Nat):Int)=64 from rfl,Em,Ox,Ls,Nj];decide+kernel
theorem Oh(r s:Int):gb ⟨0,1,6,Aq,gL,r,s⟩=RO:=by rw[BR,show((Aq.size:Nat):Int)=64 from rfl,Em,Ox,SX,Nj];decide+kernel
theorem Nv:zD 5 BM=1171257954:=by unfold zD Gj;rw[Ls];kernel_rfl
theorem NF:lD 5 BM=103382979:=by unfold lD;rw[Nv];exact(gZ 1171257954 (by decide)).trans (by decide+kernel)
theorem Qu:iC 103382979 16807 BM=126443394:=by unfold iC GC;rw[Nk,Ia];kernel_rfl
theorem RI:pF 5 BM=1803474924:=by unfold pF;rw[oU,NF,Nv,Qu];rfl
theorem Qs:iC 103382979 16807 RO=1241118987:=by unfold iC GC;rw[Nk,Ia];kernel_rfl
theorem rH:cU=⟨0,1,5,Aq,gL,103382979,1803474924⟩:=by have:cU=⟨0,1,5,Ib bF,gL,lD 5 (gb ⟨0,1,5,Ib bF,gL,0,0⟩),pF 5 (gb ⟨0,1,5,Ib bF,gL,0,0⟩)⟩:=rfl;rw[this,Mj,Ko,NF,RI]
theorem Hl:nM oy 16807=false:=by unfold nM oy;rw[rH];show mu 16807 (gb ⟨0,1,6,Aq,gL,103382979,1803474924⟩) 103382979 1803474924=false;rw[Oh];unfold mu;rw[Qs];have e1:dS 7 1803474924=299166189:=(gZ 1803474924 (by decide)).trans (by decide+kernel);have e2:dS 16807 1241118987=120764418:=(TQ 1241118987 (by decide)).trans (by decide+kernel);rw[e1,e2];decide
theorem RC:cQ 2=49:=(rP (show fT 2 by decide)).trans ((gZ 2 (by decide)).trans (by decide+kernel))
theorem v7:eI [] 0 5 4 jk=0:=by unfold eI;rw[if_pos zx,oU];rfl
theorem Ck:eI [bF] 0 5 5 gL=0:=by unfold eI;rw[if_pos zx,if_pos (show(iA [bF] 0 (cQ 5)).1=0 from mA v7)];rfl
theorem K0(b:ByteArray)(h:b.size<=2000):eI [bF] 0 5 3 b=15:=by unfold eI;rw[if_pos zx,if_pos (show(iA [bF] 0 (cQ 5)).1=0 from mA v7)];unfold gD;rw[if_pos (show ql [bF].length (Fq [bF] 0 3 b)=true by unfold ql;simp[Fq];omega),if_pos (show pP [bF].length (Fq [bF] 0 3 b) 0=true from rfl)];rfl
theorem KZ{l:List aV}{day:Int}{body:ByteArray}(hc:(iA l 0 (cQ 5)).1=0)(hl:l.length<100)(hb:body.size<=2000)(hd:0<=day/\day<=2000)(ho:∀x,l.getLast? =some x->x.day<=day):eI l 0 5 day body=0:=by
 unfold eI;rw[if_pos zx,if_pos hc];unfold gD;have h1:ql l.length (Fq l 0 day body)=true:=by unfold ql;show(decide ((l.length:Int)<4000)&&decide ((body.size:Int)<=2000))=true;rw[dt (by omega),dt (by omega)];rfl
 have h2:pP l.length (Fq l 0 day body) 0=true:=by unfold pP;show(((0:Int)==0)&&(((l.length:Int)==(l.length:Int))&&(decide (0<=day)&&decide (day<=2000))))=true;rw[dt hd.1,dt hd.2];simp
 have h3:rA l (Fq l 0 day body)=true:=by
  unfold rA;cases hg:l.getLast? with
  |none=>rfl
  |some x=>exact dt (ho x hg)
 rw[if_pos h1,if_pos h2,if_pos h3]
theorem KY(b:ByteArray)(h:b.size<=2000):eI [bF,cU] 0 5 9 b=0:=by
 have hc:(iA ([bF]++ [dn [bF] 0 5 5 gL]) 0 (cQ 5)).1=0:=mA Ck;refine KZ hc (show 2<100 by decide) h (by decide) (λx hx=> ?_);have e: [bF,cU].getLast? =some cU:=rfl;rw[e]at hx;cases hx
 show(5:Int)<=9;decide
theorem oX:(aP bF).size=49:=by rw[Cx];unfold aP;rw[Bb,H8,Nl];decide+kernel
theorem MC(e:aV):(aP e).size=(dec e.r).size+1+(dec e.s).size+1+(gb e).size:=by unfold aP;rw[dU,dU,dU,dU];rfl
theorem Dw:(aP cU).size<=200:=by
 have hr:cU.r=103382979:=by rw[rH]
 have hs:cU.s=1803474924:=by rw[rH]
 have ht:gb cU=BM:=by rw[rH];exact Ko _ _
 have h1:=cR (103382979:Int) (by decide) (by decide);have h2:=cR (1803474924:Int) (by decide) (by decide);have h3:BM.size=141:=rfl;rw[MC,hr,hs,ht,h3];omega
end Go.Proofs.YtkmbmfengcdmoaaGreatDoor
namespace Go.Proofs.YtkmbmfengcdmoaaGreatDoor
open Go.RowKit Go.W32 Go.ay Go.Cs Go.Lib Go.Opn Go.Mg Go.Cv Go.Apl
def rJ(b1 b2:Nat):cZ:=⟨2,[0,1],[],[⟨1,0,0, -1, -1,0,1⟩],[],10,[],some ⟨b1,0,none⟩,2,none,0,some ⟨b2,0,none⟩,1,none,0,none,0⟩
theorem Iq(b1 b2:Nat):jo (rJ b1 b2).iU=0:=by have:(rJ b1 b2).iU=(rJ 0 0).iU:=rfl;rw[this];decide+kernel
theorem wv(b1 b2:Nat):lk (rJ b1 b2):=⟨by show 2<=9223372036854775807;decide,by show 0<=9223372036854775807;decide,by show 1<=9223372036854775807;decide,by show 0<=9223372036854775807;decide,by show 0<=9223372036854775807;decide,gu _,λk hk=>by cases hk⟩
set_option maxHeartbeats 1000000 in
theorem yw(W:World):Calls Tryz.prog 38 #[] W λe w'=> ∃b1 b2,e= .returned (.agg (cD (rJ b1 b2)).toArray)/\dV w' (rJ b1 b2)/\Below W.heap.size W w':=by
 obtain⟨R,eR⟩:=x_ (λe w'=> ∃b1 b2,e= .returned (.agg (cD (rJ b1 b2)).toArray)/\dV w' (rJ b1 b2)/\Below W.heap.size W w':Ending->World->Prop)
 rw[<-eR];have ER:=h_ eR;clear eR;go_enter Tryz.func38,Tryz.ntmps38;go_wp2_with fail;obtain⟨cs,ecs⟩:=x_ (cD (rJ (W.heap.size+1) (W.heap.size+1+1)):List Value)
 obtain⟨V,eV⟩:∃V,V=(((W.alloc (.cells #[.int .i64 2, .slice (some ⟨W.heap.size+1,0,none⟩) 2 2, .slice none 0 0, .slice (some ⟨W.heap.size+1+1,0,none⟩) 1 1, .slice none 0 0, .int .i64 10, .slice none 0 0] 27)).alloc (.cells #[.int .i64 0, .int .i64 1] 3)).alloc
  (.cells #[.int .i64 1, .int .i64 0, .int .i64 0, .int .i64 (-1), .int .i64 (-1), .int .i64 0, .int .i64 1] 155)):=⟨_,rfl⟩
 rw[<-eV];have b0:ay V W.heap.size cs 27:=by rw[eV,ecs];exact((ay.new W (cD (rJ (W.heap.size+1) (W.heap.size+1+1))) 27).alloc _).alloc _
 have b1:ay V (W.heap.size+1) [.int .i64 0, .int .i64 1] 3:=by rw[eV];exact(ay.made (l:= [.int .i64 0, .int .i64 1]) (by simp) rfl).alloc _
 have b2:ay V (W.heap.size+1+1) [.int .i64 1, .int .i64 0, .int .i64 0, .int .i64 (-1), .int .i64 (-1), .int .i64 0, .int .i64 1] 155:=by rw[eV];exact ay.made (l:= [.int .i64 1, .int .i64 0, .int .i64 0, .int .i64 (-1), .int .i64 (-1), .int .i64 0, .int .i64 1]) (by simp) rfl
 have hb:Below W.heap.size W V:=by rw[eV];exact(((Below.refl _ W).alloc (aL _) _).alloc (by simp) _).alloc (by simp;omega) _
 refine bodyPost_ret (v:= .agg cs.toArray) (Hk.results_cell_row (fn:=Tryz.f38) (p:=0) (ty:=27) rfl _ _ W.heap.size 27 cs.toArray (0,0) _ rfl b0 Tryz.underlying27 rfl (by rw[ecs];kernel_rfl)) rfl ?_;rw[ER.out];refine⟨W.heap.size+1,W.heap.size+1+1,by rw[ecs],⟨?_,SL.nil, ?_,SL.nil,SL.nil,λk hk=>by cases hk⟩,hb⟩
 ·exact mO (l:= [0,1]) b1
 ·exact cO (λ_=>rfl) b2 (λj u hj=>by simpa[rJ,ln]using hj)
end Go.Proofs.YtkmbmfengcdmoaaGreatDoor
