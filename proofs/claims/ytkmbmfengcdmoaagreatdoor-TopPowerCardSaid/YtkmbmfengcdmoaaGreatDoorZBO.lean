/- The head of the law TopPower, plain: a fact is filed, the power fails at the next one, and the house is opened again. No condition. -/
import Derived.Test.YtkmbmfengcdmoaaGreatDoorZBM
import Derived.Test.YtkmbmfengcdmoaaGreatDoorZBL
set_option linter.all false
namespace Go.Proofs.YtkmbmfengcdmoaaGreatDoor
open Go.RowKit Go.ay Go.Cs Go.Jn Go.Dk Go.Ho Go.Apl Go.Sg Go.Cv

theorem iP{es:List aV}{me pub:Int}(h:(iA es me pub).1=0){e:aV}(f:e∈es):∃i:Nat,es[i]? =some e/\e.house=me/\e.seq=(i:Int):=by obtain⟨i,a⟩:=NQ.1 f;obtain⟨b,d,_⟩:=sj h i e a;exact⟨i,a,b,d⟩
theorem ng{es:List aV}{me pub:Int}(h:(iA es me pub).1=0){x y:aV}(d:x∈es)(f:y∈es)(e:x.seq=y.seq):x=y:=by
 obtain⟨i,b,_,g⟩:=iP h d;obtain⟨j,a,_,k⟩:=iP h f
 have:i=j:=by omega
 subst this;rw[b]at a;exact PU a
theorem gL{es:List aV}{me pub:Int}(h:(iA es me pub).1=0):(es.map aP).Nodup:=by unfold List.Nodup;rw[List.pairwise_map,List.pairwise_iff_getElem];intro i j b e d q;have a:=(sj h i _ (eH b)).2.1;have f:=(sj h j _ (eH e)).2.1;rw[kQ q]at a;omega
theorem Ai{es:List aV}{me:Int}(h:∀e∈es,e.house=me):j6 (eP es) me=es.map aP:=by unfold j6 eP;rw[List.filter_eq_self.2 (λp b=>by obtain⟨e,a,rfl⟩:=nS.1 b;simpa using h e a),PS];rfl
theorem pB{aw:dv}(b:EN aw)(j:Int):(nO aw j).Nodup:=by
 have a:(j6 aw j).Nodup:=by unfold j6;exact List.Nodup.sublist (List.Sublist.map _ List.filter_sublist) b.nd
 exact(dY _ _).nodup_iff.2 a
theorem rM{aw:dv}(h:EN aw)(u:∀p∈aw,∀q∈aw,p.2.seq=q.2.seq->p.2=q.2)(j:Int): ¬vj (bJ aw j):=by
 rintro⟨q,x,y,d,f,i⟩;unfold bJ at d f;rw[mx]at d f;cases h1:(nO aw j)[q]? with
 |none=>rw[h1]at d;cases d
 |some a=>
 cases h2:(nO aw j)[q+1]? with
 |none=>rw[h2]at f;cases f
 |some b=>
  rw[h1]at d;rw[h2]at f;have d:fP aw a=x:=by simpa using d
  have f:fP aw b=y:=by simpa using f
  have mem:∀t,t∈nO aw j->(t,fP aw t)∈aw:=λt v=>by
   obtain⟨A,o,_⟩:=Mi ((dY (nL aw) (j6 aw j)).mem_iff.1 v)
   have:fP aw t=A:=by unfold fP;rw[Mk.get_some h.nd o];rfl
   rw[this];exact o
  have k:=mem a (ue h1);have l:=mem b (ue h2);rw[d]at k;rw[f]at l;have e:=u _ k _ l i.symm;have e:x=y:=e;have w:a=aP x:=h.mem k;have z:b=aP y:=h.mem l;have r:=(jS.1 h2)
  have g:=(jS.1 h1)
  have:=List.pairwise_iff_getElem.1 (pB h j) q (q+1) g.1 r.1 (by omega);rw[g.2,r.2,w,z,e]at this;exact this rfl
open Classical in
theorem ki{s:HS}(a:EN s.aw)(b:∀p∈s.aw,∀q∈s.aw,p.2.seq=q.2.seq->p.2=q.2):iK s= []:=by
 unfold iK fa;rw[List.filter_eq_nil_iff.2 (λj _=>by
  have:=rM a b (j:Int);unfold oy;intro q;exact this (Sc q))];rfl
structure cM (c:cZ) (me secret:Int) (bF:List Int) (n:Nat) (s:HS) (m:Nat) (es:List aV):Prop where
 eq:s=yX c me secret bF s.js es
 gh:GH n s m
 own:Own s me es
 arm:s.js.d.bH=false
 ok:∀e∈es,e.Ok/\e.prev.size<=1000000/\e.body.size<=1000000
section
variable {c:cZ} {me secret:Int} {bF:List Int} {n m:Nat} {s:HS} {es:List aV}
theorem cM.is(h:cM c me secret bF n s m es):s.aj=c.aj/\s.bQ=(c.bQ.length:Int)/\s.days=c.days/\s.me=me/\s.secret=secret/\s.bF=bF/\s.aw=eP es:=by have e:=h.eq;refine⟨?_, ?_, ?_, ?_, ?_, ?_, ?_⟩<;>rw[e]<;>rfl
theorem cM.new(f:4<=n)(h:n<=4000)(a:oO c me secret bF=true):cM c me secret bF n (yR c me secret bF n) 0 []:=by obtain⟨_,b,d,_⟩:=tf a;exact⟨rfl,Ba f h a,Dq a b d,rfl,λe g=>by cases g⟩
theorem cM.mk'{js:JS}(j:oO c me secret bF=true)(o:mU n js m)(l:js.d.bH=false)(r:js.bW=es.map λe=>(aP e).data.toList)(g:∀e∈es,e.Ok/\e.prev.size<=1000000/\e.body.size<=1000000)(f:∀e∈es,gB c.aj bF e (aP e)=true)(a:(iA es me (bF.getD me.toNat 0)).1=0)(q:es.length<=m)(hm:m<=1000000):
  cM c me secret bF n (yX c me secret bF js es) m es:=by
 have b:=uT g (gL a) (by omega);refine⟨rfl,⟨rfl,o, ?_,b,λp k=> ?_,yZ j b, ?_⟩,⟨?_,a⟩,l,g⟩
 ·show js.bW=(eP es).map _;rw[r];unfold eP;rw[PS];rfl
 ·have k:p∈eP es:=k;obtain⟨e,i,rfl⟩:=nS.1 k;exact f e i
 ·show(eP es).length<=m;unfold eP;rw[rm];exact q
 ·show(j6 (eP es) me).Perm _;rw[Ai (λe i=>by obtain⟨_,_,h,_⟩:=iP a i;exact h)]
theorem GH.bH(h:GH n s m){x y z:Int}(a: -9223372036854775808<=x)(b:x<=9223372036854775807)(f: -9223372036854775808<=y)(g:y<=9223372036854775807)(i: -9223372036854775808<=z)(k:z<=9223372036854775807):GH n {s with js:= {s.js with d:=s.js.d.arm x y z}} m:=
 ⟨h.run,h.j.arm a b f g i k,h.bW,h.en,h.gen,⟨h.inv.e,h.inv.KH,h.inv.me,h.inv.pn,h.inv.KI⟩,h.jX⟩
theorem cM.vZ(h:cM c me secret bF n s m es):∀e∈es,gB c.aj bF e (aP e)=true:=λe f=>by
 obtain⟨a,_,_,_,_,b,d⟩:=h.is
 have:=h.gh.gen (aP e,e) (by rw[d];exact nS.2 ⟨e,f,rfl⟩);rw[a,b]at this;exact this
theorem cM.chain(h:cM c me secret bF n s m es):(iA es me (bF.getD me.toNat 0)).1=0:=by have:=h.own.ch;rw[h.is.2.2.2.2.2.1]at this;exact this
theorem cM.len(h:cM c me secret bF n s m es):es.length<=m:=by
 have:=h.gh.jX;rw[h.is.2.2.2.2.2.2]at this;unfold eP at this
 rwa[rm]at this
theorem cM.bW(h:cM c me secret bF n s m es):s.js.bW=es.map λe=>(aP e).data.toList:=by rw[h.gh.bW,h.is.2.2.2.2.2.2];unfold eP;rw[PS];rfl
def oP(n m:Nat)(s1:HS)(me:Int)(es:List aV)(e:aV)(r:HS×aV×Int):Prop:=
 (∃c,r=(s1,aM,c)/\c≠0)\/(r.2=(e,0)/\dA n s1 m e r.1/\Own r.1 me (es++ [e]))\/(r.2=(aM,21)/\DH n s1 m e r.1)
def A5(c:cZ)(me secret:Int)(bF:List Int)(n m:Nat)(s2:HS)(x y:Int)(es':List aV):Prop:=
 ∃js',dR n (s2.js.d.fail x y).start=(0,some (js'.v,js'.a,js'.bW))/\js'.d=(s2.js.d.fail x y).start/\js'.broken=false/\cM c me secret bF n (yX c me secret bF js' es') (m+1) es'
theorem cM.after(b:oO c me secret bF=true)(h:cM c me secret bF n s m es)(M:4<=n)(hm:m<900000){x y z:Int}(O: -9223372036854775808<=x)(P:x<=9223372036854775807)(Q: -9223372036854775808<=y)(R:y<=9223372036854775807)(S: -9223372036854775808<=z)(T:z<=9223372036854775807)
  {day:Int} {body:ByteArray} (J: -9223372036854775808<=day) (K:day<=9223372036854775807) {r:HS×aV×Int} (Y:oP n m {s with js:= {s.js with d:=s.js.d.arm x y z}} me es (dn es me secret day body) r) (E:r.2.2=0\/r.2.2=21->eI es me secret day body=0) (u v:Int):
  ∃i,A5 c me secret bF n m r.1 u v i/\((i=es/\r.2.2≠0)\/(i=es++ [dn es me secret day body]))/\(r.2.2=0->r.2.1=dn es me secret day body):=by
 have h1:=h.gh.bH O P Q R S T;have X:=h.len;obtain⟨Z,i2,i3,i4,i5,U,i7⟩:=h.is;have bi:=(tf b).2.1;have ci:=(tf b).2.2.1;have an:=sD (tf b).1;obtain⟨e,I⟩:=x_ (dn es me secret day body)
 have N:eI es me secret day body=0->∀a∈es++ [e],a.Ok/\a.prev.size<=1000000/\a.body.size<=1000000:=λD a E=>by
  have hb:body.size<=2000:=by
   obtain⟨f,_⟩:=vg (Cj D).2.2;unfold ql at f;simp only[ua,uD]at f
   have:((Fq es me day body).body.size:Int)<=2000:=f.2;have H:(Fq es me day body).body=body:=rfl;rw[H]at this;omega
  rcases zT.1 E with q|q
  ·exact h.ok a q
  ·rw[vU]at q;subst q;rw[I];refine⟨(ky es me secret day body (by omega) (by omega) (by omega) J K (by omega)).1, ?_,by show body.size<=_;omega⟩
   have:(fF es).size<=64:=gW es;have e2:(dn es me secret day body).prev=fF es:=rfl;rw[e2];omega
 have more:∀ {js':JS},eI es me secret day body=0->mU n js' (m+1)->js'.d.bH=false->js'.bW=(es++ [e]).map (λe=>(aP e).data.toList)->gB c.aj bF e (aP e)=true->(iA (es++ [e]) me (bF.getD me.toNat 0)).1=0->cM c me secret bF n (yX c me secret bF js' (es++ [e])) (m+1) (es++ [e]):=λD L l p hg o=>
  cM.mk' b L l p (N D) (λa E=>by
   rcases zT.1 E with q|q
   ·exact h.vZ a q
   ·rw[vU]at q;subst q;exact hg) o (by rw[fu,DT];omega) (by omega)
 have same:∀ {js':JS},mU n js' (m+1)->js'.d.bH=false->js'.bW=es.map (λe=>(aP e).data.toList)->cM c me secret bF n (yX c me secret bF js' es) (m+1) es:=λL l p=>
  cM.mk' b L l p h.ok h.vZ h.chain (by omega) (by omega)
 rw[<-I]at Y⊢;rcases Y with⟨k,rfl,W⟩|⟨t,g,q3⟩|⟨t,g⟩
 ·obtain⟨w,A,B⟩:=h1.j.back M u v;exact⟨es,⟨⟨((s.js.d.arm x y z).fail u v).start,s.js.v,s.js.a,s.js.bW,false⟩,w,rfl,rfl,same (A.more (Nat.le_succ m)) B h.bW⟩, .inl ⟨rfl,W⟩,λe=>absurd e W⟩
 ·obtain⟨w,A,B⟩:=g.gh.j.back M u v;refine⟨es++ [e],⟨⟨(r.1.js.d.fail u v).start,r.1.js.v,r.1.js.a,r.1.js.bW,false⟩,w,rfl,rfl,more (E (.inl (by rw[t]))) A B ?_ ?_ ?_⟩, .inr rfl,λ_=>by rw[t]⟩
  ·show r.1.js.bW=_
   have:=g.gh.bW;rw[this,g.bF.2.2.2.2.2.2];show(s.aw++_).map _=_;rw[i7];unfold eP;rw[uE,PS,uE];rfl
  ·have:=g.gen;have this:gB s.aj s.bF e (aP e)=true:=this;rw[Z,U]at this;exact this
  ·have:=q3.ch;rw[g.bF.1]at this;have this:(iA (es++ [e]) me (s.bF.getD me.toNat 0)).1=0:=this;rw[U]at this;exact this
 ·have D:=E (.inr (by rw[t]));have F:gB c.aj bF e (aP e)=true:=by have:=g.gen;have this:gB s.aj s.bF e (aP e)=true:=this;rw[Z,U]at this;exact this
  have o:(iA (es++ [e]) me (bF.getD me.toNat 0)).1=0:=by have:=mA D;rw[I, <-(tf b).2.2.2.2.2.2];exact this
  obtain⟨v',V,G,w,A,B,C⟩:=g.dead.again M u v;have H:({s with js:= {s.js with d:=s.js.d.arm x y z}}:HS).aw=eP es:=i7;rw[H]at C;rcases C with C|C
  ·refine⟨es,⟨⟨_,v',V,G,false⟩,w,rfl,rfl,same A B ?_⟩, .inl ⟨rfl,by rw[t];decide⟩,λe=>by rw[t]at e;cases e⟩;show G=_;rw[C];unfold eP;rw[PS];rfl
  ·refine⟨es++ [e],⟨⟨_,v',V,G,false⟩,w,rfl,rfl,more D A B ?_ F o⟩, .inr rfl,λe=>by rw[t]at e;cases e⟩;show G=_;rw[C];unfold eP;rw[uE,PS,uE];rfl
theorem cM.yN(r:oO c me secret bF=true)(h:cM c me secret bF n s m es)(J:4<=n)(hm:m<900000){x y z:Int}(t: -9223372036854775808<=x)(u:x<=9223372036854775807)(w: -9223372036854775808<=y)(A:y<=9223372036854775807)(B: -9223372036854775808<=z)(C:z<=9223372036854775807){f:ei}(i:f.Ok):
  oP n m {s with js:= {s.js with d:=s.js.d.arm x y z}} me es (dn es me secret f.cJ (iT f)) (HS.file n {s with js:= {s.js with d:=s.js.d.arm x y z}} f)/\
   ((HS.file n {s with js:= {s.js with d:=s.js.d.arm x y z}} f).2.2=0\/(HS.file n {s with js:= {s.js with d:=s.js.d.arm x y z}} f).2.2=21->eI es me secret f.cJ (iT f)=0)/\
   ((HS.file n {s with js:= {s.js with d:=s.js.d.arm x y z}} f).2.2=0->dE s f=true/\((cg s es).any λy=>y.ref==f.ref)=false):=by
 have E:=h.gh.bH t u w A B C;obtain⟨M,N,O,K,L,P,Q⟩:=h.is;have H:s.bF.getD s.me.toNat 0=cQ s.secret:=by rw[h.eq];exact Jy r
 obtain⟨b,g⟩:=x_ (({s with js:= {s.js with d:=s.js.d.arm x y z}}:HS))
 have o:b.me=me:=by rw[g];exact K
 have D:b.secret=secret:=by rw[g];exact L
 have I:Own b b.me es:=by rw[o,g];exact⟨h.own.perm,h.own.ch⟩
 have p:b.bF.getD b.me.toNat 0=cQ b.secret:=by rw[g];exact H
 have G:∀f,GP b es f->dE s f=true/\((cg s es).any λy=>y.ref==f.ref)=false:=λf i=>by
  have:=i.v;have:=i.new;rw[g]at*;exact⟨i.v,i.new⟩
 rw[<-g]at E⊢;rcases E.file J hm I p i with⟨k,e,a,l⟩|⟨e,a,l,j,F⟩|⟨e,a,l,j⟩
 ·rw[e];exact⟨.inl ⟨k,rfl,a⟩,λq=>(q.elim a l).elim,λq=>absurd q a⟩
 ·rw[o,D]at e a j F;exact⟨.inr (.inl ⟨e,j,F⟩),λ_=>a,λ_=>G f l⟩
 ·rw[o,D]at a j;exact⟨.inr (.inr ⟨e,j⟩),λ_=>a,λq=>by rw[e]at q;cases q⟩
theorem cM.AO(t:oO c me secret bF=true)(h:cM c me secret bF n s m es)(J:4<=n)(hm:m<900000){x y z:Int}(u: -9223372036854775808<=x)(v:x<=9223372036854775807)(w: -9223372036854775808<=y)(A:y<=9223372036854775807)(B: -9223372036854775808<=z)(C:z<=9223372036854775807){f:Let}(o: -9223372036854775808<=f.na)(p:f.na<=9223372036854775807){body:ByteArray}(G:body=⟨(Ja f (tx f.patch.text)).toArray⟩)(l:body.size<=1000000000):
  oP n m {s with js:= {s.js with d:=s.js.d.arm x y z}} me es (dn es me secret f.na body) (HS.GG n {s with js:= {s.js with d:=s.js.d.arm x y z}} f)/\
   ((HS.GG n {s with js:= {s.js with d:=s.js.d.arm x y z}} f).2.2=0\/(HS.GG n {s with js:= {s.js with d:=s.js.d.arm x y z}} f).2.2=21->eI es me secret f.na body=0):=by
 have E:=h.gh.bH u v w A B C;obtain⟨N,O,P,K,L,Q,R⟩:=h.is;have H:s.bF.getD s.me.toNat 0=cQ s.secret:=by rw[h.eq];exact Jy t
 obtain⟨b,g⟩:=x_ (({s with js:= {s.js with d:=s.js.d.arm x y z}}:HS))
 have j:b.me=me:=by rw[g];exact K
 have D:b.secret=secret:=by rw[g];exact L
 have I:Own b b.me es:=by rw[j,g];exact⟨h.own.perm,h.own.ch⟩
 have r:b.bF.getD b.me.toNat 0=cQ b.secret:=by rw[g];exact H
 rw[<-g]at E⊢;rcases E.GG J hm I r o p G l with⟨k,e,a,M⟩|⟨e,a,i,F⟩|⟨e,a,i⟩
 ·rw[e];exact⟨.inl ⟨k,rfl,a⟩,λq=>(q.elim a M).elim⟩
 ·rw[j,D]at e a i F;exact⟨.inr (.inl ⟨e,i,F⟩),λ_=>a⟩
 ·rw[j,D]at a i;exact⟨.inr (.inr ⟨e,i⟩),λ_=>a⟩
end
theorem xM{s s':HS}(a:s.bQ=s'.bQ)(b:s.days=s'.days):kx s=kx s':=by
 funext F e;have hv:∀x,dE s x=dE s' x:=λx=>by unfold dE;rw[a,b]
 unfold kx;simp only[hv]
theorem qL{s s':HS}(a:s.bQ=s'.bQ)(b:s.days=s'.days)(C:List aV):cg s C=cg s' C:=by unfold cg;rw[xM a b]
theorem yc{s:HS}{F:List ei}{e:aV}{x:ei}(h:x∈F):x∈kx s F e:=by
 unfold kx;split
 ·exact h
 ·split
  ·exact List.mem_append_left _ h
  ·exact h
theorem qa{s:HS}{C:List aV}{e:aV}{x:ei}(f:x.Ok)(hv:dE s x=true)(d:((cg s C).any λy=>y.ref==x.ref)=false)(a:e.body=iT x)(b:e.day=x.cJ):x∈cg s (C++ [e]):=by rw[im,xP (qX f a.symm) (by rw[hv,d,b];simp)];simp
structure Bs (s:HS) (F:List ei):Prop where
 v:∀x∈F,dE s x=true
 nd:(F.map (·.ref)).Nodup
theorem Bs.add{s:HS}{F:List ei}(h:Bs s F)(e:aV):Bs s (kx s F e):=by
 unfold kx;split
 ·exact h
 ·rename_i x l;split
  ·rename_i i;simp only[ua,Bool.not_eq_true']at i;obtain⟨j,_,f⟩:=i;refine⟨λy d=> ?_, ?_⟩
   ·rcases zT.1 d with q|q
    ·exact h.v y q
    ·rw[vU]at q;subst q;exact j
   ·rw[uE,List.nodup_append];refine⟨h.nd,by simp,λa k b g e=> ?_⟩;obtain⟨y,d,rfl⟩:=nS.1 k;simp only[xJ,NP,vU]at g;subst g;rw[List.any_eq_true.2 ⟨y,d,by simpa using e⟩]at f;cases f
  ·exact h
theorem nR{s:HS}:∀(C:List aV) (F:List ei),Bs s F->Bs s (C.foldl (kx s) F)
 | [],_,h=>h
 |e::C,F,h=>nR C (kx s F e) (h.add e)
theorem qU(s:HS)(C:List aV):Bs s (cg s C):=nR C [] ⟨λx a=>by(cases a),List.nodup_nil⟩
theorem oX{es:List aV}{me:Int}(h:∀e∈es,e.house=me){j:Int}(d:j≠me):bJ (eP es) j= []:=by
 have a:(bJ (eP es) j).length=0:=by
  rw[kY];exact Kx.2 λp f=>by
   obtain⟨e,b,rfl⟩:=nS.1 f;simp only[beq_iff_eq];rw[h e b];exact λe=>d e.symm
 exact Ky.1 a
section
variable {c:cZ} {me secret:Int} {bF:List Int} {n m:Nat} {s:HS} {es:List aV}
theorem cM.house(h:cM c me secret bF n s m es):∀e∈es,e.house=me:=λe a=>by obtain⟨_,_,h,_⟩:=iP h.chain a;exact h
theorem cM.all(a:oO c me secret bF=true)(h:cM c me secret bF n s m es):ug s=es:=by
 obtain⟨f,_,_,_,_,_,b⟩:=h.is;obtain⟨_,g,i,_⟩:=tf a;have d:bJ (eP es) me=es:=by have:=h.own.sorted h.gh.en;rwa[b]at this
 have key:∀k:Nat,mV (eP es) k=if me<(k:Int)then es else []:=λk=>by
  induction k with
  |zero=>rw[if_neg (by omega)];rfl
  |succ k ih=>
   rw[jT,ih];by_cases e:(k:Int)=me
   ·rw[e,d,if_neg (by omega),if_pos (by omega)];rfl
   ·rw[oX h.house e,DS];by_cases q:me<(k:Int)
    ·rw[if_pos q,if_pos (by omega)]
    ·rw[if_neg q,if_neg (by omega)]
 unfold ug;rw[f,b,key,if_pos (by omega)]
theorem cM.yW(h:cM c me secret bF n s m es):iK s= []:=by
 have g:=h.is.2.2.2.2.2.2;refine ki h.gh.en λp a q b e=> ?_
 rw[g]at a b;obtain⟨x,d,rfl⟩:=nS.1 a;obtain⟨y,f,rfl⟩:=nS.1 b;exact ng h.chain d f e
theorem cM.facts(h:cM c me secret bF n s m es):dP s me=cg s es:=by unfold dP;rw[h.own.ou h.gh.en]
theorem cM.room(h:cM c me secret bF n s m es):dG (es.map λe=>(aP e).data.toList)<=32*((n-2) / 2):=by have a:=h.gh.j.len.1;have b:=(fE h.gh.j.found.mY).2;rw[h.bW]at a;omega
theorem wg(a b:List (List UInt8)):dG (a++b)=dG a+dG b:=by
 induction a with
 |nil=>simp[dG]
 |cons x r ih=>show 4+x.length+dG (r++b)=4+x.length+dG r+dG b;omega
theorem wk{a b:List (List UInt8)}(h:a.Sublist b):dG a<=dG b:=by
 induction h with
 |slnil=>exact aL _
 |cons x _ ih=>show _<=4+x.length+_;omega
 |cons_cons x _ ih=>show 4+x.length+_<=4+x.length+_;omega
structure xB (c:cZ) (bF:List Int) (t:HS) (k:Nat) (sub es:List aV):Prop where
 gh:GH 300 t k
 aw:t.aw=eP sub
 sub:sub.Sublist (es.take k)
 bF:t.bF=bF
 par:t.aj=c.aj
 arm:t.js.d.bH=false
theorem xB.new(a:oO c me secret bF=true):xB c bF (yR c me secret bF 300) 0 [] es:=
 ⟨Ba (by decide) (by decide) a,rfl,List.nil_sublist _,rfl,rfl,rfl⟩
theorem GH.more{n m a:Nat}{s:HS}(h:GH n s m)(hm:m<=a):GH n s a:=⟨h.run,h.j.more hm,h.bW,h.en,h.gen,h.inv,fO h.jX hm⟩
theorem xB.skip{t:HS}{k:Nat}{a:List aV}(h:xB c bF t k a es):xB c bF t (k+1) a es:=
 ⟨h.gh.more (by omega),h.aw,h.sub.trans (List.take_sublist_take_left (by omega)),h.bF,h.par,h.arm⟩
theorem xB.take{t:HS}{k:Nat}{a:List aV}{e:aV}(f:cM c me secret bF 300 s m es)(v:k<900000)(h:xB c bF t k a es)(j:es[k]? =some e):
  ∃r,t.take 300 e=(r,0)/\xB c bF r (k+1) (a++ [e]) es:=by
 have hm:=ue j;obtain⟨z,F,G⟩:=f.ok e hm;have b:(a++ [e]).Sublist (es.take (k+1)):=by rw[zX,j];exact h.sub.append (List.Sublist.refl _)
 have d:(aP e,e)∉t.aw:=λq=>by
  rw[h.aw]at q;obtain⟨x,y,q⟩:=nS.1 q;have q:x=e:=congrArg Prod.snd q;subst q;obtain⟨i,g⟩:=NQ.1 (h.sub.subset y);rw[qC]at g;split at g
  ·have p:=(sj f.chain i _ g).2.1;have E:=(sj f.chain k _ j).2.1;omega
  ·cases g
 have l:=f.room;have w:dG t.js.bW+4+(aP e).size<=32*((300-2) / 2):=by
  have p:t.js.bW=a.map λe=>(aP e).data.toList:=by rw[h.gh.bW,h.aw];unfold eP;rw[PS];rfl
  have u:dG ((a++ [e]).map λe=>(aP e).data.toList)<=dG (es.map λe=>(aP e).data.toList):=wk ((b.trans (List.take_sublist _ _)).map _);rw[uE,List.map_singleton,wg,Ga,jP]at u;rw[p];omega
 obtain⟨D,o⟩:=h.gh.zM (by decide) v z (by omega) (by omega) h.arm d (by rw[h.par,h.bF];exact f.vZ e hm) w;obtain⟨A,_,_,B,_,_,C⟩:=o.bF;exact⟨_,mK D,o.gh,by rw[C,h.aw];unfold eP;rw[uE];rfl,b,by rw[A,h.bF],by rw[B,h.par],by rw[o.arm];exact h.arm⟩
theorem xB.yW{t:HS}{k:Nat}{a:List aV}(f:cM c me secret bF n s m es)(h:xB c bF t k a es):iK t= []:=by
 refine ki h.gh.en λp b q d e=> ?_
 rw[h.aw]at b d;obtain⟨x,g,rfl⟩:=nS.1 b;obtain⟨y,i,rfl⟩:=nS.1 d;exact ng f.chain ((List.take_sublist _ _).subset (h.sub.subset g)) ((List.take_sublist _ _).subset (h.sub.subset i)) e
end
end Go.Proofs.YtkmbmfengcdmoaaGreatDoor
namespace Go.Jn
open Go Go.Dk
theorem wC{d:DD}(a:d.on=true)(b:d.dh=true):d.sync.2≠0:=by unfold DD.sync;rw[if_pos a,if_pos b];show(21:Int)≠0;decide
theorem kG{n:Nat}{d:DD}{s:Int}{t:List UInt8}(a:d.on=true)(b:d.dh=true):(DD.write n d s t).2≠0:=by
 unfold DD.write;rw[if_pos a];split
 ·first
   |(show(21:Int)≠0;decide)
   |(rw[if_pos b];show(21:Int)≠0;decide)
 ·show(1:Int)≠0;decide
theorem o8{n base off:Nat}{text:List UInt8}{d:DD}(a:d.on=true)(b:d.dh=true)(e:List Nat):(cA n base off text e d).2≠0:=by
 cases e with
 |nil=>exact wC a b
 |cons k r=>
  unfold cA;split
  ·rw[if_neg (kG a b)];exact kG a b
  ·assumption
theorem qG{n base off:Nat}{text:List UInt8}{d:DD}(a:d.on=true)(g:d.bH=true)(f:d.after=1)(i:text≠ []):(b9 n base off text d).2≠0:=by
 unfold b9;rw[if_neg i];have h:0<(cW off text.length).length:=by
  unfold cW;rw[Qa]
  have:0<text.length:=List.length_pos_iff.2 i;omega
 cases hk:cW off text.length with
 |nil=>rw[hk]at h;exact absurd h (by decide)
 |cons k r=>
  unfold cA;split
  ·split
   ·rename_i b;have l:d.dh=false:=by unfold DD.dh;rw[f];simp
    have e:∃s t,(DD.write n d ((base+k:Nat):Int) (patch (d.read n ((base+k:Nat):Int)).1 (32*k) off text)).1=(d.push s t).tick:=by
     unfold DD.write at b⊢;rw[if_pos a]at b⊢;split at b
     ·rename_i j;rw[if_pos j,if_neg (by rw[l];decide)];exact⟨_,_,rfl⟩
     ·exact absurd (show(1:Int)=0 from b) (by decide)
    obtain⟨s,t,e⟩:=e;rw[e];have o:(d.push s t).bH=true/\0<(d.push s t).after:=⟨g,by show 0<d.after;omega⟩
    refine o8 ?_ ?_ r
    ·rw[(lh _).1];exact a
    ·unfold DD.dh;rw[(lh _).2.2.2,show(d.push s t).bH=true from g];unfold DD.tick;rw[if_pos o];show(true&&decide (d.after-1<=0))=true;rw[f];decide
   ·assumption
  ·assumption
theorem pO{n m:Nat}{s:JS}{b:List UInt8}(N:4<=n)(h:mU n s m)(hm:m<999999999)(B:s.d.bH=true)(g:s.d.after=1)(D:b.length<=2000)(O:dG s.bW+4+b.length<=32*((n-2) / 2)):
  (s.append n b).2=21/\(s.append n b).1= {s with d:=(s.append n b).1.d,broken:=true}/\Nf n (s.append n b).1 (m+1) s.bW s.bW:=by
 have M:=h.len.1;have y:=h.num;have j:=h.brk;have o:=kF D;have p:bR b≠ []:=λe=>by rw[e,qA]at o;omega
 have x:=h.ok.len;have E:=h.ok.n2;obtain⟨F,G⟩:=fE h.found.mY;have e:s.append n b=if(cy n s.a s.v.1 s.v.2.1 s.v.2.2 (bR b) s.d).2=0 then
   ({d:=(cy n s.a s.v.1 s.v.2.1 s.v.2.2 (bR b) s.d).1,v:=(s.v.1+1,s.v.2.1,s.v.2.2+(bR b).length),a:=1-s.a,bW:=s.bW++ [b],broken:=false},0)
   else({s with d:=(cy n s.a s.v.1 s.v.2.1 s.v.2.2 (bR b) s.d).1,broken:=true},(cy n s.a s.v.1 s.v.2.1 s.v.2.2 (bR b) s.d).2):=by
  unfold JS.append;rw[if_neg (by rw[j];decide),if_neg (by omega),if_neg (by omega)]
 obtain⟨size,es⟩:=x_ ((n-2) / 2)
 obtain⟨c,f⟩:=x_ (s.v.2.1*size)
 have K:c<=size:=by
  have:s.v.2.1=0\/s.v.2.1=1:=by omega
  rcases this with q|q<;>rw[f,q]<;>simp
 have w:(b9 n (2+s.v.2.1*((n-2) / 2)) s.v.2.2 (bR b) s.d).2≠0:=qG h.on B g p;have l:cy n s.a s.v.1 s.v.2.1 s.v.2.2 (bR b) s.d=b9 n (2+s.v.2.1*((n-2) / 2)) s.v.2.2 (bR b) s.d:=by unfold cy;rw[if_neg w]
 obtain⟨I,⟨q,_⟩|⟨t,J,z,A,i⟩⟩:=zI (n:=n) (base:=2+s.v.2.1*((n-2) / 2)) (off:=s.v.2.2) (text:=bR b) h.ok h.on h.aF (by rw[<-es, <-f];omega)
 ·exact absurd q w
 rw[l,if_neg (by rw[t];decide)]at e;rw[e];rw[<-es, <-f]at i;have r:∀k,k<=1->sec (b9 n (2+s.v.2.1*((n-2) / 2)) s.v.2.2 (bR b) s.d).1.st k=sec s.d.st k:=λk L=>Ge λq g u=>by rw[<-es, <-f];exact i q (by omega)
 have H:half (b9 n (2+s.v.2.1*((n-2) / 2)) s.v.2.2 (bR b) s.d).1.st ((n-2) / 2) s.v.2.1 s.v.2.2=half s.d.st ((n-2) / 2) s.v.2.1 s.v.2.2:=AL λq g u=>by rw[<-es, <-f]at g u⊢;exact i q (by omega)
 have C:=wU h.found.mY;refine⟨t,rfl,I,z,A,rfl,_,_,_,h.found.bD (by rw[r 0 (by omega),r 1 (by omega)];exact h.found.mY) H,h.OH.bD (r s.a (by omega)),by omega, .inl rfl⟩
end Go.Jn
namespace Go.Proofs.YtkmbmfengcdmoaaGreatDoor
open Go.RowKit Go.ay Go.Cs Go.Jn Go.Dk Go.Ho Go.Apl Go.Sg Go.Cv
section
variable {c:cZ} {me secret:Int} {bF:List Int} {n m:Nat} {s:HS} {es:List aV}
theorem kn(es:List aV){me secret:Int}{x:ei}(a:x.Ok)(e:es.length<=1000000)(f:0<=me)(g:me<=12):(aP (dn es me secret x.cJ (iT x))).size<=338:=by have i:=nu a;have b:=j9 (ky es me secret x.cJ (iT x) e (by omega) (by omega) a.f0 a.f1 (by omega)).1;have h:(dn es me secret x.cJ (iT x)).prev.size<=64:=gW es;have d:(dn es me secret x.cJ (iT x)).body=iT x:=rfl;rw[d]at b;omega
theorem cM.key(a:oO c me secret bF=true)(h:cM c me secret bF n s m es):s.bF.getD s.me.toNat 0=cQ s.secret:=by rw[h.eq];exact Jy a
theorem cM.uG(a:oO c me secret bF=true)(h:cM c me secret bF n s m es)(q:4<=n)(hm:m<900000){f:ei}(e:f.Ok)(hv:dE s f=true)(t:((cg s es).any λy=>y.ref==f.ref)=false)(p:eI es me secret f.cJ (iT f)=0)(u:dG s.js.bW+342<=32*((n-2) / 2)):
  ∃s',s.file n f=(s',dn es me secret f.cJ (iT f),0)/\dA n s m (dn es me secret f.cJ (iT f)) s'/\Own s' me (es++ [dn es me secret f.cJ (iT f)]):=by
 obtain⟨v,w,x,b,g,z,A⟩:=h.is;have j:Own s s.me es:=by rw[b];exact h.own
 have k:=h.len;have o:=sD (tf a).1;have i:=(tf a).2.1;have r:=(tf a).2.2.1;have hz:=kn (secret:=secret) es e (by omega) i (by omega);have l:s.file n f=s.add n f.cJ (iT f):=by rw[oE h.gh.run j h.gh.en,if_neg (by rw[hv];decide),if_neg (by rw[t];decide)]
 have d:=h.gh.Ci q hm j (h.key a) (day:=f.cJ) (body:=iT f) e.f0 e.f1 (by have:=nu e;omega) h.arm (by rw[b,g];exact p) (by rw[b,g];omega) (by rw[b,g];omega);rw[b,g]at d;exact⟨_,by rw[l];exact mK d.1,d.2.1,d.2.2⟩
theorem cM.yD(k:oO c me secret bF=true)(h:cM c me secret bF n s m es)(R:4<=n)(hm:m<900000)(y z:Int)(G: -9223372036854775808<=y)(H:y<=9223372036854775807)(I: -9223372036854775808<=z)(J:z<=9223372036854775807){f:ei}(hf:f.Ok)(hv:dE s f=true)(hw:((cg s es).any λy=>y.ref==f.ref)=false)(Z:eI es me secret f.cJ (iT f)=0)(hr:dG s.js.bW+342<=32*((n-2) / 2)):
  ∃L g,HS.file n {s with js:= {s.js with d:=s.js.d.arm 1 y z}} f=(L,aM,21)/\dR n L.js.d.start=(0,some (g.v,g.a,g.bW))/\g.d=L.js.d.start/\g.broken=false/\cM c me secret bF n (yX c me secret bF g es) (m+1) es:=by
 obtain⟨i1,i2,i3,S,i5,i6,i7⟩:=h.is;have o:=h.gh.bH (x:=1) (y:=y) (z:=z) (by decide) (by decide) G H I J;obtain⟨s1,i⟩:=x_ (({s with js:= {s.js with d:=s.js.d.arm 1 y z}}:HS))
 have P:Own s1 s1.me es:=by rw[i];show Own _ s.me es;rw[S];exact⟨h.own.perm,h.own.ch⟩
 have Q:=h.len;have Y:=sD (tf k).1;have C:=(tf k).2.1;have an:=(tf k).2.2.1;have hz:=kn (secret:=secret) es hf (by omega) C (by omega);have U:s1.me=me:=by rw[i];exact S
 have j5:s1.secret=secret:=by rw[i];exact i5
 have E:dE s1 f=true:=by rw[i];exact hv
 have F:((cg s1 es).any λy=>y.ref==f.ref)=false:=by rw[i];exact hw
 rw[<-i]at o;have X:s1.file n f=s1.add n f.cJ (iT f):=by rw[oE o.run P o.en,if_neg (by rw[E];decide),if_neg (by rw[F];decide)]
 have q:s1.js.d.bH=true/\s1.js.d.after=1:=by rw[i];show(s.js.d.arm 1 y z).bH=true/\(s.js.d.arm 1 y z).after=1;unfold DD.arm;rw[if_pos h.gh.j.on];exact⟨rfl,rfl⟩
 have r:s1.js.bW=s.js.bW:=by rw[i]
 rw[<-i];obtain⟨e,N⟩:=x_ (dn es me secret f.cJ (iT f))
 rw[<-N]at hz;obtain⟨q1,q2,V⟩:=pO R o.j (by omega) q.1 q.2 (b:=(aP e).data.toList) (by rw[jP];omega) (by rw[r,jP];omega);obtain⟨T,M⟩:=x_ (({s1 with js:=(s1.js.append n (aP e).data.toList).1,run:=false}:HS))
 have eJ:T.js=(s1.js.append n (aP e).data.toList).1:=by rw[M]
 have D:s1.store n e (aP e)=(T,21):=by unfold HS.store;rw[q1,M];rfl
 have p:s1.add n f.cJ (iT f)=(T,aM,21):=by
  have O:=P.ou o.en;have B:s1.next f.cJ (iT f)=e:=by unfold HS.next;rw[O,U,j5,N]
  unfold HS.add;rw[O,B,U,j5,Z,if_neg (by decide),if_neg (by omega),D];rfl
 obtain⟨v',W,K,t,u,w,A⟩:=V.again R 0 0;have A:K=s1.js.bW:=A.elim id id;have l:((s1.js.append n (aP e).data.toList).1.d.fail 0 0)=(s1.js.append n (aP e).data.toList).1.d:=by unfold DD.fail;rw[if_neg (by rw[V.off];decide)]
 rw[l]at t u w;rw[<-eJ]at t u w;refine⟨T,⟨T.js.d.start,v',W,K,false⟩,by rw[X];exact p,t,rfl,rfl,cM.mk' k u w ?_ h.ok h.vZ h.chain (by omega) (by omega)⟩;show K=_;rw[A,r];exact h.bW
end
def Z8(k d:Int):ei:=⟨k,0,0,0,d,false⟩
def jk(b1 b2:Nat):cZ:=⟨2,[0,1],[],[⟨1,0,0, -1, -1,0,1⟩,⟨1,0,0, -1, -1,0,1⟩,⟨1,1,0, -1, -1,0,1⟩],[],9,[],some ⟨b1,0,none⟩,2,none,0,some ⟨b2,0,none⟩,3,none,0,none,0⟩
theorem Be(a b:Nat):jo (jk a b).iU=0:=by have:(jk a b).iU=(jk 0 0).iU:=rfl;rw[this];decide+kernel
theorem Ez(a b:Nat):oO (jk a b) 0 5 gq=true:=
 wR ⟨Be a b,by decide,by show(0:Int)<2;decide,rfl,by decide,by unfold lA;rw[if_pos zx],oU⟩
theorem BM(k d:Int)(b:1<=k/\k<=9)(a:0<=d/\d<=9):(Z8 k d).Ok:=
 ⟨by show _<=k;omega,by show k<=_;omega,by show _<=(0:Int);decide,by show(0:Int)<=_;decide,by show _<=(0:Int);decide,by show(0:Int)<=_;decide,by show _<=(0:Int);decide,by show(0:Int)<=_;decide,by show _<=d;omega,by show d<=_;omega⟩
theorem Z7(s:HS)(a:s.bQ=3)(b:s.days=9)(k d:Int)(f:1<=k/\k<=9)(e:0<=d/\d<=9):dE s (Z8 k d)=true:=by unfold dE Z8;rw[a,b];simp only[ua,uD];omega
theorem mj{l:List aV}{x:ei}(f:x.Ok)(a:(iA l 0 (cQ 5)).1=0)(d:l.length<100)(b:0<=x.cJ/\x.cJ<=2000)(e:∀y,l.getLast? =some y->y.day<=x.cJ):eI l 0 5 x.cJ (iT x)=0:=
 KZ a d (by have:=nu f;omega) b e
theorem Ck(j o:Nat):∃(x L z:HS) (js:JS) (b i:aV),
  (yR (jk j o) 0 5 gq 60).file 60 (Z8 1 3)=(x,b,0)/\GH 60 x 1/\
  HS.file 60 {x with js:= {x.js with d:=x.js.d.arm 1 0 3}} (Z8 2 4)=(L,aM,21)/\dR 60 L.js.d.start=(0,some (js.v,js.a,js.bW))/\js.d=L.js.d.start/\js.broken=false/\
  cM (jk j o) 0 5 gq 60 (yX (jk j o) 0 5 gq js [b]) 2 [b]/\
  (yX (jk j o) 0 5 gq js [b]).file 60 (Z8 3 5)=(z,i,0)/\GH 60 z 3/\z.aj=2/\(iA [b,i] 0 16807)=(0, -1)/\(dP z 0).length=2/\PG [b,i]:=by
 have r:=Ez j o;have w:cM (jk j o) 0 5 gq 60 (yR (jk j o) 0 5 gq 60) 0 []:=cM.new (by decide) (by decide) r;obtain⟨s0,G⟩:=x_ (yR (jk j o) 0 5 gq 60)
 rw[<-G]at w⊢;have C:=BM 1 3 (by decide) (by decide);have o2:=BM 2 4 (by decide) (by decide);have F:=BM 3 5 (by decide) (by decide);have t:∀ {s:HS} {n m:Nat} {l:List aV},cM (jk j o) 0 5 gq n s m l->s.bQ=3/\s.days=9:=λh=>⟨h.is.2.1,h.is.2.2.1⟩
 have O:(iA [] 0 (cQ 5)).1=0:=by have:=w.chain;rw[<-(tf r).2.2.2.2.2.2]at this;exact this
 have Z:eI [] 0 5 (Z8 1 3).cJ (iT (Z8 1 3))=0:=mj C O (by decide) (by decide) (λy S=>by cases S);obtain⟨x,f1,g,D⟩:=w.uG r (by decide) (by decide) C (Z7 _ (t w).1 (t w).2 1 3 (by decide) (by decide)) rfl Z (by rw[w.bW];decide);obtain⟨b,f⟩:=x_ (dn [] 0 5 (Z8 1 3).cJ (iT (Z8 1 3)))
 have J:b.day=3:=by rw[f];rfl
 have H:b.body=iT (Z8 1 3):=by rw[f];rfl
 have an:(aP b).size<=338:=by rw[f];exact kn (secret:=5) [] C (by decide) (by decide) (by decide)
 have P:(iA ([]++ [b]) 0 (cQ 5)).1=0:=by rw[f];exact mA Z
 have K:b.Ok/\b.prev.size<=64/\b.body.size<=136:=by have q:=nu C;refine⟨by rw[f];exact(ky [] 0 5 _ (iT (Z8 1 3)) (by decide) (by decide) (by decide) C.f0 C.f1 (by omega)).1,by rw[f];exact gW [],by rw[H];exact q⟩
 rw[<-f]at f1 g D;obtain⟨U,p2,p3,V,M,N,p7⟩:=g.bF;have q:cM (jk j o) 0 5 gq 60 x 1 [b]:=by
  refine⟨?_,g.gh,D,by rw[g.arm];exact w.arm,λe B=> ?_⟩
  ·have:=g.eq;rw[w.is.2.2.2.2.2.2]at this;rw[this,G];rfl
  ·rw[vU]at B;subst B;exact⟨K.1,by omega,by omega⟩
 clear g D U p2 p3 V M N p7;have W:∀ {s:HS},s.bQ=3->s.days=9->cg s [b]= [Z8 1 3]:=fun {s} q1 q2=>by
  show kx s [] b=_;rw[xP (qX C H.symm) (by rw[Z7 s q1 q2 1 3 (by decide) (by decide),J];decide)];rfl
 have X:∀ {s:HS} (k d:Int),k≠1->s.bQ=3->s.days=9->((cg s [b]).any λy=>y.ref==(Z8 k d).ref)=false:=fun {s} k d hk q1 q2=>by
  rw[W q1 q2];show(((1:Int)==k)||false)=false;simp;omega
 have a2:∀(k d:Int),(Z8 k d).Ok->3<=d->d<=9->eI [b] 0 5 (Z8 k d).cJ (iT (Z8 k d))=0:=λk d ho h3 h9=>mj ho P (by show 1<100;decide) (by show 0<=d/\d<=2000;omega) (λy S=>by
  have:y=b:=by simpa using S.symm
  rw[this,J];exact h3)
 have Y:∀ {s:HS} {m:Nat},cM (jk j o) 0 5 gq 60 s m [b]->dG s.js.bW+342<=32*((60-2) / 2):=λh=>by
  rw[h.bW];show 4+(aP b).data.toList.length+0+342<=_;rw[jP];omega
 obtain⟨L,js,f2,od,ed,eb,A⟩:=q.yD r (by decide) (by decide) 0 3 (by decide) (by decide) (by decide) (by decide) o2 (Z7 _ (t q).1 (t q).2 2 4 (by decide) (by decide)) (X 2 4 (by decide) (t q).1 (t q).2) (a2 2 4 o2 (by decide) (by decide)) (Y q);obtain⟨z,f3,u,E⟩:=A.uG r (by decide) (by decide) F (Z7 _ (t A).1 (t A).2 3 5 (by decide) (by decide)) (X 3 5 (by decide) (t A).1 (t A).2) (a2 3 5 F (by decide) (by decide)) (Y A);obtain⟨i,p⟩:=x_ (dn [b] 0 5 (Z8 3 5).cJ (iT (Z8 3 5)))
 have R:i.day=5:=by rw[p];rfl
 have I:i.body=iT (Z8 3 5):=by rw[p];rfl
 have T:i.Ok/\i.prev.size<=64/\i.body.size<=136:=by have q:=nu F;refine⟨by rw[p];exact(ky [b] 0 5 _ (iT (Z8 3 5)) (by show 1<=1000000;decide) (by decide) (by decide) F.f0 F.f1 (by omega)).1,by rw[p];exact gW [b],by rw[I];exact q⟩
 rw[<-p]at f3 u E;obtain⟨U,p2,p3,V,M,N,p7⟩:=u.bF;have Q:(iA ([b]++ [i]) 0 16807).1=0:=by have:=E.ch;rw[U]at this;exact this
 refine⟨x,L,z,js,b,i,f1,q.gh,f2,od,ed,eb,A,f3,u.gh,V,Lh Q, ?_, ?_⟩
 ·have e:bE z 0= [b]++ [i]:=E.ou u.gh.en;unfold dP;rw[e,im,W (by rw[M];rfl) (by rw[N];rfl),xP (qX F I.symm) (by rw[Z7 z (by rw[M];rfl) (by rw[N];rfl) 3 5 (by decide) (by decide),R];decide)];rfl
 ·intro e B;rcases lC.1 B with rfl|B
  ·exact⟨K.1,by omega,by omega⟩
  ·rw[vU]at B;subst B;exact⟨T.1,by omega,by omega⟩
end Go.Proofs.YtkmbmfengcdmoaaGreatDoor
