/- States of performance in memory; package system: validRun. Condition: none beyond the arguments. -/
import Derived.Test.YtekfoaenomgjgaaGreatDoorZ5
set_option linter.all false
set_option maxRecDepth 100000
namespace Go.Cv
open Go Go.Cs
structure Mar where
 status:Int
 left:Int
 got:Int
 bearer:Int
 paused:Bool
structure Sta where
 day:Int
 holders:List Int
 used:List Bool
 marks:List Mar
def Mar.idle:Mar:=⟨0,0,0, -1,false⟩
def Mar.same(a b:Mar):Bool:=(a.status==b.status)&&((a.left==b.left)&&((a.got==b.got)&&((a.bearer==b.bearer)&&(a.paused==b.paused))))
theorem Mar.same_iff(a b:Mar):a.same b=true↔a=b:=by
 cases a;cases b
 simp[Mar.same]
def stat(ms:List Mar)(i:Int):Int:=match ms[i.toNat]? with|some m=>m.status|none=>0
def cp(st is:Int):Bool:=if is==1 then st !=0 else if is==2 then st==3 else if is==3 then st==4 else if is==4 then st==5 else false
def startB(ms:List Mar)(k:Cls):Bool:=k.start.all fun x=>cp (stat ms x.1) x.2
def bK(ms:List Mar)(k:Cls)(m:Mar):Bool:=(m.status==0)&&(!k.waived&&startB ms k)
def fc(P:Int)(k:Cls)(m:Mar):Bool:=
 (!k.waived&&(decide (1<=m.left)&& !(m.paused&&(k.pause== -1))))&&(((m.got==0)||((k.kind==1)&&(decide (0<=m.got)&&decide (m.got<k.need))))&&(if k.kind==4 then m.bearer== -1 else decide (0<=m.bearer)&&decide (m.bearer<P)))
def fR(P:Int)(m:Mar):Bool:=(m.left==0)&&(decide (0<=m.got)&&(decide (m.got<=9)&&(decide (-1<=m.bearer)&&(decide (m.bearer<P)&& !m.paused))))
def aR(P:Int)(k:Cls)(m:Mar):Bool:=
 if m.status==0 then !k.waived&&m.same Mar.idle
 else if m.status==1 then decide (m.left<=k.after)&&fc P k m
 else if m.status==2 then(k.kind==1)&&(decide (m.left<=k.grace)&&fc P k m)
 else if(m.status==3)||((m.status==4)||(m.status==5))then fR P m
 else false
def usedB(acts:List AcT)(used:List Bool):Bool:=(List.range used.length).all fun a=>match used[a]?,acts[a]? with|some u,some t=> !(u&&(t.kind==1))|_,_=>true
def okB(c:Con)(s:Sta)(i:Nat):Bool:=match s.marks[i]?,c.cls[i]? with|some m,some k=>aR c.parties k m&& !bK s.marks k m|_,_=>true
def shapeB(c:Con)(s:Sta):Bool:=decide (0<=s.day)&&(decide (s.day<=c.days)&&(decide (s.holders.length=c.holders.length)&&(decide (s.used.length=c.acts.length)&&decide (s.marks.length=c.cls.length))))
def heldC(P:Int)(l:List Int):Bool:=l.all fun h=>decide (0<=h)&&decide (h<P)
def sysB(c:Con)(s:Sta):Bool:=
 (dx c==0)&&(shapeB c s&&(heldC c.parties s.holders&&(usedB c.acts s.used&&(List.range s.marks.length).all (okB c s))))
def Mar.runs(m:Mar):Bool:=(m.status==1)||(m.status==2)
def Mar.ended(m:Mar)(st:Int):Mar:=⟨st,0,m.got,m.bearer,false⟩
def Mar.voided(m:Mar):Mar:=if(m.status==0)||m.runs then m.ended 5 else m
def Mar.cont(o n:Cls)(m:Mar):Mar:=
 if(n.kind==1)&&decide (n.need<=m.got)then m.ended 3
 else if m.status==1 then⟨m.status,max 1 (m.left+n.after-o.after),m.got,m.bearer,m.paused&&(n.pause != -1)⟩
 else if n.grace==0 then⟨1,1,m.got,m.bearer,m.paused&&(n.pause != -1)⟩
 else⟨m.status,max 1 (m.left+n.grace-o.grace),m.got,m.bearer,m.paused&&(n.pause != -1)⟩
def roleH(hs:List Int)(r:Int):Int:=(hs[r.toNat]?).getD 0
def Mar.again(o n:Cls)(m:Mar)(hs:List Int):Mar:=⟨1,n.after,0,if n.kind==4 then -1 else if o.kind==4 then roleH hs n.role else m.bearer,false⟩
def clsAt(ks:List Cls)(x:Int):Cls:=(ks[x.toNat]?).getD Cls.zero
def chgM(ks:List Cls)(p:Pat)(hs:List Int)(x:Int)(m:Mar):Mar:=
 if p.kind==5 then(if m.status==1 then⟨m.status,max 1 (m.left+p.days- (clsAt ks x).after),m.got,m.bearer,m.paused⟩else m)
 else if p.kind==2 then(if p.new.waived then m.voided else if !m.runs then m else if p.new.kind==(clsAt ks x).kind then m.cont (clsAt ks x) p.new else m.again (clsAt ks x) p.new hs)
 else if p.kind==1 then(if p.new.waived then m.voided else m)
 else m.voided
def modL{α:Type}(f:Int->α->α)(l:List α)(x:Int):List α:=l.modify x.toNat (f x)
def du(n:Nat)(p:Pat):List Int:=if p.kind==1 then [(n:Int)]else p.cl
def migM(c:Con)(p:Pat)(s:Sta)(n:Nat):List Mar:=(du c.cls.length p).foldl (modL (chgM c.cls p s.holders)) (s.marks++List.replicate (n-s.marks.length) Mar.idle)
def dS(k:Cls)(hs:List Int):Mar:=⟨1,k.after,0,if k.kind==4 then -1 else roleH hs k.role,false⟩
structure Grew (ks:List Cls) (hs:List Int) (a b:List Mar):Prop where
 len:b.length=a.length
 at_:∀(i:Nat) m m' k,a[i]? =some m->b[i]? =some m'->ks[i]? =some k->m'=m\/(m.status=0/\k.waived=false/\m'=dS k hs)
theorem Grew.refl(ks:List Cls)(hs:List Int)(a:List Mar):Grew ks hs a a:=⟨rfl,fun _ m m' _ h1 h2 _=> .inl (by rw[h1]at h2;exact(Option.some.inj h2).symm)⟩
theorem Grew.set{ks:List Cls}{hs:List Int}{a b:List Mar}(h:Grew ks hs a b){i:Nat}{k:Cls}{m:Mar}(hk:ks[i]? =some k)(hm:b[i]? =some m)(h0:m.status=0)(hw:k.waived=false):Grew ks hs a (b.set i (dS k hs)):=by
 refine⟨by rw[List.length_set];exact h.len,fun j x y kj hx hy hkj=> ?_⟩
 rw[List.getElem?_set]at hy
 by_cases hij:i=j
 ·subst hij
  rw[if_pos rfl,if_pos (List.getElem?_eq_some_iff.1 hm).1]at hy
  rw[hk]at hkj
  cases hkj
  rcases h.at_ i x m k hx hm hk with rfl|⟨h1,h2,h3⟩
  ·exact .inr ⟨h0,hw,(Option.some.inj hy).symm⟩
  ·rw[h3]at h0;exact absurd h0 (by show ¬(1:Int)=0;decide)
 ·rw[if_neg hij]at hy
  exact h.at_ j x y kj hx hy hkj
theorem dM{days:Int}:∀ {l:List Int} {last:Int},cA days last l=true->∀y∈l,last<y/\y<days
 | [],_,_,_,h=>by cases h
 |x::r,last,h,y,hy=>by
  simp only[cA,Bool.and_eq_true,decide_eq_true_eq]at h
  rcases List.mem_cons.1 hy with rfl|hy
  ·exact h.1
  ·have:=dM h.2 y hy
   omega
theorem gB{α:Type}(f:Int->α->α){n:Int}:∀(l:List Int) (last:Int) (ms:List α),cA n last l=true-> -1<=last->∀i:Nat,(l.foldl (modL f) ms)[i]? =(ms[i]?).map fun a=>if(i:Int)∈l then f i a else a
 | [],_,ms,_,_,i=>by simp
 |x::r,last,ms,h,hl,i=>by
  simp only[cA,Bool.and_eq_true,decide_eq_true_eq]at h
  rw[List.foldl_cons,gB f r x _ h.2 (by omega) i]
  have hlow:=dM h.2
  unfold modL
  rw[List.getElem?_modify]
  by_cases hi:x.toNat=i
  ·have hx:x=(i:Int):=by omega
   subst hx
   have hni: ¬(i:Int)∈r:=fun hm=>by have:=(hlow _ hm).1;omega
   simp only[hni,if_false,hi,if_true,List.mem_cons,true_or]
   cases ms[i]? <;>rfl
  ·have hx: ¬(i:Int)=x:=by omega
   simp only[hi,if_false,List.mem_cons,hx,false_or]
   cases ms[i]? <;>rfl
theorem gC{α:Type}(f:Int->α->α):∀(l:List Int) (ms:List α),(l.foldl (modL f) ms).length=ms.length
 | [],_=>rfl
 |x::r,ms=>by rw[List.foldl_cons,gC f r];unfold modL;rw[List.length_modify]
end Go.Cv
namespace Go.Cv
open Go Go.Cs
structure OkK (H:Nat) (k:Cls):Prop where
 a1:1<=k.after
 a2:k.after<=400
 kd:k.kind=1\/k.kind=2\/k.kind=3\/k.kind=4
 n1:k.kind=1->1<=k.need/\k.need<=9/\0<=k.grace/\k.grace<=400
 n2:k.kind≠1->k.need=1/\k.grace=0
 r:k.kind≠4->0<=k.role/\k.role<(H:Int)
theorem okK_of{c:Con}{i:Nat}{k:Cls}(h:bq c i k=true):OkK c.holders.length k:=by
 unfold bq at h
 simp only[Bool.and_eq_true,decide_eq_true_eq]at h
 obtain⟨⟨_,_,h1,h2⟩,⟨h3,_⟩,_⟩:=h
 unfold kindV at h3
 by_cases k4:k.kind=4
 ·simp[k4]at h3
  exact⟨h1,h2, .inr (.inr (.inr k4)),fun e=>by omega,fun _=>⟨h3.2.1,h3.2.2.1⟩,fun e=>absurd k4 e⟩
 ·have q:(k.kind==4)=false:=by simpa using k4
  rw[q]at h3
  by_cases hm:(!fX c.holders.length k.role||natB c.acts k.act)=true
  ·rw[hm]at h3;simp at h3
  ·have hm':(!fX c.holders.length k.role||natB c.acts k.act)=false:=by simpa using hm
   rw[hm']at h3
   simp only[Bool.or_eq_false_iff,Bool.not_eq_false']at hm'
   have hr:=hm'.1
   unfold fX at hr
   simp only[Bool.and_eq_true,decide_eq_true_eq]at hr
   simp only[Bool.false_eq_true,if_false]at h3
   by_cases k1:k.kind=1
   ·simp[k1]at h3
    exact⟨h1,h2, .inl k1,fun _=>⟨h3.1,h3.2.1,h3.2.2.1,h3.2.2.2⟩,fun e=>absurd k1 e,fun _=>hr⟩
   ·by_cases k2:k.kind=2
    ·simp[k2]at h3
     exact⟨h1,h2, .inr (.inl k2),fun e=>absurd e k1,fun _=>h3,fun _=>hr⟩
    ·by_cases k3:k.kind=3
     ·simp[k3]at h3
      exact⟨h1,h2, .inr (.inr (.inl k3)),fun e=>absurd e k1,fun _=>⟨h3.1,h3.2.1⟩,fun _=>hr⟩
     ·simp[k1,k2,k3]at h3
theorem cW{P:Int}{k:Cls}{m:Mar}(h:aR P k m=true):
  (m=Mar.idle/\k.waived=false)\/(m.status=1/\m.left<=k.after/\fc P k m=true)\/(m.status=2/\k.kind=1/\m.left<=k.grace/\fc P k m=true)\/((m.status=3\/m.status=4\/m.status=5)/\fR P m=true):=by
 unfold aR at h
 by_cases h0:m.status=0
 ·simp only[h0,beq_self_eq_true,if_true,Bool.and_eq_true,Bool.not_eq_true',Mar.same_iff]at h
  exact .inl ⟨h.2,h.1⟩
 ·by_cases h1:m.status=1
  ·simp[h1]at h
   exact .inr (.inl ⟨h1,h⟩)
  ·by_cases h2:m.status=2
   ·simp[h2]at h
    exact .inr (.inr (.inl ⟨h2,h⟩))
   ·simp[h0,h1,h2]at h
    exact .inr (.inr (.inr h))
theorem dm{P:Int}{k:Cls}{m:Mar}(hs:m.status=3\/m.status=4\/m.status=5)(h:fR P m=true):aR P k m=true:=by
 unfold aR
 rcases hs with hs|hs|hs<;>simp[hs,h]
theorem d9{P:Int}{k:Cls}{m:Mar}(hs:m.status=1)(hl:m.left<=k.after)(h:fc P k m=true):aR P k m=true:=by
 unfold aR
 simp[hs,h,hl]
theorem mark_late{P:Int}{k:Cls}{m:Mar}(hs:m.status=2)(hk:k.kind=1)(hl:m.left<=k.grace)(h:fc P k m=true):aR P k m=true:=by
 unfold aR
 simp[hs,h,hl,hk]
structure RunP (P:Int) (k:Cls) (m:Mar):Prop where
 w:k.waived=false
 l:1<=m.left
 p:m.paused=true->k.pause≠ -1
 g:m.got=0\/(k.kind=1/\0<=m.got/\m.got<k.need)
 b:(k.kind=4/\m.bearer= -1)\/(k.kind≠4/\0<=m.bearer/\m.bearer<P)
theorem run_iff{P:Int}{k:Cls}{m:Mar}:fc P k m=true↔RunP P k m:=by
 constructor
 ·intro h
  unfold fc at h
  simp only[Bool.and_eq_true,Bool.not_eq_true',decide_eq_true_eq,Bool.or_eq_true,beq_iff_eq,Bool.and_eq_false_iff,beq_eq_false_iff_ne]at h
  obtain⟨⟨h1,h2,h3⟩,h4,h5⟩:=h
  refine⟨h1,h2,fun hp=> ?_,h4, ?_⟩
  ·rcases h3 with h3|h3
   ·rw[hp]at h3;cases h3
   ·exact h3
  ·by_cases h6:k.kind=4
   ·rw[if_pos h6]at h5;exact .inl ⟨h6,by simpa using h5⟩
   ·rw[if_neg h6]at h5;simp only[Bool.and_eq_true,decide_eq_true_eq]at h5;exact .inr ⟨h6,h5⟩
 ·rintro⟨h1,h2,h3,h4,h5⟩
  unfold fc
  simp only[Bool.and_eq_true,Bool.not_eq_true',decide_eq_true_eq,Bool.or_eq_true,beq_iff_eq,Bool.and_eq_false_iff,beq_eq_false_iff_ne]
  refine⟨⟨h1,h2, ?_⟩,h4, ?_⟩
  ·cases hp:m.paused with
   |false=>exact .inl rfl
   |true=>exact .inr (h3 hp)
  ·rcases h5 with⟨h6,h7⟩|⟨h6,h7⟩
   ·rw[if_pos h6];simpa using h7
   ·rw[if_neg h6];simpa using h7
theorem RunP.got{P:Int}{H:Nat}{k:Cls}{m:Mar}(h:RunP P k m)(hk:OkK H k):0<=m.got/\m.got<=8:=by
 rcases h.g with h1|⟨h1,h2,h3⟩
 ·omega
 ·have:=hk.n1 h1;omega
theorem RunP.bear{P:Int}{k:Cls}{m:Mar}(h:RunP P k m)(hP:1<=P): -1<=m.bearer/\m.bearer<P:=by
 rcases h.b with⟨_,h1⟩|⟨_,h1,h2⟩<;>omega
theorem end_of{P:Int}{m:Mar}(h1:m.left=0)(h2:0<=m.got)(h3:m.got<=9)(h4: -1<=m.bearer)(h5:m.bearer<P)(h6:m.paused=false):fR P m=true:=by
 unfold fR
 simp[h1,h2,h3,h4,h5,h6]
theorem Mar.runs_iff{m:Mar}:m.runs=true↔m.status=1\/m.status=2:=by
 unfold Mar.runs;simp
structure Kept (m m':Mar):Prop where
 d:m.status=3->m'=m
 f:m'.status=4->m.status=4
theorem Kept.same(m:Mar):Kept m m:=⟨fun _=>rfl,id⟩
theorem Kept.run{m m':Mar}(h:m.status≠3)(h':m'.status≠4):Kept m m':=⟨fun e=>absurd e h,fun e=>absurd e h'⟩
theorem void_ok{P:Int}{H:Nat}{k k':Cls}{m:Mar}(hP:1<=P)(hk:OkK H k)(h:aR P k m=true):aR P k' m.voided=true/\Kept m m.voided:=by
 unfold Mar.voided
 rcases cW h with⟨rfl,_⟩|⟨h1,_,h3⟩|⟨h1,_,_,h3⟩|⟨h1,h2⟩
 ·refine⟨dm (.inr (.inr rfl)) (end_of rfl (by decide) (by decide) (by decide) (by show(-1:Int)<P;omega) rfl),Kept.run (by decide) (by decide)⟩
 ·have hr:=run_iff.1 h3
  rw[if_pos (by simp[Mar.runs,h1])]
  exact⟨dm (.inr (.inr rfl)) (end_of rfl (hr.got hk).1 (by have:=(hr.got hk).2;show m.got<=9;omega) (hr.bear hP).1 (hr.bear hP).2 rfl),Kept.run (by omega) (by show(5:Int)≠4;decide)⟩
 ·have hr:=run_iff.1 h3
  rw[if_pos (by simp[Mar.runs,h1])]
  exact⟨dm (.inr (.inr rfl)) (end_of rfl (hr.got hk).1 (by have:=(hr.got hk).2;show m.got<=9;omega) (hr.bear hP).1 (hr.bear hP).2 rfl),Kept.run (by omega) (by show(5:Int)≠4;decide)⟩
 ·rw[if_neg (by simp[Mar.runs];omega)]
  exact⟨dm h1 h2,Kept.same m⟩
theorem span_ok{P:Int}{k:Cls}{m:Mar}{d:Int}(hd:1<=d)(h:aR P k m=true):
  aR P (Cls.span d k) (if m.status==1 then⟨m.status,max 1 (m.left+d-k.after),m.got,m.bearer,m.paused⟩else m)=true/\Kept m (if m.status==1 then⟨m.status,max 1 (m.left+d-k.after),m.got,m.bearer,m.paused⟩else m):=by
 rcases cW h with⟨rfl,h2⟩|⟨h1,h2,h3⟩|⟨h1,h2,h3,h4⟩|⟨h1,h2⟩
 ·exact⟨h,Kept.same _⟩
 ·rw[if_pos (by simp[h1])]
  have hr:=run_iff.1 h3
  refine⟨d9 h1 ?_ (run_iff.2 ⟨hr.w, ?_,hr.p,hr.g,hr.b⟩),Kept.run (by omega) (by show m.status≠4;omega)⟩
  ·show max 1 (m.left+d-k.after)<=d;omega
  ·show 1<=max 1 (m.left+d-k.after);omega
 ·rw[if_neg (by simp[h1])]
  have hr:=run_iff.1 h4
  exact⟨mark_late h1 h2 h3 (run_iff.2 ⟨hr.w,hr.l,hr.p,hr.g,hr.b⟩),Kept.same m⟩
 ·rw[if_neg (by simp;omega)]
  exact⟨dm h1 h2,Kept.same m⟩
theorem cont_ok{P:Int}{H:Nat}{o n:Cls}{m:Mar}(hP:1<=P)(ho:OkK H o)(hn:OkK H n)(hw:n.waived=false)(he:n.kind=o.kind)(hr:m.runs=true)(h:aR P o m=true):aR P n (m.cont o n)=true/\Kept m (m.cont o n):=by
 have hR:RunP P o m/\((m.status=1/\m.left<=o.after)\/(m.status=2/\o.kind=1/\m.left<=o.grace)):=by
  rcases cW h with⟨rfl,h2⟩|⟨h1,h2,h3⟩|⟨h1,h2,h3,h4⟩|⟨h1,h2⟩
  ·cases hr
  ·exact⟨run_iff.1 h3, .inl ⟨h1,h2⟩⟩
  ·exact⟨run_iff.1 h4, .inr ⟨h1,h2,h3⟩⟩
  ·rw[Mar.runs_iff]at hr;omega
 obtain⟨hR,hS⟩:=hR
 have hb:(n.kind=4/\m.bearer= -1)\/(n.kind≠4/\0<=m.bearer/\m.bearer<P):=by rw[he];exact hR.b
 unfold Mar.cont
 by_cases h1:((n.kind==1)&&decide (n.need<=m.got))=true
 ·rw[if_pos h1]
  exact⟨dm (.inl rfl) (end_of rfl (hR.got ho).1 (by have:=(hR.got ho).2;show m.got<=9;omega) (hR.bear hP).1 (hR.bear hP).2 rfl),Kept.run (by omega) (by show(3:Int)≠4;decide)⟩
 ·rw[if_neg h1]
  have hg:m.got=0\/(n.kind=1/\0<=m.got/\m.got<n.need):=by
   rcases hR.g with h2|⟨h2,h3,h4⟩
   ·exact .inl h2
   ·simp at h1
    have:=h1 (by omega)
    exact .inr ⟨by omega,h3,by omega⟩
  have hp:(m.paused&&(n.pause != -1))=true->n.pause≠ -1:=fun e=>by simp at e;exact e.2
  rcases hS with⟨s1,s2⟩|⟨s1,s2,s3⟩
  ·rw[if_pos (by simp[s1])]
   refine⟨d9 s1 ?_ (run_iff.2 ⟨hw, ?_,hp,hg,hb⟩),Kept.run (by omega) (by show m.status≠4;omega)⟩
   ·show max 1 (m.left+n.after-o.after)<=n.after;have:=hn.a1;omega
   ·show 1<=max 1 (m.left+n.after-o.after);omega
  ·rw[if_neg (by simp[s1])]
   by_cases h2:n.grace=0
   ·rw[if_pos (by simp[h2])]
    exact⟨d9 rfl hn.a1 (run_iff.2 ⟨hw,by show(1:Int)<=1;omega,hp,hg,hb⟩),Kept.run (by omega) (by show(1:Int)≠4;decide)⟩
   ·rw[if_neg (by simp[h2])]
    have hk1:n.kind=1:=by omega
    have:=hn.n1 hk1
    refine⟨mark_late s1 hk1 ?_ (run_iff.2 ⟨hw, ?_,hp,hg,hb⟩),Kept.run (by omega) (by show m.status≠4;omega)⟩
    ·show max 1 (m.left+n.grace-o.grace)<=n.grace;omega
    ·show 1<=max 1 (m.left+n.grace-o.grace);omega
theorem held_at{P:Int}{hs:List Int}(h:heldC P hs=true){r:Int}(h0:0<=r)(h1:r<(hs.length:Int)):0<=roleH hs r/\roleH hs r<P:=by
 unfold heldC at h
 rw[List.all_eq_true]at h
 have hl:r.toNat<hs.length:=by omega
 unfold roleH
 rw[List.getElem?_eq_getElem hl]
 have:=h _ (List.getElem_mem hl)
 simp only[Bool.and_eq_true,decide_eq_true_eq]at this
 exact this
theorem again_ok{P:Int}{o n:Cls}{m:Mar}{hs:List Int}(hh:heldC P hs=true)(hn:OkK hs.length n)(hw:n.waived=false)(hr:m.runs=true)(h:aR P o m=true):aR P n (m.again o n hs)=true/\Kept m (m.again o n hs):=by
 have hR:RunP P o m:=by
  rcases cW h with⟨rfl,h2⟩|⟨h1,h2,h3⟩|⟨h1,h2,h3,h4⟩|⟨h1,h2⟩
  ·cases hr
  ·exact run_iff.1 h3
  ·exact run_iff.1 h4
  ·rw[Mar.runs_iff]at hr;omega
 refine⟨d9 rfl (Int.le_refl _) (run_iff.2 ⟨hw,hn.a1,fun e=>(by cases e), .inl rfl, ?_⟩),Kept.run (by rw[Mar.runs_iff]at hr;omega) (by show(1:Int)≠4;decide)⟩
 unfold Mar.again
 simp only
 by_cases h4:n.kind=4
 ·rw[if_pos (by simp[h4])];exact .inl ⟨h4,rfl⟩
 ·rw[if_neg (by simp[h4])]
  refine .inr ⟨h4, ?_⟩
  by_cases h5:o.kind=4
  ·rw[if_pos (by simp[h5])]
   have:=hn.r h4
   exact held_at hh this.1 this.2
  ·rw[if_neg (by simp[h5])]
   rcases hR.b with h6|h6
   ·exact absurd h6.1 h5
   ·exact h6.2
theorem begun_ok{P:Int}{k:Cls}{hs:List Int}(hh:heldC P hs=true)(hk:OkK hs.length k)(hw:k.waived=false):aR P k (dS k hs)=true:=by
 refine d9 rfl (Int.le_refl _) (run_iff.2 ⟨hw,hk.a1,fun e=>(by cases e), .inl rfl, ?_⟩)
 unfold dS
 simp only
 by_cases h4:k.kind=4
 ·rw[if_pos (by simp[h4])];exact .inl ⟨h4,rfl⟩
 ·rw[if_neg (by simp[h4])]
  have:=hk.r h4
  exact .inr ⟨h4,held_at hh this.1 this.2⟩
end Go.Cv
namespace Go.Cv
open Go Go.Cs
theorem cE{c:Con}(h:dx c=0):limB c=true/\bJ c=true/\∀(i:Nat) k,c.cls[i]? =some k->bq c i k=true:=by
 unfold dx at h
 cases hl:limB c with
 |false=>rw[hl,if_neg (by decide)]at h;exact absurd h (by decide)
 |true=>
  rw[hl,if_pos rfl]at h
  cases hb:(bJ c&&(List.range c.cls.length).all (clAt c))with
  |false=>rw[hb]at h;exact absurd h (by decide)
  |true=>
   rw[Bool.and_eq_true,List.all_eq_true]at hb
   refine⟨rfl,hb.1,fun i k hk=> ?_⟩
   have:=hb.2 i (List.mem_range.2 (List.getElem?_eq_some_iff.1 hk).1)
   unfold clAt at this
   rw[hk]at this
   exact this
theorem framed_p{c:Con}(h:bJ c=true):1<=c.parties:=by
 unfold bJ at h
 simp only[Bool.and_eq_true,decide_eq_true_eq]at h
 exact h.1.1
theorem gY{c d:Con}{p:Pat}(h:bf c p=some d):∃e,gc p.kind=some e/\dx c=0/\dw c.cls.length p e=true/\dx d=0/\d=c.after p:=by
 unfold bf at h
 cases he:gc p.kind with
 |none=>rw[he]at h;cases h
 |some e=>
  rw[he]at h
  simp only at h
  by_cases hc:dx c=0/\dw c.cls.length p e=true/\ ¬(p.kind=1/\c.cls.length=400)/\dx (c.after p)=0
  ·rw[if_pos hc]at h
   cases h
   exact⟨e,rfl,hc.1,hc.2.1,hc.2.2.2,rfl⟩
  ·rw[if_neg hc]at h;cases h
theorem fits_off{n:Nat}{p:Pat}{e:Eff}(h:dw n p e=true):cA (n:Int) (-1) p.cl=true/\e.least<=(p.cl.length:Int)/\(p.cl.length:Int)<=e.most/\(e.spanned=true->1<=p.days):=by
 unfold dw daysB at h
 simp only[Bool.and_eq_true,decide_eq_true_eq]at h
 refine⟨h.2.1,h.1.1,h.1.2,fun hs=> ?_⟩
 have:=h.2.2.2
 rw[hs,if_pos rfl]at this
 simp only[Bool.and_eq_true,decide_eq_true_eq]at this
 exact this.1
theorem gD{k:Int}{e:Eff}(h:gc k=some e):(k=1/\e.least=0/\e.most=0)\/(k=2/\e.least=1/\e.most=1)\/(k=3/\e.least=1/\e.most=1)\/(k=4/\e.least=1/\e.most=400)\/(k=5/\e.spanned=true):=by
 unfold gc at h
 repeat' split at h
 all_goals first|(cases h;done)|skip
 all_goals (cases h;simp_all)
theorem fold_set{α:Type}{f:α->α}{n:Int}(l:List Int)(ks:List α)(h:cA n (-1) l=true)(i:Nat):(l.foldl (fun(ks:List α) (x:Int)=>ks.modify x.toNat f) ks)[i]? =(ks[i]?).map fun a=>if(i:Int)∈l then f a else a:=
 gB (fun _=>f) l (-1) ks h (Int.le_refl _) i
theorem gp{α:Type}{f:α->α}(l:List Int)(ks:List α):(l.foldl (fun(ks:List α) (x:Int)=>ks.modify x.toNat f) ks).length=ks.length:=gC (fun _=>f) l ks
theorem upd_len{p:Pat}{ks:List Cls}:(upd p ks).length=if p.kind=1 then ks.length+1 else ks.length:=by
 unfold upd
 by_cases h1:p.kind=1
 ·rw[if_pos h1,if_pos h1,List.length_append];rfl
 ·rw[if_neg h1,if_neg h1]
  by_cases h2:p.kind=2
  ·rw[if_pos h2,List.length_set]
  ·rw[if_neg h2]
   by_cases h3:p.kind=5
   ·rw[if_pos h3];exact gp _ _
   ·rw[if_neg h3];exact gp _ _
theorem mig_len{c:Con}{p:Pat}{s:Sta}{n:Nat}(h:s.marks.length<=n):(migM c p s n).length=n:=by
 unfold migM
 rw[gC,List.length_append,List.length_replicate];omega
theorem mig_at{c d:Con}{p:Pat}{s:Sta}(hd:bf c p=some d)(hP:1<=c.parties)(hh:heldC c.parties s.holders=true)(hhl:s.holders.length=c.holders.length)(hl:s.marks.length=c.cls.length)
  (hm:∀(i:Nat) m k,s.marks[i]? =some m->c.cls[i]? =some k->aR c.parties k m=true) (i:Nat) (k':Cls) (m1:Mar) (hk':d.cls[i]? =some k') (hm1:(migM c p s d.cls.length)[i]? =some m1):
  aR c.parties k' m1=true/\∀m,s.marks[i]? =some m->Kept m m1:=by
 obtain⟨e,he,hc,hf,hdv,rfl⟩:=gY hd
 obtain⟨hof,hlo,hhi,hsp⟩:=fits_off hf
 have okc:∀(i:Nat) k,c.cls[i]? =some k->OkK c.holders.length k:=fun i k h=>okK_of ((cE hc).2.2 i k h)
 have okd:OkK c.holders.length k':=okK_of (c:=c.after p) ((cE hdv).2.2 i k' hk')
 have hk1:(upd p c.cls)[i]? =some k':=hk'
 have hlen:(c.after p).cls.length=if p.kind=1 then c.cls.length+1 else c.cls.length:=upd_len
 rw[hlen]at hm1
 unfold migM du at hm1
 rcases gD he with⟨k1,l1,_⟩|⟨k1,l1,l2⟩|⟨k1,_⟩|⟨k1,_⟩|⟨k1,l1⟩
 ·rw[if_pos k1]at hm1
  rw[if_pos (by simp[k1])]at hm1
  unfold upd at hk1
  rw[if_pos k1]at hk1
  simp only[List.foldl_cons,List.foldl_nil]at hm1
  unfold modL at hm1
  rw[List.getElem?_modify]at hm1
  rw[show((c.cls.length:Int)).toNat=c.cls.length from by omega]at hm1
  rw[show c.cls.length+1-s.marks.length=1 by omega]at hm1
  by_cases hi:c.cls.length=i
  ·subst hi
   rw[List.getElem?_append_right (by omega),show c.cls.length-s.marks.length=0 by omega]at hm1
   rw[List.getElem?_append_right (Nat.le_refl _),Nat.sub_self]at hk1
   simp at hm1 hk1
   subst hk1
   refine⟨?_,fun m h=>by rw[List.getElem?_eq_none (by omega)]at h;cases h⟩
   rw[<-hm1]
   unfold chgM
   rw[if_neg (by simp[k1]),if_neg (by simp[k1]),if_pos (by simp[k1])]
   by_cases hw:p.new.waived=true
   ·rw[if_pos hw]
    exact dm (.inr (.inr rfl)) (end_of rfl (by decide) (by decide) (by decide) (by show(-1:Int)<c.parties;omega) rfl)
   ·rw[if_neg hw]
    unfold aR
    simp[Mar.idle,Mar.same]at hw⊢
    exact hw
  ·have hil:i<c.cls.length:=by
    have:=(List.getElem?_eq_some_iff.1 hk1).1
    rw[List.length_append]at this
    simp at this
    omega
   rw[List.getElem?_append_left (by omega)]at hm1
   rw[List.getElem?_append_left hil]at hk1
   simp only[hi,if_false]at hm1
   have hx:s.marks[i]? =some m1:=by
    cases h:s.marks[i]? with
    |none=>rw[h]at hm1;cases hm1
    |some x=>rw[h]at hm1;exact hm1
   refine⟨hm i m1 k' hx hk1,fun m h=> ?_⟩
   rw[hx]at h;cases h;exact Kept.same _
 all_goals (
  rw[if_neg (by omega),show c.cls.length-s.marks.length=0 by omega,List.replicate_zero,List.append_nil,if_neg (by simp[k1]),gB _ _ (-1) _ hof (Int.le_refl _)]at hm1
  have hil:i<c.cls.length:=by
   have:=(List.getElem?_eq_some_iff.1 hk').1
   rw[hlen,if_neg (by omega)]at this
   exact this
  obtain⟨k,hk⟩:∃k,c.cls[i]? =some k:=⟨_,List.getElem?_eq_getElem hil⟩
  obtain⟨m,hmi⟩:∃m,s.marks[i]? =some m:=⟨_,List.getElem?_eq_getElem (by omega)⟩
  have hmk:=hm i m k hmi hk
  have hck:clsAt c.cls (i:Int)=k:=by unfold clsAt;rw[Int.toNat_natCast,hk];rfl
  rw[hmi]at hm1
  simp only[Option.map_some,Option.some.injEq]at hm1
  unfold upd at hk1
  suffices hs:aR c.parties k' m1=true/\Kept m m1 from⟨hs.1,fun m2 h2=>by rw[hmi]at h2;cases h2;exact hs.2⟩)
 ·rw[if_neg (by omega),if_pos k1]at hk1
  obtain⟨x,hx⟩:∃x,p.cl= [x]:=by
   match h:p.cl with
   | []=>rw[h]at hlo;simp at hlo;omega
   | [x]=>exact⟨x,rfl⟩
   |x::y::r=>rw[h]at hhi;simp at hhi;omega
  rw[hx]at hk1 hm1 hof
  have hx0:0<=x:=by have:=dM hof x List.mem_cons_self;omega
  by_cases hi:x.toNat=i
  ·have hxi:x=(i:Int):=by omega
   subst hxi
   rw[show([(i:Int)].headD 0).toNat=i by simp,List.getElem?_set_self hil]at hk1
   cases hk1
   rw[if_pos List.mem_cons_self]at hm1
   rw[<-hm1]
   unfold chgM
   rw[if_neg (by simp[k1]),if_pos (by simp[k1])]
   by_cases hw:p.new.waived=true
   ·rw[if_pos hw];exact void_ok hP (okc i k hk) hmk
   ·rw[if_neg hw]
    have hw':p.new.waived=false:=by simpa using hw
    by_cases hr:m.runs=true
    ·rw[if_neg (by simp[hr]),hck]
     by_cases hkd:p.new.kind=k.kind
     ·rw[if_pos (by simp[hkd])];exact cont_ok hP (okc i k hk) okd hw' hkd hr hmk
     ·rw[if_neg (by simp[hkd])];exact again_ok hh (by rw[hhl];exact okd) hw' hr hmk
    ·rw[if_pos (by simp[hr])]
     refine⟨?_,Kept.same _⟩
     rcases cW hmk with⟨rfl,_⟩|⟨h1,_⟩|⟨h1,_⟩|⟨h1,h2⟩
     ·unfold aR;simp[Mar.idle,Mar.same,hw']
     ·rw[Mar.runs_iff]at hr;omega
     ·rw[Mar.runs_iff]at hr;omega
     ·exact dm h1 h2
  ·have hni: ¬(i:Int)∈ [x]:=by rw[List.mem_singleton];omega
   rw[if_neg hni]at hm1
   rw[show([x].headD 0)=x from rfl,List.getElem?_set_ne hi,hk]at hk1
   cases hk1
   rw[<-hm1];exact⟨hmk,Kept.same _⟩
 ·rw[if_neg (by omega),if_neg (by omega),if_neg (by omega)]at hk1
  have hks:=(fold_set (f:=Cls.waive) p.cl c.cls hof i).symm.trans hk1
  rw[hk]at hks
  simp only[Option.map_some,Option.some.injEq]at hks
  by_cases hi:(i:Int)∈p.cl
  ·rw[if_pos hi]at hm1 hks
   unfold chgM at hm1
   rw[if_neg (by simp[k1]),if_neg (by simp[k1]),if_neg (by simp[k1])]at hm1
   rw[<-hm1];exact void_ok hP (okc i k hk) hmk
  ·rw[if_neg hi]at hm1 hks
   rw[<-hm1, <-hks];exact⟨hmk,Kept.same _⟩
 ·rw[if_neg (by omega),if_neg (by omega),if_neg (by omega)]at hk1
  have hks:=(fold_set (f:=Cls.waive) p.cl c.cls hof i).symm.trans hk1
  rw[hk]at hks
  simp only[Option.map_some,Option.some.injEq]at hks
  by_cases hi:(i:Int)∈p.cl
  ·rw[if_pos hi]at hm1 hks
   unfold chgM at hm1
   rw[if_neg (by simp[k1]),if_neg (by simp[k1]),if_neg (by simp[k1])]at hm1
   rw[<-hm1];exact void_ok hP (okc i k hk) hmk
  ·rw[if_neg hi]at hm1 hks
   rw[<-hm1, <-hks];exact⟨hmk,Kept.same _⟩
 ·rw[if_neg (by omega),if_neg (by omega),if_pos k1]at hk1
  have hks:=(fold_set (f:=Cls.span p.days) p.cl c.cls hof i).symm.trans hk1
  rw[hk]at hks
  simp only[Option.map_some,Option.some.injEq]at hks
  by_cases hi:(i:Int)∈p.cl
  ·rw[if_pos hi]at hm1 hks
   unfold chgM at hm1
   rw[if_pos (by simp[k1]),hck]at hm1
   rw[<-hm1, <-hks];exact span_ok (hsp l1) hmk
  ·rw[if_neg hi]at hm1 hks
   rw[<-hm1, <-hks];exact⟨hmk,Kept.same _⟩
theorem sys_out{c:Con}{s:Sta}(h:sysB c s=true):dx c=0/\shapeB c s=true/\heldC c.parties s.holders=true/\usedB c.acts s.used=true/\∀(i:Nat) m k,s.marks[i]? =some m->c.cls[i]? =some k->aR c.parties k m=true/\bK s.marks k m=false:=by
 unfold sysB at h
 simp only[Bool.and_eq_true,beq_iff_eq,List.all_eq_true]at h
 refine⟨h.1,h.2.1,h.2.2.1,h.2.2.2.1,fun i m k hm hk=> ?_⟩
 have:=h.2.2.2.2 i (List.mem_range.2 (List.getElem?_eq_some_iff.1 hm).1)
 unfold okB at this
 rw[hm,hk]at this
 simpa using this
theorem shape_out{c:Con}{s:Sta}(h:shapeB c s=true):0<=s.day/\s.day<=c.days/\s.holders.length=c.holders.length/\s.used.length=c.acts.length/\s.marks.length=c.cls.length:=by
 unfold shapeB at h
 simp only[Bool.and_eq_true,decide_eq_true_eq]at h
 exact h
theorem sys_mig{c d:Con}{p:Pat}{s:Sta}{b:List Mar}(hs:sysB c s=true)(hd:bf c p=some d)(hg:Grew d.cls s.holders (migM c p s d.cls.length) b)
  (hn:∀(i:Nat) m k,b[i]? =some m->d.cls[i]? =some k->bK b k m=false):
  sysB d ⟨s.day,s.holders,s.used,b⟩=true/\∀(i:Nat) m m',s.marks[i]? =some m->b[i]? =some m'->Kept m m':=by
 obtain⟨h1,h2,h3,h4,h5⟩:=sys_out hs
 obtain⟨q1,q2,q3,q4,q5⟩:=shape_out h2
 obtain⟨e,he,hc,hf,hdv,hda⟩:=gY hd
 have hP:=framed_p (cE hc).2.1
 have hdl:c.cls.length<=d.cls.length:=by
  rw[hda];show _<=(upd p c.cls).length
  rw[upd_len];split<;>omega
 have hml:(migM c p s d.cls.length).length=d.cls.length:=mig_len (by omega)
 have hbl:b.length=d.cls.length:=by rw[hg.len,hml]
 have hpar:d.parties=c.parties:=by rw[hda];rfl
 have hhol:d.holders=c.holders:=by rw[hda];rfl
 have hact:d.acts=c.acts:=by rw[hda];rfl
 have hday:d.days=c.days:=by rw[hda];rfl
 have key:∀(i:Nat) m' k',b[i]? =some m'->d.cls[i]? =some k'->aR c.parties k' m'=true/\∀m,s.marks[i]? =some m->Kept m m':=by
  intro i m' k' hb hk
  have hi:=(List.getElem?_eq_some_iff.1 hb).1
  obtain⟨m1,hm1⟩:∃m1,(migM c p s d.cls.length)[i]? =some m1:=⟨_,List.getElem?_eq_getElem (by omega)⟩
  obtain⟨r1,r2⟩:=mig_at hd hP h3 q3 q5 (fun i m k a b=>(h5 i m k a b).1) i k' m1 hk hm1
  rcases hg.at_ i m1 m' k' hm1 hb hk with rfl|⟨g1,g2,rfl⟩
  ·exact⟨r1,r2⟩
  ·have ok:OkK s.holders.length k':=by rw[q3, <-hhol];exact okK_of ((cE hdv).2.2 i k' hk)
   refine⟨begun_ok h3 ok g2,fun m hm=> ?_⟩
   have hk0:=r2 m hm
   refine⟨fun e3=> ?_,fun e4=>absurd e4 (by show(1:Int)≠4;decide)⟩
   have:=hk0.d e3
   rw[this]at g1
   omega
 constructor
 ·unfold sysB
  simp only[Bool.and_eq_true,beq_iff_eq,List.all_eq_true]
  refine⟨hdv, ?_,by rw[hpar];exact h3,by rw[hact];exact h4,fun i hi=> ?_⟩
  ·unfold shapeB
   simp only[Bool.and_eq_true,decide_eq_true_eq]
   exact⟨q1,by rw[hday];exact q2,by rw[hhol];exact q3,by rw[hact];exact q4,hbl⟩
  ·have hi':=List.mem_range.1 hi
   unfold okB
   obtain⟨m,hm⟩:∃m,b[i]? =some m:=⟨_,List.getElem?_eq_getElem hi'⟩
   obtain⟨k,hk⟩:∃k,d.cls[i]? =some k:=⟨_,List.getElem?_eq_getElem (by have h:i<b.length:=hi';omega)⟩
   simp only[hm,hk,Bool.and_eq_true,Bool.not_eq_true']
   exact⟨by rw[hpar];exact(key i m k hm hk).1,hn i m k hm hk⟩
 ·intro i m m' hm hb
  obtain⟨k,hk⟩:∃k,d.cls[i]? =some k:=⟨_,List.getElem?_eq_getElem (by have:=(List.getElem?_eq_some_iff.1 hb).1;omega)⟩
  exact(key i m' k hb hk).2 m hm
end Go.Cv
namespace Go.Cv
open Go Go.Cs Go.Opn Go.RowKit
def ah(m:Mar):List Value:= [.int .i64 m.status, .int .i64 m.left, .int .i64 m.got, .int .i64 m.bearer, .bool m.paused]
def encB(b:Bool):List Value:= [.bool b]
theorem aB(m:Mar):∀v∈ah m,v.oneCell'=true:=fun v hv=>by
 simp only[ah,List.mem_cons,List.not_mem_nil,or_false]at hv
 rcases hv with rfl|rfl|rfl|rfl|rfl<;>rfl
structure StaM where
 day:Int
 holders:List Int
 used:List Bool
 marks:List Mar
 hA:Option Addr
 hc:Nat
 uA:Option Addr
 uc:Nat
 mA:Option Addr
 mc:Nat
def StaM.sta(s:StaM):Sta:=⟨s.day,s.holders,s.used,s.marks⟩
def aE(s:StaM):List Value:= [.int .i64 s.day, .slice s.hA s.holders.length s.hc, .slice s.uA s.used.length s.uc, .slice s.mA s.marks.length s.mc]
theorem cB(s:StaM):∀v∈aE s,v.oneCell'=true:=fun v hv=>by
 simp only[aE,List.mem_cons,List.not_mem_nil,or_false]at hv
 rcases hv with rfl|rfl|rfl|rfl<;>rfl
structure StaAt (w:World) (s:StaM):Prop where
 h:SL w 1 Cs.encI s.hA s.holders
 u:SL w 1 encB s.uA s.used
 m:SL w 5 ah s.mA s.marks
theorem StaAt.below{w w':World}{s:StaM}{B:Nat}(h:StaAt w s)(hb:Below B w w')(hB:w.heap.size<=B):StaAt w' s:=
 ⟨h.h.below hb hB,h.u.below hb hB,h.m.below hb hB⟩
structure StaSz (s:StaM):Prop where
 h:s.holders.length<=9223372036854775807
 u:s.used.length<=9223372036854775807
 m:s.marks.length<=9223372036854775807
end Go.Cv
namespace Go.Proofs.YtekfoaenomgjgaaGreatDoor
open Go.RowKit Go.W32 Go.Blk Go.Cs Go.Lib Go.Opn Go.Mg Go.Cv

theorem bV(cs:List Value)(h:cs.length=5):(Tryz.prog.info? 66).map (·.size)=some cs.length:=by rw[h];kernel_rfl
theorem dc(cs:List Value)(h:cs.length=4):(Tryz.prog.info? 56).map (·.size)=some cs.length:=by rw[h];kernel_rfl
structure MarC (w:World) (b:Nat) (m:Mar):Prop where
 m0:w.cell? ⟨b,0,none⟩=some (.int .i64 m.status)
 m1:w.cell? ⟨b,1,none⟩=some (.int .i64 m.left)
 m2:w.cell? ⟨b,2,none⟩=some (.int .i64 m.got)
 m3:w.cell? ⟨b,3,none⟩=some (.int .i64 m.bearer)
 m4:w.cell? ⟨b,4,none⟩=some (.bool m.paused)
theorem MarC.of{w:World}{b:Nat}{T:TypeId}{m:Mar}(h:Row w b T (ah m)):MarC w b m:=⟨h.at rfl,h.at rfl,h.at rfl,h.at rfl,h.at rfl⟩
structure StaC (w:World) (b:Nat) (s:StaM):Prop where
 s0:w.cell? ⟨b,0,none⟩=some (.int .i64 s.day)
 s1:w.cell? ⟨b,1,none⟩=some (.slice s.hA s.holders.length s.hc)
 s2:w.cell? ⟨b,2,none⟩=some (.slice s.uA s.used.length s.uc)
 s3:w.cell? ⟨b,3,none⟩=some (.slice s.mA s.marks.length s.mc)
theorem StaC.of{w:World}{b:Nat}{T:TypeId}{s:StaM}(h:Row w b T (aE s)):StaC w b s:=⟨h.at rfl,h.at rfl,h.at rfl,h.at rfl⟩
theorem dK(W:World)(T U V:TypeId)(cs ds es:List Value):
  ∃W1,((W.alloc (.cells cs.toArray T)).alloc (.cells ds.toArray U)).alloc (.cells es.toArray V)=W1/\Row W1 W.heap.size T cs/\Row W1 (W.heap.size+1) U ds/\Row W1 (W.heap.size+2) V es/\Below W.heap.size W W1:=by
 have s1:(W.alloc (.cells cs.toArray T)).heap.size=W.heap.size+1:=by simp
 have s2:((W.alloc (.cells cs.toArray T)).alloc (.cells ds.toArray U)).heap.size=W.heap.size+2:=by simp
 refine⟨_,rfl,((Row.new W T cs).alloc _).alloc _, ?_, ?_,(((Below.refl _ _).alloc (Nat.le_refl _) _).alloc (by simp) _).alloc (by rw[s2];omega) _⟩
 ·rw[<-s1];exact(Row.new _ U ds).alloc _
 ·rw[<-s2];exact Row.new _ V es
set_option maxHeartbeats 8000000 in
theorem run_any(c:ConM)(k:Kl)(m:Mar)(W:World):Calls Tryz.prog 87 #[.agg (ak c).toArray, .agg (aF k).toArray, .agg (ah m).toArray] W fun e w'=>e= .returned (.bool (fc c.parties k.1 m))/\Below W.heap.size W w':=by
 obtain⟨R,eR⟩:∃R:Ending->World->Prop,R=fun e w'=>e= .returned (.bool (fc c.parties k.1 m))/\Below W.heap.size W w':=⟨_,rfl⟩
 rw[<-eR]
 have FIN:Hid (∀w' v,v=fc c.parties k.1 m->Below W.heap.size W w'->R (.returned (.bool v)) w'):=h_ fun w' v h hb=>by rw[eR,h];exact⟨rfl,hb⟩
 clear eR
 obtain⟨W1,e1,hr1,hr2,hr3,hb1⟩:=dK W 27 45 66 (ak c) (aF k) (ah m)
 obtain⟨k0,_,_,_,_,_,_⟩:=ConC.of hr1
 obtain⟨q0,q1,q2,q3,q4,q5,q6,q7,q8,q9,q10,q11,q12,q13,q14,q15⟩:=ClsK.ofKl hr2
 obtain⟨m0,m1,m2,m3,m4⟩:=MarC.of hr3
 obtain⟨cs,ecs⟩:∃cs,cs=ak c:=⟨_,rfl⟩
 obtain⟨ds,eds⟩:∃ds,ds=aF k:=⟨_,rfl⟩
 obtain⟨es,ees⟩:∃es,es=ah m:=⟨_,rfl⟩
 rw[<-ecs, <-eds, <-ees]at e1⊢
 have E1:=h_ e1
 have HB1:=h_ hb1
 obtain⟨⟨kind,role,act,need,start,after,grace,bus,fin,pause,resume,num,den,unit,dest,waived⟩,kA,kc⟩:=k
 obtain⟨status,left,got,bearer,paused⟩:=m
 simp only at q0 q3 q9 q14 q15 m1 m2 m3 m4 FIN
 clear e1 hr1 hr2 hr3 hb1 ecs eds ees q1 q2 q4 q5 q6 q7 q8 q10 q11 q12 q13 q14 m0
 cases waived with
 |true=>
  have HF:=h_ (FIN.out W1 false (by unfold fc;simp[Bool.false_and]) HB1.out)
  clear FIN
  go_enter Tryz.func87,Tryz.ntmps87
  go_wp2_with (simp only[E1.out])
  exact HF.out
 |false=>
 by_cases hl:1<=left
 rotate_left
 ·have i3:decide (left<1)=true:=decide_eq_true (by omega)
  have HF:=h_ (FIN.out W1 false (by unfold fc;simp[hl]) HB1.out)
  clear FIN
  go_enter Tryz.func87,Tryz.ntmps87
  go_wp2_with (simp only[E1.out])
  exact HF.out
 have i3:decide (left<1)=false:=decide_eq_false (by omega)
 cases paused with
 |false=>
  by_cases hg:got=0
  ·have b0:(got !=0)=false:=by simpa using hg
   by_cases hk4:kind=4
   ·have b4:(kind==4)=true:=by simpa using hk4
    have HF:=h_ (FIN.out W1 (bearer== -1) (by unfold fc;simp[hl,hg,Bool.not_false,hk4]) HB1.out)
    clear FIN hk4
    go_enter Tryz.func87,Tryz.ntmps87
    go_wp2_with (simp only[E1.out])
    exact HF.out
   ·have b4:(kind==4)=false:=by simpa using hk4
    by_cases hb0:0<=bearer
    ·have i0:decide (0<=bearer)=true:=decide_eq_true hb0
     have HF:=h_ (FIN.out W1 (decide (bearer<c.parties)) (by unfold fc;simp[hl,hg,Bool.not_false,hk4,hb0]) HB1.out)
     clear FIN hk4
     go_enter Tryz.func87,Tryz.ntmps87
     go_wp2_with (simp only[E1.out])
     exact HF.out
    ·have i0:decide (0<=bearer)=false:=decide_eq_false hb0
     have HF:=h_ (FIN.out W1 false (by unfold fc;simp[hl,hg,Bool.not_false,hk4,hb0]) HB1.out)
     clear FIN hk4
     go_enter Tryz.func87,Tryz.ntmps87
     go_wp2_with (simp only[E1.out])
     exact HF.out
  ·have b0:(got !=0)=true:=by simpa using hg
   by_cases hk1:kind=1
   rotate_left
   ·have b1:(kind !=1)=true:=by simpa using hk1
    have HF:=h_ (FIN.out W1 false (by unfold fc;simp[hl,hg,hk1,Bool.not_false]) HB1.out)
    clear FIN
    go_enter Tryz.func87,Tryz.ntmps87
    go_wp2_with (simp only[E1.out])
    exact HF.out
   have b1:(kind !=1)=false:=by simpa using hk1
   by_cases hg0:0<=got
   rotate_left
   ·have i1:decide (got<0)=true:=decide_eq_true (by omega)
    have HF:=h_ (FIN.out W1 false (by unfold fc;simp[hl,hg,hk1,hg0,Bool.not_false]) HB1.out)
    clear FIN
    go_enter Tryz.func87,Tryz.ntmps87
    go_wp2_with (simp only[E1.out])
    exact HF.out
   have i1:decide (got<0)=false:=decide_eq_false (by omega)
   by_cases hgn:got<need
   rotate_left
   ·have i2:decide (need<=got)=true:=decide_eq_true (by omega)
    have HF:=h_ (FIN.out W1 false (by unfold fc;simp[hl,hg,hk1,hg0,hgn,Bool.not_false]) HB1.out)
    clear FIN
    go_enter Tryz.func87,Tryz.ntmps87
    go_wp2_with (simp only[E1.out])
    exact HF.out
   have i2:decide (need<=got)=false:=decide_eq_false (by omega)
   have hk4: ¬kind=4:=by omega
   have b4:(kind==4)=false:=by simpa using hk4
   by_cases hb0:0<=bearer
   ·have i0:decide (0<=bearer)=true:=decide_eq_true hb0
    have HF:=h_ (FIN.out W1 (decide (bearer<c.parties)) (by unfold fc;simp[hl,hg,hk1,hg0,hgn,Bool.not_false,hk4,hb0]) HB1.out)
    clear FIN hk4
    go_enter Tryz.func87,Tryz.ntmps87
    go_wp2_with (simp only[E1.out])
    exact HF.out
   ·have i0:decide (0<=bearer)=false:=decide_eq_false hb0
    have HF:=h_ (FIN.out W1 false (by unfold fc;simp[hl,hg,hk1,hg0,hgn,Bool.not_false,hk4,hb0]) HB1.out)
    clear FIN hk4
    go_enter Tryz.func87,Tryz.ntmps87
    go_wp2_with (simp only[E1.out])
    exact HF.out
 |true=>
  by_cases hp:pause= -1
  ·have b9:(pause== -1)=true:=by simpa using hp
   have HF:=h_ (FIN.out W1 false (by unfold fc;simp[hl,hp]) HB1.out)
   clear FIN
   go_enter Tryz.func87,Tryz.ntmps87
   go_wp2_with (simp only[E1.out])
   exact HF.out
  ·have b9:(pause== -1)=false:=by simpa using hp
   by_cases hg:got=0
   ·have b0:(got !=0)=false:=by simpa using hg
    by_cases hk4:kind=4
    ·have b4:(kind==4)=true:=by simpa using hk4
     have HF:=h_ (FIN.out W1 (bearer== -1) (by unfold fc;simp[hl,hg,hp,hk4]) HB1.out)
     clear FIN hk4
     go_enter Tryz.func87,Tryz.ntmps87
     go_wp2_with (simp only[E1.out])
     exact HF.out
    ·have b4:(kind==4)=false:=by simpa using hk4
     by_cases hb0:0<=bearer
     ·have i0:decide (0<=bearer)=true:=decide_eq_true hb0
      have HF:=h_ (FIN.out W1 (decide (bearer<c.parties)) (by unfold fc;simp[hl,hg,hp,hk4,hb0]) HB1.out)
      clear FIN hk4
      go_enter Tryz.func87,Tryz.ntmps87
      go_wp2_with (simp only[E1.out])
      exact HF.out
     ·have i0:decide (0<=bearer)=false:=decide_eq_false hb0
      have HF:=h_ (FIN.out W1 false (by unfold fc;simp[hl,hg,hp,hk4,hb0]) HB1.out)
      clear FIN hk4
      go_enter Tryz.func87,Tryz.ntmps87
      go_wp2_with (simp only[E1.out])
      exact HF.out
   ·have b0:(got !=0)=true:=by simpa using hg
    by_cases hk1:kind=1
    rotate_left
    ·have b1:(kind !=1)=true:=by simpa using hk1
     have HF:=h_ (FIN.out W1 false (by unfold fc;simp[hl,hg,hk1,hp]) HB1.out)
     clear FIN
     go_enter Tryz.func87,Tryz.ntmps87
     go_wp2_with (simp only[E1.out])
     exact HF.out
    have b1:(kind !=1)=false:=by simpa using hk1
    by_cases hg0:0<=got
    rotate_left
    ·have i1:decide (got<0)=true:=decide_eq_true (by omega)
     have HF:=h_ (FIN.out W1 false (by unfold fc;simp[hl,hg,hk1,hg0,hp]) HB1.out)
     clear FIN
     go_enter Tryz.func87,Tryz.ntmps87
     go_wp2_with (simp only[E1.out])
     exact HF.out
    have i1:decide (got<0)=false:=decide_eq_false (by omega)
    by_cases hgn:got<need
    rotate_left
    ·have i2:decide (need<=got)=true:=decide_eq_true (by omega)
     have HF:=h_ (FIN.out W1 false (by unfold fc;simp[hl,hg,hk1,hg0,hgn,hp]) HB1.out)
     clear FIN
     go_enter Tryz.func87,Tryz.ntmps87
     go_wp2_with (simp only[E1.out])
     exact HF.out
    have i2:decide (need<=got)=false:=decide_eq_false (by omega)
    have hk4: ¬kind=4:=by omega
    have b4:(kind==4)=false:=by simpa using hk4
    by_cases hb0:0<=bearer
    ·have i0:decide (0<=bearer)=true:=decide_eq_true hb0
     have HF:=h_ (FIN.out W1 (decide (bearer<c.parties)) (by unfold fc;simp[hl,hg,hk1,hg0,hgn,hp,hk4,hb0]) HB1.out)
     clear FIN hk4
     go_enter Tryz.func87,Tryz.ntmps87
     go_wp2_with (simp only[E1.out])
     exact HF.out
    ·have i0:decide (0<=bearer)=false:=decide_eq_false hb0
     have HF:=h_ (FIN.out W1 false (by unfold fc;simp[hl,hg,hk1,hg0,hgn,hp,hk4,hb0]) HB1.out)
     clear FIN hk4
     go_enter Tryz.func87,Tryz.ntmps87
     go_wp2_with (simp only[E1.out])
     exact HF.out
end Go.Proofs.YtekfoaenomgjgaaGreatDoor
