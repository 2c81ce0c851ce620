/- A region that draws its order, whose forced end calls the body of a range over a function: the rule of Free inside a fence. Condition: the first part defers nothing. -/
import Derived.Test.YtkmbmfengcdmoaaGreatDoorZAS
import Derived.Test.YtkmbmfengcdmoaaGreatDoorZAA
import Derived.Lib.SmallJoins
import Derived.Test.YtkmbmfengcdmoaaGreatDoorFree
import Derived.OrdersIn
import Derived.RangeFuncCalls
import Derived.Laws.Tables
import Derived.StillTail
set_option maxRecDepth 100000
set_option linter.all false
namespace Go.Proofs.YtkmbmfengcdmoaaGreatDoor
open Go.RowKit Go.ay Go.Opn Go.ChangeShapes Go.WideShapes Go.Deep Go.OpenShut

def wu(x y:ei):Bool:=decide (x.ref=y.ref/\x.act=y.act/\x.low=y.low/\x.high=y.high/\x.cJ=y.cJ/\x.secret=y.secret)
instance:Inhabited ei:=⟨⟨0,0,0,0,0,false⟩⟩
theorem JV(x y:ei)(W:World):(binOp .neq 29 (.agg (bU x).toArray) (.agg (bU y).toArray)).run Tryz.prog W= .ok (.bool (!wu x y)) W:=by
 obtain⟨d,e,f,g,h,i⟩:=x;obtain⟨q,p,bl,n,l,j⟩:=y;show(binOp .neq 29 (.agg #[.int .i64 d, .int .i64 e, .int .i64 f, .int .i64 g, .int .i64 h, .bool i]) (.agg #[.int .i64 q, .int .i64 p, .int .i64 bl, .int .i64 n, .int .i64 l, .bool j])).run Tryz.prog W=_;by_cases r:d=q
 ·subst r;by_cases s:e=p
  ·subst s;by_cases t:f=bl
   ·subst t;by_cases u:g=n
    ·subst u;by_cases v:h=l
     ·subst v;by_cases w:i=j
      ·subst w;have c:wu ⟨d,e,f,g,h,i⟩ ⟨d,e,f,g,h,i⟩=true:=by unfold wu;simp[]
       rw[c];clear c;go_simp<;>rfl
      ·have c:wu ⟨d,e,f,g,h,i⟩ ⟨d,e,f,g,h,j⟩=false:=by unfold wu;simp[w]
       rw[c];clear c;go_simp<;>rfl
     ·have c:wu ⟨d,e,f,g,h,i⟩ ⟨d,e,f,g,l,j⟩=false:=by unfold wu;simp[v]
      rw[c];clear c;go_simp<;>rfl
    ·have c:wu ⟨d,e,f,g,h,i⟩ ⟨d,e,f,n,l,j⟩=false:=by unfold wu;simp[u]
     rw[c];clear c;go_simp<;>rfl
   ·have c:wu ⟨d,e,f,g,h,i⟩ ⟨d,e,bl,n,l,j⟩=false:=by unfold wu;simp[t]
    rw[c];clear c;go_simp<;>rfl
  ·have c:wu ⟨d,e,f,g,h,i⟩ ⟨d,p,bl,n,l,j⟩=false:=by unfold wu;simp[s]
   rw[c];clear c;go_simp<;>rfl
 ·have c:wu ⟨d,e,f,g,h,i⟩ ⟨q,p,bl,n,l,j⟩=false:=by unfold wu;simp[r]
  rw[c];clear c;go_simp<;>rfl
theorem Ew{o:Oper}{ρ:Operand->Value}{w:World}{a b:Operand}{x y:ei}{Q:Bool}(g:o.op= .binOp .neq 29 a b 29)(d:ρ a= .agg (bU x).toArray)(e:ρ b= .agg (bU y).toArray)(c:(!wu x y)=Q):
  (execOp ρ o).run Tryz.prog w= .ok (.value (.bool Q)) w:=by
 have f:(eqGuard .neq 29 a b (.agg (bU x).toArray) (.agg (bU y).toArray)).run Tryz.prog w= .ok () w:=by unfold eqGuard;simp
 unfold execOp;simp only[g,d,e,Sem.run_bind,f,Result.andThen_ok,JV,Sem.run_pure,c]
end Go.Proofs.YtkmbmfengcdmoaaGreatDoor
namespace Go.Fre7
open Go Go.RowKit
open Go.Free (mB s7 sZ dx put_defers oV gY gX dQ dN gA mz iq OK iG fK getD_some ib fx fJ jF gQ left lZ)

def dC(P:Program)(o:Oper)(ρ:Operand->Value)(w:World)(K:Value->World->Prop):Prop:=
 match (execOp ρ o).run P w with
 | .ok (.value v) w'=>K v w'
 | .ok .skip w'=>K undef w'
 | .ok (.enter f args) w'=>Calls P f args w' fun
   | .returned v,w''=>K v w''
   |_,_=>False
 |_=>False
theorem j7{P:Program}{o:Oper}{a:Act}{w:World}{K:Value->World->Prop}{next:Act->World->Prop}{Q:Exit->Act->World->Prop}
  (h:dC P o a.eval w K) (c:∀v w',K v w'->next (a.put o.dst v) w'):o.wp P a w next Q:=by
 unfold dC at h;unfold Oper.wp;generalize (execOp a.eval o).run P w=r at h;cases r with
 |halt x w'=>exact h.elim
 |ok x w'=>
  cases x<;>simp only[Oper.upon]at h⊢
  case value v=>exact c _ _ h
  case skip=>exact c _ _ h
  case enter f args=>
   refine h.mono ?_;intro e g d;cases e<;>first|exact c _ _ d|exact d.elim
  all_goals exact h.elim
theorem tg{P:Program}{o:Oper}{w:World}{K:Value->World->Prop}{ρ:Operand->Value}{w':World}(h:(execOp ρ o).run P w= .ok .skip w')(c:K undef w'):dC P o ρ w K:=by unfold dC;rw[h];exact c
theorem au{P:Program}{o:Oper}{w:World}{K:Value->World->Prop}{ρ:Operand->Value}{f:FuncId}{args:Array Value}(h:(execOp ρ o).run P w= .ok (.enter f args) w)
  (c:Calls P f args w λe w'=> ∃v,e= .returned v/\K v w'):dC P o ρ w K:=by
 unfold dC;rw[h];refine c.mono ?_;rintro e w' ⟨v,rfl,hv⟩;exact hv
def cl:List Nat->Nat->Option Nat
 | [],_=>none
 |c::r,k=>if c=k then some 0 else(cl r k).map (· +1)
theorem Co:∀(Cs:List Nat) (k:Nat),cl Cs k=none->k∉Cs
 | [],_,_=>by simp
 |c::r,k,h=>by
  unfold cl at h;split at h
  ·cases h
  ·rename_i d;have f:cl r k=none:=by cases hc:cl r k with|none=>rfl|some x=>rw[hc]at h;cases h
   intro hm;rcases lC.1 hm with e|e
   ·exact d e.symm
   ·exact Co r k f e
theorem yh:∀(Cs:List Nat) (k c:Nat),cl Cs k=some c->∃d f,Cs=d++k::f/\d.length=c
 | [],_,_,h=>by cases h
 |x::r,k,c,h=>by
  unfold cl at h;split at h
  ·rename_i e;cases h
   exact⟨[],r,by rw[e];rfl,rfl⟩
  ·cases hc:cl r k with
   |none=>rw[hc]at h;cases h
   |some y=>
    rw[hc]at h;cases h
    obtain⟨d,f,g,i⟩:=yh r k y hc;exact⟨x::d,f,by rw[g];rfl,by simp[i]⟩
def pw(b:Array Nat):List Nat->Bool
 | []=>true
 |c::r=>r.all (λq=>mB b q c)&&pw b r
def oq(b:Array Nat)(Cs:List Nat)(n:Nat):Bool:=Cs.all (λc=>decide (c<n))&&pw b Cs
theorem zh{b:Array Nat}:∀(d c:List Nat) (k:Nat),pw b (d++k::c)=true->(∀x∈d,mB b k x=true)/\(∀y∈c,mB b y k=true)
 | [],c,k,h=>by
  unfold pw at h;rw[xK]at h;simp only[ua,GJ]at h;exact⟨λx i=>by simp at i,h.1⟩
 |x::d,c,k,h=>by
  rw[xC]at h;unfold pw at h;simp only[ua,GJ]at h;obtain⟨f,g⟩:=zh d c k h.2;refine⟨λy j=> ?_,g⟩;rcases lC.1 j with e|e
  ·rw[e];exact h.1 k (by simp)
  ·exact f y e
def Kc(Cs:List Nat)(listed:Array Bool):Nat:=Cs.countP (λc=>listed.getD c false)
section
variable (P:Program) (ops:Array Oper) (b:Array Nat) (Cs:List Nat) (B:Nat->World->Prop)
def chain(fin:Act->Prop):List Oper->Nat->Act->Prop
 | [],_,a=>fin a
 |o::rest,k,a=>
  if Region.wanted o (yielded ops a.tmps)then
   match cl Cs k with
   |none=> ∃v,(∀s w',B s w'->(execOp a.eval o).run P w'= .ok (.value v) w')/\chain fin rest (k+1) (a.put o.dst v)
   |some c=> ∃x,(∀w',B c w'->dC P o a.eval w' λu w2=>B (c+1) w2/\u=x)/\chain fin rest (k+1) (a.put o.dst x)
  else cl Cs k=none/\chain fin rest (k+1) (a.put o.dst undef)
end
section
variable {P:Program} {ops:Array Oper} {b:Array Nat} {Cs:List Nat} {B:Nat->World->Prop} {a0:Act}
def cX(P:Program)(ops:Array Oper)(Cs:List Nat)(B:Nat->World->Prop)(a0:Act)(n:Nat)(v:Nat->Value)(k:Nat):Prop:=
 (Region.wanted (ops.getD k default) (yielded ops (dx ops a0 v (λi=>decide (i<k)) n).tmps)=true->
  (cl Cs k=none->∀s w',B s w'->(execOp (dx ops a0 v (λi=>decide (i<k)) n).eval (ops.getD k default)).run P w'= .ok (.value (v k)) w')/\
  (∀c,cl Cs k=some c->∀w',B c w'->dC P (ops.getD k default) (dx ops a0 v (λi=>decide (i<k)) n).eval w' λy w2=>B (c+1) w2/\y=v k))/\
 (Region.wanted (ops.getD k default) (yielded ops (dx ops a0 v (λi=>decide (i<k)) n).tmps)=false->cl Cs k=none/\v k=undef)
theorem ik{n:Nat}{v d:Nat->Value}{k:Nat}(h:∀j,j<k+1->v j=d j)(c:cX P ops Cs B a0 n v k):cX P ops Cs B a0 n d k:=by have e:dx ops a0 v (λj=>decide (j<k)) n=dx ops a0 d (λj=>decide (j<k)) n:=fK _ _ _ _ (λj _ c=>h j (by simp at c;omega));have f:=h k (by omega);unfold cX at*;rw[<-e, <-f];exact c
theorem gd{n:Nat}{fin:Act->Prop}(D:n<=ops.size):
  ∀(l:List Oper) (k:Nat) (d:Nat->Value),k+l.length=n->(∀j,j<l.length->l[j]? =ops[k+j]?)->
   (∀j,j<k->cX P ops Cs B a0 n d j)->chain P ops Cs B fin l k (dx ops a0 d (λi=>decide (i<k)) n)->
   ∃v,(∀j,j<n->cX P ops Cs B a0 n v j)/\fin (dx ops a0 v (λi=>decide (i<n)) n)
 | [],k,d,hk,_,ht,hc=>by
  have:k=n:=by simpa using hk
  subst this;exact⟨d,ht,hc⟩
 |o::l,k,d,hk,hl,ht,hc=>by
  simp only[kq]at hk;have p:ops.getD k default=o:=by have:=hl 0 (by simp);simp only[List.getElem?_cons_zero,KO]at this;simp[Pw, <-this]
  have z:∀j,j<l.length->l[j]? =ops[k+1+j]? :=λj C=>by
   have:=hl (j+1) (by simp;omega);simpa[Nat.add_assoc,Sm 1 j]using this
  have r:∀x:Value,(cX P ops Cs B a0 n (λj=>if j=k then x else d j) k)->
    chain P ops Cs B fin l (k+1) ((dx ops a0 d (λi=>decide (i<k)) n).put o.dst x)->
    ∃v,(∀j,j<n->cX P ops Cs B a0 n v j)/\fin (dx ops a0 v (λi=>decide (i<n)) n):=by
   intro x F y;refine gd D l (k+1) (λj=>if j=k then x else d j) (by omega) z ?_ ?_
   ·intro j C;by_cases e:j=k
    ·subst e;exact F
    ·exact ik (λi H=>by simp[show i≠k by omega]) (ht j (by omega))
   ·have e:dx ops a0 (λj=>if j=k then x else d j) (λi=>decide (i<k+1)) n=(dx ops a0 d (λi=>decide (i<k)) n).put o.dst x:=by rw[iG _ (k+1) n (by omega),iG _ k n (by omega)];simp only[dx,uf];rw[p,fK (λj=>if j=k then x else d j) d _ k (λj C _=>by simp[show j≠k by omega])]
    rw[e];exact y
  have q:∀x:Value,dx ops a0 (λj=>if j=k then x else d j) (λi=>decide (i<k)) n=dx ops a0 d (λi=>decide (i<k)) n:=λx=>
   fK _ _ _ _ (λj _ E=>by
     have:j<k:=by simpa using E
     simp[show j≠k by omega])
  unfold chain at hc;by_cases h:Region.wanted o (yielded ops (dx ops a0 d (λi=>decide (i<k)) n).tmps)=true
  ·rw[if_pos h]at hc;cases hf:cl Cs k with
   |none=>rw[hf]at hc;obtain⟨x,t,u⟩:=hc;refine r x ?_ u;unfold cX;rw[q x,p];refine⟨λ_=>⟨λ_ s A w=> ?_,λc g=>(by rw[hf]at g;cases g)⟩,λf=>absurd h (by rw[f];simp)⟩;simp only[uf];exact t s A w
   |some c=>
    rw[hf]at hc;obtain⟨x,t,u⟩:=hc;refine r x ?_ u;unfold cX;rw[q x,p];refine⟨λ_=>⟨λg=>(by rw[hf]at g;cases g),λG g A w=> ?_⟩,λf=>absurd h (by rw[f];simp)⟩;rw[hf]at g;cases g
    simp only[uf];exact t A w
  ·rw[if_neg h]at hc;refine r undef ?_ hc.2;unfold cX;rw[q,p];exact⟨λf=>absurd f h,λ_=>⟨hc.1,by simp⟩⟩
structure J (P:Program) (ops:Array Oper) (Cs:List Nat) (B:Nat->World->Prop) (a0:Act) (n:Nat) (v:Nat->Value) (listed:Array Bool) (a:Act) (w:World):Prop where
 inv:HeadInv .any ops n listed
 fr:a=dx ops a0 v (λj=>listed.getD j false) n
 bw:B (Kc Cs listed) w
theorem kD{p:Nat->Bool}:∀L:List Nat,(∀x∈L,p x=true)->L.countP p=L.length
 | [],_=>rfl
 |x::r,h=>by
  rw[List.countP_cons_of_pos (h x (by simp)),kD r (λy c=>h y (by simp[c]))];rfl
theorem pW{p:Nat->Bool}(L:List Nat)(h:∀x∈L,p x=false):L.countP p=0:=Kx.2 (λx c=>by rw[h x c];decide)
theorem pH{n:Nat}{v:Nat->Value}{d:Array Bool}{a:Act}{w:World}{Q:Exit->Act->World->Prop}(ok:OK ops n b)(s:oq b Cs n=true)
  (tr:∀j,j<n->cX P ops Cs B a0 n v j)
  (g:J P ops Cs B a0 n v d a w) {i:Nat} (l:i<n) (R:i∈Region.ready .any ops d):
  wpOp P ops Q i (λa' w'=>J P ops Cs B a0 n v (d.setIfInBounds i true) a' w') a w:=by
 obtain⟨Y,o,O,_⟩:=mem_ready.1 R;have hi:i<ops.size:=(iS.1 O).1;have f:=getD_both Y;have F:=getD_some O;have r:=g.inv.set R l;have C:∀j,j<n->j≠i->(ops.getD j default).dst=none\/(ops.getD j default).dst≠(ops.getD i default).dst:=by
  intro j hj p;rcases Nat.lt_or_gt_of_ne p with h|h
  ·exact ok.Lu j i h l
  ·rcases ok.Lu i j h hj with S|S
   ·by_cases e:(ops.getD j default).dst=none
    ·exact .inl e
    ·right;rw[S];exact e
   ·right;exact nq S
 have q:(d.setIfInBounds i true).getD i false=true:=by
  have:i<d.size:=by rw[g.inv.size];exact hi
  simp[this]
 have E:(λj=>(d.setIfInBounds i true).getD j false)=λj=>if j=i then true else d.getD j false:=by
  funext j;by_cases e:j=i
  ·subst e;rw[q];simp
  ·rw[if_neg e,getD_set_ne false (nq e)]
 have A:=gQ (ops:=ops) (o:=o) (a:=a) (a':=dx ops a0 v (λj=>decide (j<i)) n)
  (Region.noSelect_spec ok.Sx i _ · · O) (λt ht=>by rw[g.fr];exact jF ok g.inv l R v t (by rw[F];exact ht))
 have st:=tr i l;unfold cX at st;rw[F]at st;have D:(dx ops a0 v (λj=>d.getD j false) n).put o.dst (v i)=dx ops a0 v (λj=>(d.setIfInBounds i true).getD j false) n:=by rw[E,iq v _ i n l f C v (λ_ _=>rfl),F]
 have same:cl Cs i=none->Kc Cs (d.setIfInBounds i true)=Kc Cs d:=λh=>by
  have V:=Co Cs i h;unfold Kc;refine List.countP_congr (λc hc=> ?_);have p:i≠c:=λe=>V (by rw[e];exact hc)
  rw[getD_set_ne false p]
 unfold wpOp;simp only[O];rw[A.2];cases hw:Region.wanted o (yielded ops (dx ops a0 v (λj=>decide (j<i)) n).tmps)with
 |false=>simp only[GA,B6];obtain⟨T,h2⟩:=st.2 hw;refine⟨r, ?_,by rw[same T];exact g.bw⟩;rw[g.fr, <-h2];exact D
 |true=>
  simp only[uf];left;obtain⟨s1,s2⟩:=st.1 hw;cases hf:cl Cs i with
  |none=>have e:=s1 hf _ w g.bw;rw[<-A.1]at e;unfold Oper.wp;rw[e];simp only[Oper.upon];exact⟨r,by rw[g.fr];exact D,by rw[same hf];exact g.bw⟩
  |some c=>
   obtain⟨I,K,U,hL⟩:=yh Cs i c hf;unfold oq at s;simp only[ua,GJ,uD]at s;have u:=s.1;have M:=s.2;rw[U]at M u;obtain⟨p1,p2⟩:=zh I K i M;have l1:∀x∈I,d.getD x false=true:=λx H=>fJ ok g.inv R (by have:=u x (by simp[H]);have:=ok.le;omega) (p1 x H)
   have l2:∀y∈K,d.getD y false=false:=λy z=>by
    cases hly:d.getD y false with
    |false=>rfl
    |true=>
     have Z:=u y (by simp[z])
     have:=fx ok g.inv y (by have:=ok.le;omega) hly i (by have:=ok.le;omega) (p2 y z);rw[f]at this;cases this
   have W:Kc Cs d=c:=by unfold Kc;rw[U,Sb,List.countP_cons_of_neg (by rw[f];decide),kD I l1,pW K l2,hL];rfl
   have p:∀y∈K,i≠y:=λy z e=>by
    have T:=p2 y z;have Z:=u y (by simp[z])
    have:=ok.lt y i (by have:=ok.le;omega) (by have:=ok.le;omega) T;omega
   have L:∀x∈I,i≠x:=λx H e=>by have:=l1 x H;rw[<-e,f]at this;cases this
   have X:Kc Cs (d.setIfInBounds i true)=c+1:=by unfold Kc;rw[U,Sb,List.countP_cons_of_pos (by exact q),kD I (λx H=>by rw[getD_set_ne false (L x H)];exact l1 x H),pW K (λy z=>by rw[getD_set_ne false (p y z)];exact l2 y z),hL]
   have N:=s2 c hf w (by rw[<-W];exact g.bw);have G:dC P o a.eval w λy w2=>B (c+1) w2/\y=v i:=by unfold dC at*;rw[A.1];exact N
   refine j7 G ?_;rintro y w2 ⟨hg,rfl⟩;exact⟨r,by rw[g.fr];exact D,by rw[X];exact hg⟩
theorem ux{n:Nat}{v:Nat->Value}{Q:Exit->Act->World->Prop}(ok:OK ops n b)(g:oq b Cs n=true)(V:∀j,j<n->cX P ops Cs B a0 n v j)
  (u:∀w,B Cs.length w->wpList P ops Q (ops.toList.drop n) (dx ops a0 v (λi=>decide (i<n)) n) w):
  ∀(m:Nat) (c:Array Bool) (a:Act) (w:World),left c n=m->J P ops Cs B a0 n v c a w->wpAny P .any ops Q (m+(ops.size-n)) c a w:=by
 intro m;induction m with
 |zero=>
  rintro c a w hm d;have s:∀j,j<n->c.getD j false=true:=by
   intro j f
   have:=Kx.1 hm j (by simpa using f);simpa using this
  have e:c=Array.replicate n true++Array.replicate (ops.size-n) false:=by
   apply Array.ext
   ·rw[d.inv.size];simp;have:=ok.le;omega
   ·intro i C X;by_cases p:i<n
    ·have:=s i p;simp[C]at this;rw[this,Array.getElem_append_left (by simpa using p)];simp
    ·have:=d.inv.tail i (by omega) (by rw[<-d.inv.size];exact C);simp[C]at this;rw[this,Array.getElem_append_right (by simp;omega)];simp
  have O:a=dx ops a0 v (λi=>decide (i<n)) n:=by rw[d.fr];exact mz (by rw[dQ,dQ]) (by rw[dN,dN]) (λt=>gA _ _ _ _ t n (λj f _=>⟨by rw[s j f];simp[f],λ_=>rfl⟩))
  have I:Kc Cs c=Cs.length:=by unfold Kc;refine kD Cs (λx U=>s x ?_);unfold oq at g;simp only[ua,GJ,uD]at g;exact g.1 x U
  have L:=u w (by rw[<-I];exact d.bw);rw[<-O]at L;have l:(ops.toList.drop n).length=ops.size-n:=by simp
  have:=wpAny_of_seq (md:= .any) (Q':=Q) (ops.toList.drop n) n c a w (λj=>by simp[GI]) (by rw[l,e];exact ok.seq) L;rw[l]at this;rw[nW];exact this
 |succ m ih=>
  rintro c a w hm d;rw[show m+1+(ops.size-n)=(m+(ops.size-n))+1 by omega];refine⟨λA=> ?_,λi p=> ?_⟩
  ·exfalso;have D:∃k,k<n/\c.getD k false=false/\∀j,j<k->c.getD j false=true:=by
    have:∀N,N<=n->(∀j,j<N->c.getD j false=true)\/∃k,k<n/\c.getD k false=false/\∀j,j<k->c.getD j false=true:=by
     intro N;induction N with
     |zero=>intro _;left;intro j f;omega
     |succ N ihN=>
      intro Y;rcases ihN (by omega)with h|h
      ·cases s:c.getD N false with
       |false=>right;exact⟨N,by omega,s,h⟩
       |true=>
         left;intro j f;by_cases e:j=N
         ·subst e;exact s
         ·exact h j (by omega)
      ·exact .inr h
    rcases this n (aL _)with h|h
    ·have:left c n=0:=Kx.2 (λj f=>by have:=h j (by simpa using f);simp at this⊢;exact this);omega
    ·exact h
   obtain⟨k,Z,F,z⟩:=D;have r:k<ops.size:=by have:=ok.le;omega
   have:k∈Region.ready .any ops c:=mem_ready.2 ⟨getD_in (by rw[d.inv.size];exact r) F,_,ib r,λe T R=>z e.on (ok.Ig k r e T R).1⟩;rw[A]at this;cases this
  ·have y:i<n:=by
    rcases PQ i n with h|h
    ·exact h
    ·exfalso;obtain⟨_,o,H,_⟩:=mem_ready.1 p;have q:i<ops.size:=(iS.1 H).1
     have:left c n=0:=Kx.2 (λj f=>by
      have E:j<n:=by simpa using f
      have:=fJ ok d.inv p (by omega) (ok.tail i j h q E);simp at this⊢;exact this)
     omega
   obtain⟨K,o,H,_⟩:=mem_ready.1 p;have q:i<ops.size:=(iS.1 H).1;have G:i<c.size:=by rw[d.inv.size];exact q
   have S:left (c.setIfInBounds i true) n=m:=by have:=lZ (n:=n) y G (getD_both K);omega
   exact wpOp_mono (λM W h=>ih _ M W S h) (pH ok g V d y p)
theorem dZ{id:Nat}{Q:Exit->Act->World->Prop}{a:Act}{w:World}{l:List Oper}(n:Nat)(Cs:List Nat)(B:Nat->World->Prop)
  (hm:P.follows .mixedOrders=true) (p:sZ l.toArray n=true) (g:oq (Region.before l.toArray) Cs n=true) (f:B 0 w.drew)
  (h:chain P l.toArray Cs B (λa'=> ∀w',B Cs.length w'->wpList P l.toArray Q (l.drop n) a' w') (l.take n) 0 a):
  (Code.region id l.toArray true).wp P Q a w:=by
 have q:=OK.of p;have z:n<=l.length:=by simpa using q.le
 have y:dx l.toArray a (λ_=>undef) (λi=>decide (i<0)) n=a:=by rw[iG _ 0 n (by omega)];rfl
 obtain⟨v,C,d⟩:=gd (P:=P) (ops:=l.toArray) (Cs:=Cs) (B:=B) (a0:=a) q.le (l.take n) 0 (λ_=>undef) (by simp;omega) (λj r=>by
   have:j<n:=by simp at r;omega
   simp[this]) (λj r=>by omega) (by rw[y];exact h)
 refine wp_region_any hm ?_;have e:HeadInv .any l.toArray n (Array.replicate l.toArray.size false):=
  ⟨by simp,λj D _ s=>(by rw[getD_replicate_false]at s;cases s),λt _ A=>getD_in (by simpa using A) (getD_replicate_false _ _)⟩
 have c:left (Array.replicate l.toArray.size false) n=n:=by
  unfold left
  have:(List.range n).countP (λj=> !(Array.replicate l.toArray.size false).getD j false)=(List.range n).length:=List.countP_eq_length.2 (λj _=>by rw[getD_replicate_false];rfl);rw[this];simp
 have u:J P l.toArray Cs B a n v (Array.replicate l.toArray.size false) a w.drew:=by
  refine⟨e, ?_, ?_⟩
  ·have:(λj=>(Array.replicate l.toArray.size false).getD j false)=λi=>decide (i<0):=by funext j;rw[getD_replicate_false];simp
   rw[this,iG _ 0 n (by omega)];rfl
  ·have:Kc Cs (Array.replicate l.toArray.size false)=0:=pW Cs (λx _=>getD_replicate_false _ _);rw[this];exact f
 have:=ux (Q:=Q) q g C d n _ a w.drew c u;rw[show n+(l.toArray.size-n)=l.toArray.size by simp;omega]at this;exact this
variable {fin:Act->Prop} {o:Oper} {rest:List Oper} {k:Nat} {a:Act}
theorem ae(f:Region.wanted o (yielded ops a.tmps)=true)(e:cl Cs k=none){v:Value}(c:∀s w',B s w'->(execOp a.eval o).run P w'= .ok (.value v) w')
  (d:chain P ops Cs B fin rest (k+1) (a.put o.dst v)):chain P ops Cs B fin (o::rest) k a:=by
 unfold chain;rw[if_pos f,e];exact⟨v,c,d⟩
theorem gO(g:Region.wanted o (yielded ops a.tmps)=true){c:Nat}(f:cl Cs k=some c){x:Value}(d:∀w',B c w'->dC P o a.eval w' λu h=>B (c+1) h/\u=x)
  (e:chain P ops Cs B fin rest (k+1) (a.put o.dst x)):chain P ops Cs B fin (o::rest) k a:=by
 unfold chain;rw[if_pos g,f];exact⟨x,d,e⟩
theorem ax(c:fin a):chain P ops Cs B fin [] k a:=c
end
end Go.Fre7
namespace Go.Free
open Go Go.RowKit

def Jl(ops:Array Oper):Bool:=ops.all λo=>match o.op with
 | .defer _=>false
 |_=>true
theorem Jm{ops:Array Oper}(h:Jl ops=true){i:Nat}{o:Oper}(f:ops[i]? =some o):∀c,o.op≠ .defer c:=by
 intro c d;unfold Jl at h;rw[Array.all_eq_true]at h;obtain⟨e,rfl⟩:=iS.1 f
 have:=h i e;rw[d]at this;cases this
section
variable {P:Program} {l0 m:Nat}
theorem Dx{row:String}{args:Array Value}{w:World}{R:Value->World->Prop}(h:Rows P row args w R):RowsIn (Fence.wide.inRound l0) m P row args w R:=
 λc d _=>let ⟨v,w',r,s⟩:=h c d;⟨v,w',r,stepsIn_wide.2 s⟩
theorem dz{f:FuncId}{args:Array Value}{w:World}{R:Ending->World->Prop}(h:Calls P f args w R):CallsIn (Fence.wide.inRound l0) m P f args w R:=
 CallsIn.inRound l0 (callsIn_wide.2 h)
theorem Ry{o:Oper}{a:Act}{w:World}{next g:Act->World->Prop}{Q:Exit->Act->World->Prop}(l:∀c,o.op≠ .defer c)(i:∀a w,next a w->g a w)(h:o.wp P a w next Q):
  o.wpIn (Fence.wide.inRound l0) m P a w g Q:=by
 refine⟨λ_ _=>trivial, ?_⟩;rw[Fence.inRound_round,Oper.semAt_some _ _ _ l];unfold Oper.wp at h;generalize (execOp a.eval o).run P w=r at h⊢;cases r with
 |halt x w'=>cases x<;>first|exact h|exact h.elim
 |ok x w'=>
  cases x with
  |value v=>exact i _ _ h
  |skip=>exact i _ _ h
  |defer d=>exact i _ _ h
  |enter f args=>
   refine⟨λe=>by simp[Fence.inRound,Fence.wide]at e,dz (Calls.mono h ?_)⟩;intro e n j;cases e<;>first|exact i _ _ j|exact j
  |row r args=>refine⟨λe=>by simp[Fence.inRound,Fence.wide]at e,Dx (Rows.mono h ?_)⟩;intro e n j;exact i _ _ j
  |_=>exact h.elim
end
section
variable {P:Program}
theorem wL{l0 m:Nat}{ops:Array Oper}{Q:Exit->Act->World->Prop}{a:Act}{w:World}{o:Oper}{rest:List Oper}(e:o.guard=none)(d:∀c,o.op≠ .defer c)
  (h:o.wp P a w (wpListIn (Fence.wide.inRound l0) m P ops Q rest) Q):wpListIn (Fence.wide.inRound l0) m P ops Q (o::rest) a w:=by
 unfold wpListIn;rw[if_pos (by simp[Region.wanted,e])];exact Ry d (λ_ _ h=>h) h
theorem fM{l0 m:Nat}{ops:Array Oper}{rest:List Oper}{o:Oper}{a:Act}{w:World}{Q:Exit->Act->World->Prop}(e:o.guard=none)(ty:TypeId)(x y:Operand)(f:o.op= .store ty x y)
  (g:Nat) (cells:Array Value) (p:a.eval x= .pointer (some ⟨g,0,none⟩)) (q:a.eval y= .agg cells)
  (t:TypeId) (ju:Array Value) (l:w.heap[g]? =some (.cells ju t (0,0))) (n:(P.info? ty).map (·.size)=some cells.size)
  (d:ju.size=cells.size) (i:cells.all (·.oneCell')=true)
  (h:wpListIn (Fence.wide.inRound l0) m P ops Q rest (a.put o.dst undef) (w.setRow g cells)):wpListIn (Fence.wide.inRound l0) m P ops Q (o::rest) a w:=
 wL e (by rw[f];exact λc j=>by cases j) (wp_store_row ty x y f g cells p q t ju l n d i h)
end
section
variable {P:Program} {m:Nat}
theorem O2{F:Fence}(q:F=Fence.wide\/∃l0,F=Fence.wide.inRound l0){o:Oper}{a:Act}{w:World}{next g:Act->World->Prop}{Q:Exit->Act->World->Prop}(y:∀c,o.op≠ .defer c)(n:∀a w,next a w->g a w)
  (h:o.wp P a w next (λ_ _ _=>False)):o.wpIn F m P a w g Q:=by
 have z:Oper.semAt F.round a.eval o=execOp a.eval o:=Oper.semAt_eq _ _ _ y;have i:F.depth=none:=by rcases q with rfl|⟨l0,rfl⟩<;>rfl
 have t:∀f,F.fn f:=by rcases q with rfl|⟨l0,rfl⟩<;>exact λ_=>trivial
 have j:∀ {f:FuncId} {args:Array Value} {w:World} {R:Ending->World->Prop},Calls P f args w R->CallsIn F (m-1) P f args w R:=by
  rcases q with rfl|⟨l0,rfl⟩
  ·exact λh=>callsIn_wide.2 h
  ·exact λh=>dz h
 have p:∀ {row:String} {args:Array Value} {w:World} {R:Value->World->Prop},Rows P row args w R->RowsIn F (m-1) P row args w R:=by
  rcases q with rfl|⟨l0,rfl⟩
  ·exact λh c u _=>let ⟨v,w',r,s⟩:=h c u;⟨v,w',r,stepsIn_wide.2 s⟩
  ·exact λh=>Dx h
 refine⟨λ_ _=>t _, ?_⟩;rw[z];unfold Oper.wp at h;generalize (execOp a.eval o).run P w=r at h⊢;cases r with
 |halt x w'=>cases x<;>exact h.elim
 |ok x w'=>
  cases x with
  |value v=>exact n _ _ h
  |skip=>exact n _ _ h
  |defer d=>exact n _ _ h
  |enter f args=>
   refine⟨λe=>(by rw[i]at e;cases e),j (Calls.mono h ?_)⟩;intro e A l;cases e with
   |returned v=>exact n _ _ l
   |panicked ch=>exact l.elim
   |outgrown=>obtain⟨_,_,h⟩:=l;exact h.elim
  |row r args=>refine⟨λe=>(by rw[i]at e;cases e),p (Rows.mono h ?_)⟩;intro e A l;exact n _ _ l
  |_=>exact h.elim
theorem O1{F:Fence}(l:F=Fence.wide\/∃l0,F=Fence.wide.inRound l0){ops:Array Oper}{i:Nat}(n:∀o,ops[i]? =some o->∀c,o.op≠ .defer c){K j:Act->World->Prop}{Q:Exit->Act->World->Prop}{a:Act}{w:World}(e:∀a w,K a w->j a w)
  (h:wpOp P ops (λ_ _ _=>False) i K a w):wpOpIn F m P ops Q i j a w:=by
 have d:∀f,F.fn f:=by rcases l with rfl|⟨l0,rfl⟩<;>exact λ_=>trivial
 unfold wpOp at h;unfold wpOpIn;cases ho:ops[i]? with
 |none=>rw[ho]at h;exact e _ _ h
 |some o=>
  rw[ho]at h;dsimp only at h⊢;split at h
  ·rename_i g;rw[if_pos g];rcases h with h|⟨_,q,r,p⟩
   ·exact O2 l (n o ho) e h
   ·exact p.elim
  ·rename_i g;rw[if_neg g];exact⟨λ_ _=>d _,e _ _ h⟩
theorem xz{F:Fence}{ops:Array Oper}{Q:Exit->Act->World->Prop}{i:Nat}{a:Act}{w:World}{K c:Act->World->Prop}(h:∀a w,K a w->c a w)(d:wpOpIn F m P ops Q i K a w):wpOpIn F m P ops Q i c a w:=wpOpIn_mono h d
theorem oh{F:Fence}{md:Region.Mode}{ops:Array Oper}{Q:Exit->Act->World->Prop}:∀(l:List Oper) (k:Nat) (c:Array Bool) (a:Act) (w:World),(∀j,l[j]? =ops[k+j]?)->
  Region.seqB md ops l.length k c=true->wpListIn F m P ops Q l a w->wpAnyIn F m P md ops Q l.length c a w
 | [],_,_,_,_,_,hB,h=>⟨by simpa[Region.seqB]using hB,h⟩
 |o::l,k,c,a,w,hl,hB,h=>by
  have p:ops[k]? =some o:=by simpa using(hl 0).symm
  simp only[kq,Region.seqB,ua,uD]at hB;refine⟨λe=>(by rw[hB.1]at e;cases e),λi f=> ?_⟩;rw[hB.1]at f;have d:i=k:=by simpa using f
  subst d;have q:wpOpIn F m P ops Q i (wpListIn F m P ops Q l) a w:=by unfold wpOpIn;simp only[p];exact h
  exact xz (λg r n=>oh l (i+1) _ g r (λj=>by have:=hl (j+1);simpa[Nat.add_assoc,Sm 1 j]using this) hB.2 n) q
end
section
variable {P:Program} {ops:Array Oper} {b:Array Nat} {Rs:List (Nat×gN)} {B:World->Prop} {a0:Act}
theorem wZ{F:Fence}(hF:F=Fence.wide\/∃l0,F=Fence.wide.inRound l0){N:Nat}{n:Nat}{w0:World}{Q:Exit->Act->World->Prop}(ok:OK ops n b)(S:∀i,i<n->∀o,ops[i]? =some o->∀c,o.op≠ .defer c)(D:dm Rs)(K:∀w w',B w->Grow w w'->B w')
  (q:∀u,∃v,(∀j,j<n->cX P ops b Rs B a0 n u v j)/\(∀w,B w->Grow w0 w->(∀p∈fQ ops Rs a0 n u v n,p.2 w)->wpListIn F N P ops Q (ops.toList.drop n) (dx ops a0 v (λi=>decide (i<n)) n) w)):
  ∀(m:Nat) (d:Array Bool) (a:Act) (w:World),left d n=m->(∃u v,J P ops b Rs B a0 n w0 u v d a w)->wpAnyIn F N P .any ops Q (m+(ops.size-n)) d a w:=by
 letI:Fre2.Rel:=lB
 intro m;induction m with
 |zero=>
  rintro d a w hm ⟨u,v,f⟩;have s:∀j,j<n->d.getD j false=true:=by
   intro j g
   have:=Kx.1 hm j (by simpa using g);simpa using this
  have e:d=Array.replicate n true++Array.replicate (ops.size-n) false:=by
   apply Array.ext
   ·rw[f.inv.size];simp;have:=ok.le;omega
   ·intro i l X;by_cases y:i<n
    ·have:=s i y;simp[l]at this;rw[this,Array.getElem_append_left (by simpa using y)];simp
    ·have:=f.inv.tail i (by omega) (by rw[<-f.inv.size];exact l);simp[l]at this;rw[this,Array.getElem_append_right (by simp;omega)];simp
  obtain⟨v',W,E⟩:=q u;have I:=jx ok f.inv f.bw f.tr W (λ_ _=>rfl) f.facts;have ef:a=dx ops a0 v' (λi=>decide (i<n)) n:=by rw[f.fr];refine mz (by rw[dQ,dQ]) (by rw[dN,dN]) (λt=>gA _ _ _ _ t n (λj g _=>⟨by rw[s j g];simp[g],λ_=>(I j g (s j g)).1⟩))
  have Y:=E w f.bw f.gw (λp hp=>by
   obtain⟨l,mk,r,hf,V,X⟩:=oH hp;rw[X];exact f.facts p.1 l (s p.1 l) mk r hf (by rw[(I p.1 l (s p.1 l)).2];exact V))
  rw[<-ef]at Y;have x:(ops.toList.drop n).length=ops.size-n:=by simp
  have:=oh (md:= .any) (ops.toList.drop n) n d a w (λj=>by simp[GI]) (by rw[x,e];exact ok.seq) Y;rw[x]at this;rw[nW];exact this
 |succ m ih=>
  rintro d a w hm ⟨u,v,f⟩;rw[show m+1+(ops.size-n)=(m+(ops.size-n))+1 by omega];refine⟨λH=> ?_,λi y=> ?_⟩
  ·exfalso;have L:∃k,k<n/\d.getD k false=false/\∀j,j<k->d.getD j false=true:=by
    have:∀N,N<=n->(∀j,j<N->d.getD j false=true)\/∃k,k<n/\d.getD k false=false/\∀j,j<k->d.getD j false=true:=by
     intro N;induction N with
     |zero=>intro _;left;intro j g;omega
     |succ N ihN=>
      intro hN;rcases ihN (by omega)with h|h
      ·cases s:d.getD N false with
       |false=>right;exact⟨N,by omega,s,h⟩
       |true=>
         left;intro j g;by_cases e:j=N
         ·subst e;exact s
         ·exact h j (by omega)
      ·exact .inr h
    rcases this n (aL _)with h|h
    ·have:left d n=0:=Kx.2 (λj g=>by have:=h j (by simpa using g);simp at this⊢;exact this);omega
    ·exact h
   obtain⟨k,hk,O,G⟩:=L;have C:k<ops.size:=by have:=ok.le;omega
   have:k∈Region.ready .any ops d:=mem_ready.2 ⟨getD_in (by rw[f.inv.size];exact C) O,_,ib C,λe he hb=>G e.on (ok.Ig k C e he hb).1⟩;rw[H]at this;cases this
  ·have z:i<n:=by
    rcases PQ i n with h|h
    ·exact h
    ·exfalso;obtain⟨_,o,T,_⟩:=mem_ready.1 y;have A:i<ops.size:=(iS.1 T).1
     have:left d n=0:=Kx.2 (λj g=>by
      have M:j<n:=by simpa using g
      have:=fJ ok f.inv y (by omega) (ok.tail i j h A M);simp at this⊢;exact this)
     omega
   obtain⟨U,o,T,_⟩:=mem_ready.1 y;have A:i<ops.size:=(iS.1 T).1;have R:i<d.size:=by rw[f.inv.size];exact A
   have hc:left (d.setIfInBounds i true) n=m:=by have:=lZ (n:=n) z R (getD_both U);omega
   exact O1 hF (S i z) (λZ w' h=>ih _ Z w' hc h) (pH ok D K (λu=>let ⟨v,h,_⟩:=q u;⟨v,h⟩) f z y)
end
section
variable {P:Program}
theorem gJ{F:Fence}(G:F=Fence.wide\/∃l0,F=Fence.wide.inRound l0){N id:Nat}{Q:Exit->Act->World->Prop}{a:Act}{w:World}{l:List Oper}(n:Nat)(Rs:List (Nat×gN))(B:World->Prop)
  (hm:P.follows .mixedOrders=true) (A:sZ l.toArray n=true) (z:Jl (l.take n).toArray=true) (f:dm Rs) (s:B w.drew) (x:∀w w',B w->Grow w w'->B w')
  (h:chain P l.toArray (Region.before l.toArray) Rs B (λa' L=> ∀w',B w'->Grow w.drew w'->(∀p∈L,p.2 w')->wpListIn F N P l.toArray Q (l.drop n) a' w') (l.take n) 0 a []):
  (Code.region id l.toArray true).wpIn F N P Q a w:=by
 letI:Fre2.Rel:=lB
 have C:=OK.of A;have I:n<=l.length:=by simpa using C.le
 have d:∀u,∃v,(∀j,j<n->cX P l.toArray (Region.before l.toArray) Rs B a n u v j)/\(∀w',B w'->Grow w.drew w'->(∀p∈fQ l.toArray Rs a n u v n,p.2 w')->wpListIn F N P l.toArray Q (l.toArray.toList.drop n) (dx l.toArray a v (λi=>decide (i<n)) n) w'):=by
  intro u;have E:dx l.toArray a (λ_=>undef) (λi=>decide (i<0)) n=a:=by rw[iG _ 0 n (by omega)];rfl
  exact gd C.le u (l.take n) 0 (λ_=>undef) (by simp;omega) (λj y=>by
   have:j<n:=by simp at y;omega
   simp[this]) (λj y=>by omega) (by rw[E];exact h)
 refine wpIn_region_any hm ?_;have r:HeadInv .any l.toArray n (Array.replicate l.toArray.size false):=
  ⟨by simp,λj R _ g=>(by rw[getD_replicate_false]at g;cases g),λt _ M=>getD_in (by simpa using M) (getD_replicate_false _ _)⟩
 obtain⟨v,O,_⟩:=d (λ_=>0);have e:left (Array.replicate l.toArray.size false) n=n:=by
  unfold left
  have:(List.range n).countP (λj=> !(Array.replicate l.toArray.size false).getD j false)=(List.range n).length:=List.countP_eq_length.2 (λj _=>by rw[getD_replicate_false];rfl);rw[this];simp
 have D:J P l.toArray (Region.before l.toArray) Rs B a n w.drew (λ_=>0) v (Array.replicate l.toArray.size false) a w.drew:=by
  refine⟨r,O, ?_,s,Grow.refl _,λj y g=>(by rw[getD_replicate_false]at g;cases g)⟩
  have:(λj=>(Array.replicate l.toArray.size false).getD j false)=λi=>decide (i<0):=by funext j;rw[getD_replicate_false];simp
  rw[this,iG _ 0 n (by omega)];rfl
 have q:∀i,i<n->∀o,l.toArray[i]? =some o->∀c,o.op≠ .defer c:=λi H o K=>Jm (ops:=(l.take n).toArray) z (i:=i) (by simpa[qC,H]using K)
 have:=wZ (w0:=w.drew) (Q:=Q) (N:=N) G C q f x d n _ a w.drew e ⟨_,v,D⟩;rw[show n+(l.toArray.size-n)=l.toArray.size by simp;omega]at this;exact this
end
end Go.Free
