/- A region that draws its order: each operation is shown once, in the order of the text, in every world that the others may have made. Condition: every operation but the forced end of the region only reads or makes new memory. -/
import Derived.Test.YtkmbmfengcdmoaaGreatDoorA0
import Derived.WalkKit
import Derived.StillTail
import Derived.Lib.Hide
set_option linter.all false
namespace Go.Free
open Go Go.RowKit
def Grow(w w':World):Prop:=Below w.heap.size w w'
theorem Grow.refl(w:World):Grow w w:=Below.refl _ _
theorem Grow.trans{a b c:World}(h:Grow a b)(k:Grow b c):Grow a c:=Below.trans h (Below.mono k h.size)
theorem Grow.alloc(w:World)(o:Obj):Grow w (w.alloc o):=(Below.refl _ _).alloc (aL _) _

def dC(P:Program)(o:Oper)(ρ:Operand->Value)(w:World)(K:Value->World->Prop):Prop:=
 match (execOp ρ o).run P w with
 | .ok (.value v) w'=>K v w'
 | .ok (.enter f args) w'=>Calls P f args w' fun
   | .returned v,w''=>K v w''
   |_,_=>False
 |_=>False

theorem j7{P:Program}{o:Oper}{a:Act}{w:World}{K:Value->World->Prop}{next:Act->World->Prop}{Q:Exit->Act->World->Prop}
  (h:dC P o a.eval w K) (d:∀v w',K v w'->next (a.put o.dst v) w'):o.wp P a w next Q:=by
 unfold dC at h;unfold Oper.wp;generalize (execOp a.eval o).run P w=r at h;cases r with
 |halt x w'=>exact h.elim
 |ok x w'=>
  cases x<;>simp only[Oper.upon]at h⊢
  case value v=>exact d _ _ h
  case enter f args=>
   refine h.mono ?_;intro e g c;cases e<;>first|exact d _ _ c|exact c.elim
  all_goals exact h.elim

inductive gN where
 |det (x:Value)
 |ind (mk:Nat->Value) (r:Nat->World->Prop)

def find:List (Nat×gN)->Nat->Option gN
 | [],_=>none
 |(j,x)::r,k=>if j=k then some x else find r k

def mB(b:Array Nat)(k j:Nat):Bool:=(b.getD k 0).testBit j

def s7(ops:Array Oper)(n:Nat)(b:Array Nat):Bool:=
 Region.noSelect ops&&decide (n<=ops.size)&&
 ((List.range ops.size).all λk=>((ops.getD k default).after.all λe=> !Region.binds .any e||(decide (e.on<k)&&mB b k e.on))&&
  ((List.range ops.size).all λj=> !mB b k j||(decide (j<k)&&((List.range j).all λi=> !mB b j i||mB b k i)&&(ops.getD k default).after.any λe=>Region.binds .any e&&(e.on==j||mB b e.on j))))&&
 ((List.range n).all λk=>((ops.getD k default).looksAt ops).all λt=>(List.range n).all λj=>j==k||(ops.getD j default).dst !=some t||mB b k j||mB b j k)&&
 ((List.range n).all λk=>(List.range k).all λj=>(ops.getD j default).dst==none||(ops.getD j default).dst !=(ops.getD k default).dst)&&
 ((List.range (ops.size-n)).all λt=>(List.range n).all λi=>mB b (n+t) i)&&
 Region.seqB .any ops (ops.size-n) n (Array.replicate n true++Array.replicate (ops.size-n) false)
def sZ(ops:Array Oper)(n:Nat):Bool:=s7 ops n (Region.before ops)

section
variable (P:Program) (ops:Array Oper) (b:Array Nat) (Rs:List (Nat×gN)) (B:World->Prop)
def dx(a0:Act)(v:Nat->Value)(S:Nat->Bool):Nat->Act
 |0=>a0
 |k+1=>if S k then(dx a0 v S k).put ((ops.getD k default).dst) (v k)else dx a0 v S k
end

section
variable {P:Program} {ops:Array Oper} {b:Array Nat} {Rs:List (Nat×gN)} {B:World->Prop} {a0:Act}

theorem put_defers(a:Act)(d:Option Tmp)(v:Value):(a.put d v).defers=a.defers:=by cases d<;>rfl
theorem oV(a:Act)(d:Option Tmp)(v:Value):(a.put d v).tmps.size=a.tmps.size:=by cases d<;>simp[Act.put]
theorem gY(a:Act)(d:Option Tmp)(v:Value)(t:Nat)(h:d≠some t):(a.put d v).tmps[t]? =a.tmps[t]? :=by
 cases d with
 |none=>rfl
 |some d=>simp only[Act.put];rw[NM (λe=>h (by rw[e]))]
theorem gX(a:Act)(v:Value)(t:Nat):(a.put (some t) v).tmps[t]? =if t<a.tmps.size then some v else none:=by simp only[Act.put];rw[Array.getElem?_setIfInBounds_self]

theorem dQ(v:Nat->Value)(S:Nat->Bool)(k:Nat):(dx ops a0 v S k).defers=a0.defers:=by
 induction k with
 |zero=>rfl
 |succ k ih=>simp only[dx];split<;>simp[put_defers,ih]
theorem dN(v:Nat->Value)(S:Nat->Bool)(k:Nat):(dx ops a0 v S k).tmps.size=a0.tmps.size:=by
 induction k with
 |zero=>rfl
 |succ k ih=>simp only[dx];split<;>simp[oV,ih]
theorem gA(v e:Nat->Value)(S c:Nat->Bool)(t:Nat)(k:Nat)
  (h:∀j,j<k->(ops.getD j default).dst=some t->S j=c j/\(S j=true->v j=e j)):
  (dx ops a0 v S k).tmps[t]? =(dx ops a0 e c k).tmps[t]? :=by
 induction k with
 |zero=>rfl
 |succ k ih=>
  have f:=ih (λj n d=>h j (by omega) d);by_cases d:(ops.getD k default).dst=some t
  ·obtain⟨g,m⟩:=h k (by omega) d;simp only[dx,d];cases hs:S k with
   |false=>rw[hs]at g;simp only[<-g,GA,B6];exact f
   |true=>rw[hs]at g;simp only[<-g,uf];rw[gX,gX,dN,dN,m hs]
  ·simp only[dx];have i:(if S k=true then(dx ops a0 v S k).put (ops.getD k default).dst (v k)else dx ops a0 v S k).tmps[t]? =(dx ops a0 v S k).tmps[t]? :=by
    split
    ·exact gY _ _ _ _ d
    ·rfl
   have l:(if c k=true then(dx ops a0 e c k).put (ops.getD k default).dst (e k)else dx ops a0 e c k).tmps[t]? =(dx ops a0 e c k).tmps[t]? :=by
    split
    ·exact gY _ _ _ _ d
    ·rfl
   rw[i,l];exact f

theorem mz{a a':Act}(c:a.defers=a'.defers)(e:a.tmps.size=a'.tmps.size)(d:∀t:Nat,a.tmps[t]? =a'.tmps[t]?):a=a':=by
 cases a;cases a'
 simp only[Act.mk.injEq];exact⟨Array.ext_getElem? d,c⟩
theorem iq(v:Nat->Value)(S:Nat->Bool)(i n:Nat)(q:i<n)(w:S i=false)
  (p:∀j,j<n->j≠i->(ops.getD j default).dst=none\/(ops.getD j default).dst≠(ops.getD i default).dst) (f:Nat->Value) (hv:∀j,S j=true->v j=f j):
  dx ops a0 f (λj=>if j=i then true else S j) n=(dx ops a0 v S n).put (ops.getD i default).dst (f i):=by
 refine mz (by rw[dQ,put_defers,dQ]) (by rw[dN,oV,dN]) (λt=> ?_);by_cases c:(ops.getD i default).dst=some t
 ·rw[c,gX,dN];have key:∀k,i<k->k<=n->(dx ops a0 f (λj=>if j=i then true else S j) k).tmps[t]? =if t<a0.tmps.size then some (f i)else none:=by
   intro k;induction k with
   |zero=>intro h;omega
   |succ k ih=>
    intro s u;by_cases e:k=i
    ·subst e;simp only[dx,uf];rw[c,gX,dN]
    ·have d:=ih (by omega) (by omega);simp only[dx,if_neg e];split
     ·rw[gY _ _ _ _ (λm=> ?_)]
      ·exact d
      ·rcases p k (by omega) e with g|g
       ·rw[g]at m;cases m
       ·exact g (m.trans c.symm)
     ·exact d
  exact key n q (aL _)
 ·rw[gY _ _ _ _ c];refine gA _ _ _ _ t n (λj x l=> ?_);by_cases e:j=i
  ·subst e;exact absurd l c
  ·simp only[if_neg e,true_and];intro r;exact(hv j r).symm

structure OK (ops:Array Oper) (n:Nat) (b:Array Nat):Prop where
 Sx:Region.noSelect ops=true
 le:n<=ops.size
 Ig:∀k,k<ops.size->∀e∈ (ops.getD k default).after,Region.binds .any e=true->e.on<k/\mB b k e.on=true
 lt:∀k j,k<ops.size->j<ops.size->mB b k j=true->j<k
 tr:∀k j i,k<ops.size->j<ops.size->i<j->mB b k j=true->mB b j i=true->mB b k i=true
 back:∀k j,k<ops.size->j<ops.size->mB b k j=true->∃e∈ (ops.getD k default).after,Region.binds .any e=true/\(e.on=j\/mB b e.on j=true)
 looks:∀k,k<n->∀t∈ (ops.getD k default).looksAt ops,∀j,j<n->j≠k->(ops.getD j default).dst=some t->mB b k j=true\/mB b j k=true
 Lu:∀j k,j<k->k<n->(ops.getD j default).dst=none\/(ops.getD j default).dst≠(ops.getD k default).dst
 tail:∀t i,n<=t->t<ops.size->i<n->mB b t i=true
 seq:Region.seqB .any ops (ops.size-n) n (Array.replicate n true++Array.replicate (ops.size-n) false)=true

theorem OK.of{n:Nat}(h:s7 ops n b=true):OK ops n b:=by
 simp only[s7,ua,uD,GJ,R2,Array.all_eq_true_iff_forall_mem,Bool.or_eq_true,Bool.not_eq_true',Array.any_eq_true',beq_iff_eq,bne_iff_ne,ne_eq]at h;obtain⟨⟨⟨⟨⟨⟨s,u⟩,m⟩,v⟩,w⟩,x⟩,y⟩:=h;refine⟨s,u, ?_, ?_, ?_, ?_, ?_, ?_, ?_,y⟩
 ·intro k c e A d;rcases(m k c).1 e A with h|h
  ·rw[d]at h;cases h
  ·exact h
 ·intro k j c f d;rcases(m k c).2 j f with h|h
  ·rw[d]at h;cases h
  ·exact h.1.1
 ·intro k j i c f q d p;rcases(m k c).2 j f with h|h
  ·rw[d]at h;cases h
  ·rcases h.1.2 i q with l|l
   ·rw[p]at l;cases l
   ·exact l
 ·intro k j c f d;rcases(m k c).2 j f with h|h
  ·rw[d]at h;cases h
  ·exact h.2
 ·intro k c t r j f g z;rcases v k c t r j f with((h|h)|h)|h
  ·exact absurd h g
  ·exact absurd z h
  ·exact .inl h
  ·exact .inr h
 ·intro j k g c;exact w k c j g
 ·intro t i r C q
  have:=x (t-n) (by omega) i q
  rwa[show n+(t-n)=t by omega]at this
def lE(ops:Array Oper)(b:Array Nat)(Rs:List (Nat×gN))(a0:Act)(n:Nat)(u:Nat->Nat)(v:Nat->Value)(k:Nat)(w:World):Prop:=
 ∀j,j<k->mB b k j=true->∀mk r,find Rs j=some (.ind mk r)->Region.wanted (ops.getD j default) (yielded ops (dx ops a0 v (λi=>decide (i<j)) n).tmps)=true->r (u j) w

theorem iG(v:Nat->Value)(k n:Nat)(c:k<=n):dx ops a0 v (λi=>decide (i<k)) n=dx ops a0 v (λ_=>true) k:=by
 induction n with
 |zero=>
   have:k=0:=by omega
   subst this;rfl
 |succ n ih=>
  by_cases e:k=n+1
  ·subst e
   have:∀m,m<=n+1->dx ops a0 v (λi=>decide (i<n+1)) m=dx ops a0 v (λ_=>true) m:=by
    intro m;induction m with
    |zero=>intro _;rfl
    |succ m ihm=>intro hm;simp only[dx];rw[ihm (by omega)];simp[show m<n+1 by omega]
   exact this _ (aL _)
  ·simp only[dx];rw[if_neg (by simp;omega)];exact ih (by omega)

theorem fK(v d:Nat->Value)(S:Nat->Bool)(k:Nat)(h:∀j,j<k->S j=true->v j=d j):dx ops a0 v S k=dx ops a0 d S k:=by
 induction k with
 |zero=>rfl
 |succ k ih=>
  simp only[dx];rw[ih (λj e=>h j (by omega))];by_cases c:S k=true
  ·rw[if_pos c,if_pos c,h k (by omega) c]
  ·rw[if_neg c,if_neg c]
def fQ(ops:Array Oper)(Rs:List (Nat×gN))(a0:Act)(n:Nat)(u:Nat->Nat)(v:Nat->Value):Nat->List (Nat×(World->Prop))
 |0=> []
 |k+1=>
  if Region.wanted (ops.getD k default) (yielded ops (dx ops a0 v (λi=>decide (i<k)) n).tmps)then
   match find Rs k with
   |some (.ind _ r)=>(k,r (u k))::fQ ops Rs a0 n u v k
   |_=>fQ ops Rs a0 n u v k
  else fQ ops Rs a0 n u v k

theorem oH{n:Nat}{u:Nat->Nat}{v:Nat->Value}{k:Nat}{p:Nat×(World->Prop)}(h:p∈fQ ops Rs a0 n u v k):
  p.1<k/\∃d r,find Rs p.1=some (.ind d r)/\Region.wanted (ops.getD p.1 default) (yielded ops (dx ops a0 v (λi=>decide (i<p.1)) n).tmps)=true/\p.2=r (u p.1):=by
 induction k with
 |zero=>cases h
 |succ k ih=>
  simp only[fQ]at h;have c:p∈fQ ops Rs a0 n u v k->p.1<k+1/\∃d r,find Rs p.1=some (.ind d r)/\Region.wanted (ops.getD p.1 default) (yielded ops (dx ops a0 v (λi=>decide (i<p.1)) n).tmps)=true/\p.2=r (u p.1):=λf=>
   let ⟨h1,h2⟩:=ih f;⟨by omega,h2⟩
  split at h
  ·rename_i g;split at h
   ·rename_i d r e;rcases lC.1 h with rfl|h
    ·exact⟨by simp,d,r,e,g,rfl⟩
    ·exact c h
   ·exact c h
  ·exact c h

theorem sN{n:Nat}{u:Nat->Nat}{v c:Nat->Value}{k:Nat}(g:k<=n)(h:∀j,j<k->v j=c j):fQ ops Rs a0 n u v k=fQ ops Rs a0 n u c k:=by
 induction k with
 |zero=>rfl
 |succ k ih=>have e:dx ops a0 v (λi=>decide (i<k)) n=dx ops a0 c (λi=>decide (i<k)) n:=fK _ _ _ _ (λj _ d=>h j (by simp at d;omega));simp only[fQ];rw[e,ih (by omega) (λj f=>h j (by omega))]

theorem getD_some{k:Nat}{o:Oper}(h:ops[k]? =some o):ops.getD k default=o:=by simp[Pw,h]
theorem ib{k:Nat}(h:k<ops.size):ops[k]? =some (ops.getD k default):=by simp[Pw,h]

theorem fx{n:Nat}{c:Array Bool}(ok:OK ops n b)(g:HeadInv .any ops n c):∀k,k<ops.size->c.getD k false=true->∀j,j<ops.size->mB b k j=true->c.getD j false=true:=by
 intro k;induction k using Nat.strongRecOn with
 |_ k ih=>
  intro f r j m q;obtain⟨e,l,d,h⟩:=ok.back k j f m q;have i:=g.closed k _ (ib f) r e l d;have p:=ok.Ig k f e l d;rcases h with rfl|h
  ·exact i
  ·exact ih e.on p.1 (by omega) i j m h

theorem fJ{n:Nat}{c:Array Bool}(ok:OK ops n b)(l:HeadInv .any ops n c){k:Nat}(s:k∈Region.ready .any ops c){j:Nat}(p:j<ops.size)(r:mB b k j=true):c.getD j false=true:=by
 obtain⟨t,o,i,d⟩:=mem_ready.1 s;have q:k<ops.size:=(iS.1 i).1;obtain⟨e,g,f,h⟩:=ok.back k j q p r;rw[getD_some i]at g;have m:=d e g f;rcases h with rfl|h
 ·exact m
 ·exact fx ok l e.on (by have:=ok.Ig k q e (by rw[getD_some i];exact g) f;omega) m j p h
theorem jF{n:Nat}{c:Array Bool}(ok:OK ops n b)(g:HeadInv .any ops n c){k:Nat}(m:k<n)(q:k∈Region.ready .any ops c)(v:Nat->Value)
  (t:Nat) (w:t∈ (ops.getD k default).looksAt ops):(dx ops a0 v (λj=>c.getD j false) n).tmps[t]? =(dx ops a0 v (λi=>decide (i<k)) n).tmps[t]? :=by
 obtain⟨x,o,u,p⟩:=mem_ready.1 q;have l:k<ops.size:=(iS.1 u).1;have f:=getD_both x;refine gA _ _ _ _ t n (λj s r=>⟨?_,λ_=>rfl⟩);have d:j<ops.size:=by have:=ok.le;omega
 by_cases e:j=k
 ·subst e;rw[f];simp
 ·rcases ok.looks k m t w j s e r with h|h
  ·rw[fJ ok g q d h];simp[ok.lt k j l d h]
  ·have:c.getD j false=false:=by
    cases hl:c.getD j false with
    |false=>rfl
    |true=>have:=fx ok g j d hl k l h;rw[f]at this;cases this
   rw[this];have:=ok.lt j k d l h;simp;omega

theorem gQ{o:Oper}(d:∀cs b,o.op≠ .select cs b){a a':Act}(h:∀t,t∈o.looksAt ops->a.tmps[t]? =a'.tmps[t]?):
  execOp a.eval o=execOp a'.eval o/\Region.wanted o (yielded ops a.tmps)=Region.wanted o (yielded ops a'.tmps):=by
 constructor
 ·refine execOp_congr o d (λx e=> ?_);cases x with
  |tmp t=>have:t∈o.looksAt ops:=List.mem_append_left _ (List.mem_filterMap.2 ⟨.tmp t,by simpa using e,rfl⟩);simp only[Act.eval,Pw,h t this]
  |_=>rfl
 ·unfold Region.wanted;cases hg:o.guard with
  |none=>rfl
  |some gw=>
   obtain⟨g,c⟩:=gw;simp only;have f:yielded ops a.tmps g=yielded ops a'.tmps g:=by
    unfold yielded;cases ht:(ops[g]?).bind (·.dst)with
    |none=>rfl
    |some t=>
     have:t∈o.looksAt ops:=by simp[Oper.looksAt,hg,ht]
     simp only[Option.bind_some,h t this]
   rw[f]

def left(listed:Array Bool)(n:Nat):Nat:=(List.range n).countP (λj=> !listed.getD j false)
theorem lZ{c:Array Bool}{n i:Nat}(g:i<n)(d:i<c.size)(h:c.getD i false=false):left (c.setIfInBounds i true) n+1=left c n:=by
 induction n with
 |zero=>omega
 |succ n ih=>
  unfold left at*;rw[RX,Sb,Sb];by_cases e:i=n
  ·subst e
   have:(List.range i).countP (λj=> !(c.setIfInBounds i true).getD j false)=(List.range i).countP (λj=> !c.getD j false):=by
    refine List.countP_congr (λj f=> ?_)
    have:j<i:=by simpa using f
    rw[getD_set_ne false (by omega)]
   rw[this];simp[d]at h;simp[d,h]
  ·have:=ih (by omega);simp only[List.countP_singleton];rw[getD_set_ne false e];omega

variable {fin:Act->List (Nat×(World->Prop))->Prop} {o:Oper} {rest:List Oper} {k:Nat} {a:Act} {h:List (Nat×(World->Prop))}
theorem cq{w:World}{K:Value->World->Prop}{ρ:Operand->Value}{v:Value}{w':World}(h:(execOp ρ o).run P w= .ok (.value v) w')(c:K v w'):dC P o ρ w K:=by unfold dC;rw[h];exact c
theorem au{w:World}{K:Value->World->Prop}{ρ:Operand->Value}{f:FuncId}{args:Array Value}(h:(execOp ρ o).run P w= .ok (.enter f args) w)
  (c:Calls P f args w λe w'=> ∃v,e= .returned v/\K v w'):dC P o ρ w K:=by
 unfold dC;rw[h];refine c.mono ?_;rintro e w' ⟨v,rfl,hv⟩;exact hv
end
theorem Gy{o:Oper}{ops:Array Oper}{a:Act}{j t:Nat}{b:Bool}(c:o.guard=some (j,b))(d:(ops[j]?).bind (·.dst)=some t)(e:a.tmps[t]? =some (.bool b)):Region.wanted o (yielded ops a.tmps)=true:=by unfold Region.wanted yielded;rw[c];simp only[d,Option.bind_some,e];simp
def TY(o:Oper)(ops:Array Oper)(ts:Array Value):Bool:=
 match o.guard with
 |none=>true
 |some (j,b)=>match (ops[j]?).bind (·.dst)with
  |none=>false
  |some t=>match ts[t]? with
   |some (.bool c)=>c==b
   |_=>false
theorem wq{o:Oper}{ops:Array Oper}{a:Act}(h:TY o ops a.tmps=true):Region.wanted o (yielded ops a.tmps)=true:=by
 unfold TY at h;split at h
 ·rename_i d;unfold Region.wanted;rw[d]
 ·rename_i j b d;split at h
  ·cases h
  ·rename_i t f;split at h
   ·rename_i c g;have e:c=b:=by simpa using h
    exact Gy d f (e▸g)
   ·cases h
attribute [irreducible] dC
end Go.Free
namespace Go.Fre2
open Go Go.RowKit
open Go.Free (dC j7 gN find mB s7 sZ dx put_defers oV gY gX dQ dN gA mz iq OK lE iG fK fQ oH sN getD_some ib fx fJ jF gQ left lZ)
class Rel where
 R:World->World->Prop
 refl:∀w,R w w
 trans:∀a b c,R a b->R b c->R a c
def Grow[Rel](w w':World):Prop:=Rel.R w w'
theorem Grow.refl[Rel](w:World):Grow w w:=Rel.refl w
theorem Grow.trans[Rel]{a b c:World}(h:Grow a b)(k:Grow b c):Grow a c:=Rel.trans _ _ _ h k
variable [Rel]

section
variable (P:Program) (ops:Array Oper) (b:Array Nat) (Rs:List (Nat×gN)) (B:World->Prop)
def chain(fin:Act->List (Nat×(World->Prop))->Prop):List Oper->Nat->Act->List (Nat×(World->Prop))->Prop
 | [],_,a,h=>fin a h
 |o::rest,k,a,h=>
  if Region.wanted o (yielded ops a.tmps)then
   match find Rs k with
   |none=> ∃v,(∀w',B w'->(∀p∈h,mB b k p.1=true->p.2 w')->(execOp a.eval o).run P w'= .ok (.value v) w')/\chain fin rest (k+1) (a.put o.dst v) h
   |some (.det x)=>(∀w',B w'->(∀p∈h,mB b k p.1=true->p.2 w')->dC P o a.eval w' λu w2=>Grow w' w2/\u=x)/\chain fin rest (k+1) (a.put o.dst x) h
   |some (.ind mk r)=>(∀w',B w'->(∀p∈h,mB b k p.1=true->p.2 w')->dC P o a.eval w' λu w2=>Grow w' w2/\∃x,u=mk x/\r x w2)/\
     ∀x,chain fin rest (k+1) (a.put o.dst (mk x)) ((k,r x)::h)
  else chain fin rest (k+1) (a.put o.dst undef) h
end
section
variable {P:Program} {ops:Array Oper} {b:Array Nat} {Rs:List (Nat×gN)} {B:World->Prop} {a0:Act}
def lE(ops:Array Oper)(b:Array Nat)(Rs:List (Nat×gN))(a0:Act)(n:Nat)(u:Nat->Nat)(v:Nat->Value)(k:Nat)(w:World):Prop:=
 ∀j,j<k->mB b k j=true->∀mk r,find Rs j=some (.ind mk r)->Region.wanted (ops.getD j default) (yielded ops (dx ops a0 v (λi=>decide (i<j)) n).tmps)=true->r (u j) w
def cX(P:Program)(ops:Array Oper)(b:Array Nat)(Rs:List (Nat×gN))(B:World->Prop)(a0:Act)(n:Nat)(u:Nat->Nat)(v:Nat->Value)(k:Nat):Prop:=
 (Region.wanted (ops.getD k default) (yielded ops (dx ops a0 v (λi=>decide (i<k)) n).tmps)=true->
  (find Rs k=none->∀w',B w'->lE ops b Rs a0 n u v k w'->(execOp (dx ops a0 v (λi=>decide (i<k)) n).eval (ops.getD k default)).run P w'= .ok (.value (v k)) w')/\
  (∀x,find Rs k=some (.det x)->v k=x/\∀w',B w'->lE ops b Rs a0 n u v k w'->dC P (ops.getD k default) (dx ops a0 v (λi=>decide (i<k)) n).eval w' λy w2=>Grow w' w2/\y=x)/\
  (∀mk r,find Rs k=some (.ind mk r)->v k=mk (u k)/\∀w',B w'->lE ops b Rs a0 n u v k w'->dC P (ops.getD k default) (dx ops a0 v (λi=>decide (i<k)) n).eval w' λy w2=>Grow w' w2/\∃x,y=mk x/\r x w2))/\
 (Region.wanted (ops.getD k default) (yielded ops (dx ops a0 v (λi=>decide (i<k)) n).tmps)=false->v k=undef)
theorem ik{n:Nat}{u:Nat->Nat}{v p:Nat->Value}{k:Nat}(h:∀j,j<k+1->v j=p j)(l:cX P ops b Rs B a0 n u v k):cX P ops b Rs B a0 n u p k:=by
 have e:∀i,i<=k->dx ops a0 v (λj=>decide (j<i)) n=dx ops a0 p (λj=>decide (j<i)) n:=λi D=>fK _ _ _ _ (λj _ l=>h j (by simp at l;omega))
 have q:∀w,lE ops b Rs a0 n u p k w->lE ops b Rs a0 n u v k w:=by intro w f j C g m r c s;exact f j C g m r c (by rw[<-e j (by omega)];exact s)
 have z:=h k (by omega);unfold cX at*;rw[<-e k (aL _), <-z];refine⟨λs=> ?_,l.2⟩;obtain⟨A,t,y⟩:=l.1 s;exact⟨λc d g f=>A c d g (q d f),λx c=>⟨(t x c).1,λd g f=>(t x c).2 d g (q d f)⟩,λm r c=>⟨(y m r c).1,λd g f=>(y m r c).2 d g (q d f)⟩⟩
theorem gd{n:Nat}{fin:Act->List (Nat×(World->Prop))->Prop}(O:n<=ops.size)(u:Nat->Nat):
  ∀(l:List Oper) (k:Nat) (d:Nat->Value),k+l.length=n->(∀j,j<l.length->l[j]? =ops[k+j]?)->
   (∀j,j<k->cX P ops b Rs B a0 n u d j)->chain P ops b Rs B fin l k (dx ops a0 d (λi=>decide (i<k)) n) (fQ ops Rs a0 n u d k)->
   ∃v,(∀j,j<n->cX P ops b Rs B a0 n u v j)/\fin (dx ops a0 v (λi=>decide (i<n)) n) (fQ ops Rs a0 n u v n)
 | [],k,d,hk,_,ht,hc=>by
  have:k=n:=by simpa using hk
  subst this;exact⟨d,ht,hc⟩
 |o::l,k,d,hk,hl,ht,hc=>by
  simp only[kq]at hk;have E:ops.getD k default=o:=by have:=hl 0 (by simp);simp only[List.getElem?_cons_zero,KO]at this;simp[Pw, <-this]
  have M:∀j,j<l.length->l[j]? =ops[k+1+j]? :=λj L=>by
   have:=hl (j+1) (by simp;omega);simpa[Nat.add_assoc,Sm 1 j]using this
  -- the step to k+1,at a value x
  have I:∀x:Value,(cX P ops b Rs B a0 n u (λj=>if j=k then x else d j) k)->
    chain P ops b Rs B fin l (k+1) ((dx ops a0 d (λi=>decide (i<k)) n).put o.dst x) (fQ ops Rs a0 n u (λj=>if j=k then x else d j) (k+1))->
    ∃v,(∀j,j<n->cX P ops b Rs B a0 n u v j)/\fin (dx ops a0 v (λi=>decide (i<n)) n) (fQ ops Rs a0 n u v n):=by
   intro x R K;refine gd O u l (k+1) (λj=>if j=k then x else d j) (by omega) M ?_ ?_
   ·intro j L;by_cases e:j=k
    ·subst e;exact R
    ·exact ik (λi S=>by simp[show i≠k by omega]) (ht j (by omega))
   ·have e:dx ops a0 (λj=>if j=k then x else d j) (λi=>decide (i<k+1)) n=(dx ops a0 d (λi=>decide (i<k)) n).put o.dst x:=by rw[iG _ (k+1) n (by omega),iG _ k n (by omega)];simp only[dx,uf];rw[E,fK (λj=>if j=k then x else d j) d _ k (λj L _=>by simp[show j≠k by omega])]
    rw[e];exact K
  have F:∀x:Value,dx ops a0 (λj=>if j=k then x else d j) (λi=>decide (i<k)) n=dx ops a0 d (λi=>decide (i<k)) n:=λx=>
   fK _ _ _ _ (λj _ Q=>by
     have:j<k:=by simpa using Q
     simp[show j≠k by omega])
  have H:∀x:Value,fQ ops Rs a0 n u (λj=>if j=k then x else d j) k=fQ ops Rs a0 n u d k:=λx=>
   sN (by omega) (λj L=>by simp[show j≠k by omega])
  have J:∀(x:Value) w,lE ops b Rs a0 n u (λj=>if j=k then x else d j) k w->∀p∈fQ ops Rs a0 n u d k,mB b k p.1=true->p.2 w:=by intro x w C p N D;rw[<-H x]at N;obtain⟨t,G,r,g,q,A⟩:=oH N;rw[A];exact C p.1 t D G r g q
  unfold chain at hc;by_cases q:Region.wanted o (yielded ops (dx ops a0 d (λi=>decide (i<k)) n).tmps)=true
  ·rw[if_pos q]at hc;cases g:find Rs k with
   |none=>
    rw[g]at hc;obtain⟨x,t,A⟩:=hc;refine I x ?_ ?_
    ·unfold cX;rw[F x,E];refine⟨λ_=>⟨λ_ s D C=> ?_,λy f=>(by rw[g]at f;cases f),λG r f=>(by rw[g]at f;cases f)⟩,λm=>absurd q (by rw[m];simp)⟩;simp only[uf];exact t s D (J x s C)
    ·have:fQ ops Rs a0 n u (λj=>if j=k then x else d j) (k+1)=fQ ops Rs a0 n u d k:=by simp only[fQ,g];rw[H x];split<;>rfl
     rw[this];exact A
   |some c=>
    cases c with
    |det y=>
     rw[g]at hc;obtain⟨t,A⟩:=hc;refine I y ?_ ?_
     ·unfold cX;rw[F y,E];refine⟨λ_=>⟨λf=>(by rw[g]at f;cases f),λz f=> ?_,λG r f=>(by rw[g]at f;cases f)⟩,λm=>absurd q (by rw[m];simp)⟩;rw[g]at f;cases f
      exact⟨by simp,λs D C=>t s D (J y s C)⟩
     ·have:fQ ops Rs a0 n u (λj=>if j=k then y else d j) (k+1)=fQ ops Rs a0 n u d k:=by simp only[fQ,g];rw[H y];split<;>rfl
      rw[this];exact A
    |ind G r=>
     rw[g]at hc;obtain⟨t,A⟩:=hc;refine I (G (u k)) ?_ ?_
     ·unfold cX;rw[F,E];refine⟨λ_=>⟨λf=>(by rw[g]at f;cases f),λz f=>(by rw[g]at f;cases f),λmk' T f=> ?_⟩,λm=>absurd q (by rw[m];simp)⟩;rw[g]at f;cases f
      exact⟨by simp,λs D C=>t s D (J _ s C)⟩
     ·have:fQ ops Rs a0 n u (λj=>if j=k then G (u k)else d j) (k+1)=(k,r (u k))::fQ ops Rs a0 n u d k:=by simp only[fQ,g];rw[H,F,E,if_pos q]
      rw[this];exact A (u k)
  ·rw[if_neg q]at hc;refine I undef ?_ ?_
   ·unfold cX;rw[F,E];exact⟨λm=>absurd m q,λ_=>by simp⟩
   ·have:fQ ops Rs a0 n u (λj=>if j=k then undef else d j) (k+1)=fQ ops Rs a0 n u d k:=by simp only[fQ];rw[H,F,E,if_neg q]
    rw[this];exact hc
structure J (P:Program) (ops:Array Oper) (b:Array Nat) (Rs:List (Nat×gN)) (B:World->Prop) (a0:Act) (n:Nat) (w0:World) (u:Nat->Nat) (v:Nat->Value) (listed:Array Bool) (a:Act) (w:World):Prop where
 inv:HeadInv .any ops n listed
 tr:∀j,j<n->cX P ops b Rs B a0 n u v j
 fr:a=dx ops a0 v (λj=>listed.getD j false) n
 bw:B w
 gw:Grow w0 w
 facts:∀j,j<n->listed.getD j false=true->∀mk r,find Rs j=some (.ind mk r)->Region.wanted (ops.getD j default) (yielded ops (dx ops a0 v (λi=>decide (i<j)) n).tmps)=true->r (u j) w
theorem jx{n:Nat}{d:Array Bool}(ok:OK ops n b)(q:HeadInv .any ops n d){u I:Nat->Nat}{v z:Nat->Value}{w:World}(K:B w)
  (Y:∀j,j<n->cX P ops b Rs B a0 n u v j) (H:∀j,j<n->cX P ops b Rs B a0 n I z j)
  (L:∀j,d.getD j false=true->u j=I j)
  (facts:∀j,j<n->d.getD j false=true->∀g r,find Rs j=some (.ind g r)->Region.wanted (ops.getD j default) (yielded ops (dx ops a0 v (λi=>decide (i<j)) n).tmps)=true->r (u j) w):
  ∀i,i<n->d.getD i false=true->v i=z i/\Region.wanted (ops.getD i default) (yielded ops (dx ops a0 v (λj=>decide (j<i)) n).tmps)=Region.wanted (ops.getD i default) (yielded ops (dx ops a0 z (λj=>decide (j<i)) n).tmps):=by
 intro i;induction i using Nat.strongRecOn with
 |_ i ih=>
  intro m A;have s:i<ops.size:=by have:=ok.le;omega
  have l:=gQ (ops:=ops) (o:=ops.getD i default) (a:=dx ops a0 v (λj=>decide (j<i)) n) (a':=dx ops a0 z (λj=>decide (j<i)) n)
   (Region.noSelect_spec ok.Sx i _ · · (ib s)) (λt X=>by
    refine gA _ _ _ _ t n (λj y V=>⟨rfl,λW=> ?_⟩);have F:j<i:=by simpa using W
    rcases ok.looks i m t X j y (by omega) V with h|h
    ·exact(ih j F y (fx ok q i s A j (by have:=ok.le;omega) h)).1
    ·have:=ok.lt j i (by have:=ok.le;omega) s h;omega)
  refine⟨?_,l.2⟩;have G:=Y i m;have C:=H i m;unfold cX at G C;rw[<-l.2, <-l.1]at C;have Q:lE ops b Rs a0 n u v i w:=λj y E g r e f=>facts j (by omega) (fx ok q i s A j (by omega) E) g r e f
  have D:lE ops b Rs a0 n I z i w:=λj y E g r e f=>by
   have p:=fx ok q i s A j (by omega) E;rw[<-L j p];exact facts j (by omega) p g r e (by rw[(ih j y (by omega) p).2];exact f)
  cases f:Region.wanted (ops.getD i default) (yielded ops (dx ops a0 v (λj=>decide (j<i)) n).tmps)with
  |false=>rw[G.2 f,C.2 f]
  |true=>
   obtain⟨M,N,O⟩:=G.1 f;obtain⟨R,S,T⟩:=C.1 f;cases e:find Rs i with
   |none=>have U:=M e w K Q;have J:=R e w K D;rw[U]at J;simpa using J
   |some c=>
    cases c with
    |det x=>rw[(N x e).1,(S x e).1]
    |ind g r=>rw[(O g r e).1,(T g r e).1,L i A]
def dm(Rs:List (Nat×gN)):Prop:=∀j mk r,find Rs j=some (.ind mk r)->∀x w w',r x w->Grow w w'->r x w'
theorem pH{n:Nat}{w0:World}{u:Nat->Nat}{v:Nat->Value}{d:Array Bool}{a:Act}{w:World}{Q:Exit->Act->World->Prop}(ok:OK ops n b)(G:dm Rs)
  (O:∀w w',B w->Grow w w'->B w') (U:∀u,∃v,∀j,j<n->cX P ops b Rs B a0 n u v j)
  (f:J P ops b Rs B a0 n w0 u v d a w) {i:Nat} (m:i<n) (W:i∈Region.ready .any ops d):
  wpOp P ops Q i (λa' w'=> ∃u v,J P ops b Rs B a0 n w0 u v (d.setIfInBounds i true) a' w') a w:=by
 obtain⟨dl,o,V,_⟩:=mem_ready.1 W;have hi:i<ops.size:=(iS.1 V).1;have s:=getD_both dl;have q:=getD_some V;have D:=f.inv.set W m;have l:∀j,j<n->j≠i->(ops.getD j default).dst=none\/(ops.getD j default).dst≠(ops.getD i default).dst:=by
  intro j E co;rcases Nat.lt_or_gt_of_ne co with h|h
  ·exact ok.Lu j i h m
  ·rcases ok.Lu i j h E with h'|h'
   ·by_cases e:(ops.getD j default).dst=none
    ·exact .inl e
    ·right;rw[h'];exact e
   ·right;exact nq h'
 have p:(λj=>(d.setIfInBounds i true).getD j false)=λj=>if j=i then true else d.getD j false:=by
  funext j;by_cases e:j=i
  ·subst e
   have:j<d.size:=by rw[f.inv.size];exact hi
   simp[this]
  ·rw[if_neg e,getD_set_ne false (nq e)]
 have N:=gQ (ops:=ops) (o:=o) (a:=a) (a':=dx ops a0 v (λj=>decide (j<i)) n)
  (Region.noSelect_spec ok.Sx i _ · · V) (λt ht=>by rw[f.fr];exact jF ok f.inv m W v t (by rw[q];exact ht))
 have av:lE ops b Rs a0 n u v i w:=λj E hb z r F L=>f.facts j (by omega) (fJ ok f.inv W (by omega) hb) z r F L
 have st:=f.tr i m;unfold cX at st;rw[q]at st
 -- the same blocks,the frame with one value more
 have bD:∀M,Grow w M->(∀z r,find Rs i=some (.ind z r)->Region.wanted o (yielded ops (dx ops a0 v (λj=>decide (j<i)) n).tmps)=true->r (u i) M)->
   ∃u v,J P ops b Rs B a0 n w0 u v (d.setIfInBounds i true) (a.put o.dst (v i)) M:=by
  intro M I an;refine⟨u,v,D,f.tr, ?_,O _ _ f.bw I,f.gw.trans I, ?_⟩
  ·rw[p,iq v _ i n m s l v (λ_ _=>rfl),q,f.fr]
  ·intro j E C z r F L;by_cases e:j=i
   ·subst e;exact an z r F (by rw[q]at L;exact L)
   ·rw[getD_set_ne false (nq e)]at C;exact G j z r F _ _ _ (f.facts j E C z r F L) I
 unfold wpOp;simp only[V];rw[N.2];cases L:Region.wanted o (yielded ops (dx ops a0 v (λj=>decide (j<i)) n).tmps)with
 |false=>
  simp only[GA,B6];obtain⟨u',Z,h⟩:=bD w (Grow.refl w) (λz r _ Y=>by rw[L]at Y;cases Y)
  have:=st.2 L;refine⟨u,v, ?_⟩;have hh:J P ops b Rs B a0 n w0 u v (d.setIfInBounds i true) (a.put o.dst (v i)) w:=by
   refine⟨D,f.tr, ?_,f.bw,f.gw, ?_⟩
   ·rw[p,iq v _ i n m s l v (λ_ _=>rfl),q,f.fr]
   ·intro j E C z r F A;by_cases e:j=i
    ·subst e;rw[q,L]at A;cases A
    ·rw[getD_set_ne false (nq e)]at C;exact f.facts j E C z r F A
  rw[this]at hh;exact hh
 |true=>
  simp only[uf];left;obtain⟨s1,s2,s3⟩:=st.1 L;cases F:find Rs i with
  |none=>
   have e:=s1 F w f.bw av;rw[<-N.1]at e;unfold Oper.wp;rw[e];simp only[Oper.upon];refine⟨u,v,D,f.tr, ?_,f.bw,f.gw, ?_⟩
   ·rw[p,iq v _ i n m s l v (λ_ _=>rfl),q,f.fr]
   ·intro j E C z r g A;by_cases e:j=i
    ·subst e;rw[F]at g;cases g
    ·rw[getD_set_ne false (nq e)]at C;exact f.facts j E C z r g A
  |some c=>
   cases c with
   |det x=>
    obtain⟨ex,K⟩:=s2 x F
    have:=K w f.bw av;have H:dC P o a.eval w λy M=>Grow w M/\y=x:=by unfold dC at*;rw[N.1];exact this
    refine j7 H ?_;rintro y M ⟨I,rfl⟩;refine⟨u,v,D,f.tr, ?_,O _ _ f.bw I,f.gw.trans I, ?_⟩
    ·rw[p,iq v _ i n m s l v (λ_ _=>rfl),q,f.fr,ex]
    ·intro j E C z r g A;by_cases e:j=i
     ·subst e;rw[F]at g;cases g
     ·rw[getD_set_ne false (nq e)]at C;exact G j z r g _ _ _ (f.facts j E C z r g A) I
   |ind z r=>
    obtain⟨_,K⟩:=s3 z r F
    have:=K w f.bw av;have H:dC P o a.eval w λy M=>Grow w M/\∃x,y=z x/\r x M:=by unfold dC at*;rw[N.1];exact this
    refine j7 H ?_;rintro y M ⟨I,x,rfl,hx⟩;obtain⟨Z,S⟩:=U (λj=>if j=i then x else u j);have R:=jx ok f.inv f.bw f.tr S (λj C=>by
     have:j≠i:=λe=>by subst e;rw[s]at C;cases C
     simp[this]) f.facts
    -- the text's frame at i is alike under v and v'
    have T:=gQ (ops:=ops) (o:=o) (a:=dx ops a0 v (λj=>decide (j<i)) n) (a':=dx ops a0 Z (λj=>decide (j<i)) n)
     (Region.noSelect_spec ok.Sx i _ · · V) (λt ht=>by
      refine gA _ _ _ _ t n (λj E hd=>⟨rfl,λX=> ?_⟩);have d6:j<i:=by simpa using X
      rcases ok.looks i m t (by rw[q];exact ht) j E (by omega) hd with h|h
      ·exact(R j E (fJ ok f.inv W (by omega) h)).1
      ·have:=ok.lt j i (by omega) hi h;omega)
    have ev:Z i=z x:=by
     have:=S i m;unfold cX at this;rw[q, <-T.2]at this
     have:=((this.1 L).2.2 z r F).1;simpa using this
    refine⟨λj=>if j=i then x else u j,Z,D,S, ?_,O _ _ f.bw I,f.gw.trans I, ?_⟩
    ·rw[p,iq v _ i n m s l Z (λj X=> ?_),q,f.fr,ev];by_cases bi:j<n
     ·exact(R j bi X).1
     ·have:d.getD j false=false:=by
       by_cases ci:j<ops.size
       ·exact getD_both (f.inv.tail j (by omega) ci)
       ·rw[Pw,Array.getElem?_eq_none (by rw[f.inv.size];omega)];rfl
      rw[this]at X;cases X
    ·intro j E C mk' r' g A;by_cases e:j=i
     ·subst e;rw[F]at g;cases g;simpa using hx
     ·rw[getD_set_ne false (nq e)]at C;simp only[if_neg e];exact G j mk' r' g _ _ _ (f.facts j E C mk' r' g (by rw[(R j E C).2];exact A)) I
theorem mh{n:Nat}{w0:World}{Q:Exit->Act->World->Prop}(ok:OK ops n b)(A:dm Rs)(H:∀w w',B w->Grow w w'->B w')
  (l:∀u,∃v,(∀j,j<n->cX P ops b Rs B a0 n u v j)/\(∀w,B w->Grow w0 w->(∀p∈fQ ops Rs a0 n u v n,p.2 w)->wpList P ops Q (ops.toList.drop n) (dx ops a0 v (λi=>decide (i<n)) n) w)):
  ∀(m:Nat) (c:Array Bool) (a:Act) (w:World),left c n=m->(∃u v,J P ops b Rs B a0 n w0 u v c a w)->wpAny P .any ops Q (m+(ops.size-n)) c a w:=by
 intro m;induction m with
 |zero=>
  rintro c a w hm ⟨u,v,d⟩;have q:∀j,j<n->c.getD j false=true:=by
   intro j f
   have:=Kx.1 hm j (by simpa using f);simpa using this
  have e:c=Array.replicate n true++Array.replicate (ops.size-n) false:=by
   apply Array.ext
   ·rw[d.inv.size];simp;have:=ok.le;omega
   ·intro i g U;by_cases x:i<n
    ·have:=q i x;simp[g]at this;rw[this,Array.getElem_append_left (by simpa using x)];simp
    ·have:=d.inv.tail i (by omega) (by rw[<-d.inv.size];exact g);simp[g]at this;rw[this,Array.getElem_append_right (by simp;omega)];simp
  obtain⟨v',T,C⟩:=l u;have G:=jx ok d.inv d.bw d.tr T (λ_ _=>rfl) d.facts;have X:a=dx ops a0 v' (λi=>decide (i<n)) n:=by rw[d.fr];refine mz (by rw[dQ,dQ]) (by rw[dN,dN]) (λt=>gA _ _ _ _ t n (λj f _=>⟨by rw[q j f];simp[f],λ_=>(G j f (q j f)).1⟩))
  have V:=C w d.bw d.gw (λp hp=>by
   obtain⟨g,mk,r,hf,S,U⟩:=oH hp;rw[U];exact d.facts p.1 g (q p.1 g) mk r hf (by rw[(G p.1 g (q p.1 g)).2];exact S))
  rw[<-X]at V;have s:(ops.toList.drop n).length=ops.size-n:=by simp
  have:=wpAny_of_seq (md:= .any) (Q':=Q) (ops.toList.drop n) n c a w (λj=>by simp[GI]) (by rw[s,e];exact ok.seq) V;rw[s]at this;rw[nW];exact this
 |succ m ih=>
  rintro c a w hm ⟨u,v,d⟩;rw[show m+1+(ops.size-n)=(m+(ops.size-n))+1 by omega];refine⟨λF=> ?_,λi x=> ?_⟩
  ·exfalso;have I:∃k,k<n/\c.getD k false=false/\∀j,j<k->c.getD j false=true:=by
    have:∀N,N<=n->(∀j,j<N->c.getD j false=true)\/∃k,k<n/\c.getD k false=false/\∀j,j<k->c.getD j false=true:=by
     intro N;induction N with
     |zero=>intro _;left;intro j f;omega
     |succ N ihN=>
      intro hN;rcases ihN (by omega)with h|h
      ·cases q:c.getD N false with
       |false=>right;exact⟨N,by omega,q,h⟩
       |true=>
         left;intro j f;by_cases e:j=N
         ·subst e;exact q
         ·exact h j (by omega)
      ·exact .inr h
    rcases this n (aL _)with h|h
    ·have:left c n=0:=Kx.2 (λj f=>by have:=h j (by simpa using f);simp at this⊢;exact this);omega
    ·exact h
   obtain⟨k,hk,L,E⟩:=I;have z:k<ops.size:=by have:=ok.le;omega
   have:k∈Region.ready .any ops c:=mem_ready.2 ⟨getD_in (by rw[d.inv.size];exact z) L,_,ib z,λe he Y=>E e.on (ok.Ig k z e he Y).1⟩;rw[F]at this;cases this
  ·have D:i<n:=by
    rcases PQ i n with h|h
    ·exact h
    ·exfalso;obtain⟨_,o,O,_⟩:=mem_ready.1 x;have y:i<ops.size:=(iS.1 O).1
     have:left c n=0:=Kx.2 (λj f=>by
      have K:j<n:=by simpa using f
      have:=fJ ok d.inv x (by omega) (ok.tail i j h y K);simp at this⊢;exact this)
     omega
   obtain⟨R,o,O,_⟩:=mem_ready.1 x;have y:i<ops.size:=(iS.1 O).1;have M:i<c.size:=by rw[d.inv.size];exact y
   have Z:left (c.setIfInBounds i true) n=m:=by have:=lZ (n:=n) D M (getD_both R);omega
   exact wpOp_mono (λW w' h=>ih _ W w' Z h) (pH ok A H (λu=>let ⟨v,h,_⟩:=l u;⟨v,h⟩) d D x)
theorem ai{id:Nat}{Q:Exit->Act->World->Prop}{a:Act}{w:World}{l:List Oper}(n:Nat)(Rs:List (Nat×gN))(B:World->Prop)
  (hm:P.follows .mixedOrders=true) (s:sZ l.toArray n=true) (e:dm Rs) (m:B w.drew) (q:∀w w',B w->Grow w w'->B w')
  (h:chain P l.toArray (Region.before l.toArray) Rs B (λa' C=> ∀w',B w'->Grow w.drew w'->(∀p∈C,p.2 w')->wpList P l.toArray Q (l.drop n) a' w') (l.take n) 0 a []):
  (Code.region id l.toArray true).wp P Q a w:=by
 have x:=OK.of s;have A:n<=l.length:=by simpa using x.le
 have c:∀u,∃v,(∀j,j<n->cX P l.toArray (Region.before l.toArray) Rs B a n u v j)/\(∀w',B w'->Grow w.drew w'->(∀p∈fQ l.toArray Rs a n u v n,p.2 w')->wpList P l.toArray Q (l.toArray.toList.drop n) (dx l.toArray a v (λi=>decide (i<n)) n) w'):=by
  intro u;have z:dx l.toArray a (λ_=>undef) (λi=>decide (i<0)) n=a:=by rw[iG _ 0 n (by omega)];rfl
  exact gd x.le u (l.take n) 0 (λ_=>undef) (by simp;omega) (λj r=>by
   have:j<n:=by simp at r;omega
   simp[this]) (λj r=>by omega) (by rw[z];exact h)
 refine wp_region_any hm ?_;have g:HeadInv .any l.toArray n (Array.replicate l.toArray.size false):=
  ⟨by simp,λj F _ f=>(by rw[getD_replicate_false]at f;cases f),λt _ D=>getD_in (by simpa using D) (getD_replicate_false _ _)⟩
 obtain⟨v,E,_⟩:=c (λ_=>0);have d:left (Array.replicate l.toArray.size false) n=n:=by
  unfold left
  have:(List.range n).countP (λj=> !(Array.replicate l.toArray.size false).getD j false)=(List.range n).length:=List.countP_eq_length.2 (λj _=>by rw[getD_replicate_false];rfl);rw[this];simp
 have y:J P l.toArray (Region.before l.toArray) Rs B a n w.drew (λ_=>0) v (Array.replicate l.toArray.size false) a w.drew:=by
  refine⟨g,E, ?_,m,Grow.refl _,λj r f=>(by rw[getD_replicate_false]at f;cases f)⟩
  have:(λj=>(Array.replicate l.toArray.size false).getD j false)=λi=>decide (i<0):=by funext j;rw[getD_replicate_false];simp
  rw[this,iG _ 0 n (by omega)];rfl
 have:=mh (w0:=w.drew) (Q:=Q) x e q c n _ a w.drew d ⟨_,v,y⟩;rw[show n+(l.toArray.size-n)=l.toArray.size by simp;omega]at this;exact this
variable {fin:Act->List (Nat×(World->Prop))->Prop} {o:Oper} {rest:List Oper} {k:Nat} {a:Act} {h:List (Nat×(World->Prop))}
theorem ae(f:Region.wanted o (yielded ops a.tmps)=true)(e:find Rs k=none){v:Value}
  (c:∀w',B w'->(∀p∈h,mB b k p.1=true->p.2 w')->(execOp a.eval o).run P w'= .ok (.value v) w') (d:chain P ops b Rs B fin rest (k+1) (a.put o.dst v) h):
  chain P ops b Rs B fin (o::rest) k a h:=by
 unfold chain;rw[if_pos f,e];exact⟨v,c,d⟩
theorem aC(f:Region.wanted o (yielded ops a.tmps)=true){x:Value}(e:find Rs k=some (.det x))
  (c:∀w',B w'->(∀p∈h,mB b k p.1=true->p.2 w')->dC P o a.eval w' λu g=>Grow w' g/\u=x) (d:chain P ops b Rs B fin rest (k+1) (a.put o.dst x) h):
  chain P ops b Rs B fin (o::rest) k a h:=by
 unfold chain;rw[if_pos f,e];exact⟨c,d⟩
theorem aR(i:Region.wanted o (yielded ops a.tmps)=true){c:Nat->Value}{r:Nat->World->Prop}(g:find Rs k=some (.ind c r))
  (e:∀w',B w'->(∀p∈h,mB b k p.1=true->p.2 w')->dC P o a.eval w' λu d=>Grow w' d/\∃x,u=c x/\r x d)
  (f:∀x,chain P ops b Rs B fin rest (k+1) (a.put o.dst (c x)) ((k,r x)::h)):
  chain P ops b Rs B fin (o::rest) k a h:=by
 unfold chain;rw[if_pos i,g];exact⟨e,f⟩
theorem dw(d:Region.wanted o (yielded ops a.tmps)=false)(c:chain P ops b Rs B fin rest (k+1) (a.put o.dst undef) h):
  chain P ops b Rs B fin (o::rest) k a h:=by
 unfold chain;rw[if_neg (by rw[d];simp)];exact c
theorem ax(c:fin a h):chain P ops b Rs B fin [] k a h:=c
end
theorem aW{Rs:List (Nat×gN)}(h:∀j c r,find Rs j≠some (.ind c r)):dm Rs:=λj c r d=>absurd d (h j c r)
attribute [irreducible] chain
end Go.Fre2
namespace Go.Free
abbrev lB:Fre2.Rel:=⟨Grow,Grow.refl,λ_ _ _=>Grow.trans⟩
abbrev chain:= @Fre2.chain lB
abbrev cX:= @Fre2.cX lB
abbrev J:= @Fre2.J lB
abbrev dm:= @Fre2.dm lB
def gd:= @Fre2.gd lB
def jx:= @Fre2.jx lB
def pH:= @Fre2.pH lB
def ai:= @Fre2.ai lB
def ae:= @Fre2.ae lB
def aC:= @Fre2.aC lB
def aR:= @Fre2.aR lB
def dw:= @Fre2.dw lB
def ax:= @Fre2.ax lB
def aW:= @Fre2.aW lB
end Go.Free
