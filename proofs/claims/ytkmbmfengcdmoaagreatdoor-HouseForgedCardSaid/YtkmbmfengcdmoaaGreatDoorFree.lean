/- A region that draws its order: each operation is shown once, in the order of the text, in every world that the others may have made. Condition: every operation but the forced end of the region only reads or makes new memory. -/
import Derived.Test.YtkmbmfengcdmoaaGreatDoorA0
import Derived.WalkKit
import Derived.StillTail
import Derived.Lib.Hide
set_option linter.all false
namespace Go.Free
open Go Go.RowKit
def Grow(w w':World):Prop:=Below w.heap.size w w'
theorem Grow.refl(w:World):Grow w w:=Below.refl _ _
theorem Grow.trans{a b c:World}(h:Grow a b)(k:Grow b c):Grow a c:=Below.trans h (Below.mono k h.size)
theorem Grow.alloc(w:World)(o:Obj):Grow w (w.alloc o):=(Below.refl _ _).alloc (aL _) _

def dC(P:Program)(o:Oper)(ρ:Operand->Value)(w:World)(K:Value->World->Prop):Prop:=
 match (execOp ρ o).run P w with
 | .ok (.value v) w'=>K v w'
 | .ok (.enter f args) w'=>Calls P f args w' fun
   | .returned v,w''=>K v w''
   |_,_=>False
 |_=>False

theorem j7{P:Program}{o:Oper}{a:Act}{w:World}{K:Value->World->Prop}{next:Act->World->Prop}{Q:Exit->Act->World->Prop}
  (h:dC P o a.eval w K) (hn:∀v w',K v w'->next (a.put o.dst v) w'):o.wp P a w next Q:=by
 unfold dC at h;unfold Oper.wp;generalize (execOp a.eval o).run P w=r at h;cases r with
 |halt x w'=>exact h.elim
 |ok x w'=>
  cases x<;>simp only[Oper.upon]at h⊢
  case value v=>exact hn _ _ h
  case enter f args=>
   refine h.mono ?_;intro e w'' he;cases e<;>first|exact hn _ _ he|exact he.elim
  all_goals exact h.elim

inductive gN where
 |det (x:Value)
 |ind (mk:Nat->Value) (r:Nat->World->Prop)

def find:List (Nat×gN)->Nat->Option gN
 | [],_=>none
 |(j,x)::r,k=>if j=k then some x else find r k

def mB(b:Array Nat)(k j:Nat):Bool:=(b.getD k 0).testBit j

def s7(ops:Array Oper)(n:Nat)(b:Array Nat):Bool:=
 Region.noSelect ops&&decide (n<=ops.size)&&
 ((List.range ops.size).all λk=>((ops.getD k default).after.all λe=> !Region.binds .any e||(decide (e.on<k)&&mB b k e.on))&&
  ((List.range ops.size).all λj=> !mB b k j||(decide (j<k)&&((List.range j).all λi=> !mB b j i||mB b k i)&&(ops.getD k default).after.any λe=>Region.binds .any e&&(e.on==j||mB b e.on j))))&&
 ((List.range n).all λk=>((ops.getD k default).looksAt ops).all λt=>(List.range n).all λj=>j==k||(ops.getD j default).dst !=some t||mB b k j||mB b j k)&&
 ((List.range n).all λk=>(List.range k).all λj=>(ops.getD j default).dst==none||(ops.getD j default).dst !=(ops.getD k default).dst)&&
 ((List.range (ops.size-n)).all λt=>(List.range n).all λi=>mB b (n+t) i)&&
 Region.seqB .any ops (ops.size-n) n (Array.replicate n true++Array.replicate (ops.size-n) false)
def sZ(ops:Array Oper)(n:Nat):Bool:=s7 ops n (Region.before ops)

section
variable (P:Program) (ops:Array Oper) (b:Array Nat) (Rs:List (Nat×gN)) (B:World->Prop)
def dx(a0:Act)(v:Nat->Value)(S:Nat->Bool):Nat->Act
 |0=>a0
 |k+1=>if S k then(dx a0 v S k).put ((ops.getD k default).dst) (v k)else dx a0 v S k
end

section
variable {P:Program} {ops:Array Oper} {b:Array Nat} {Rs:List (Nat×gN)} {B:World->Prop} {a0:Act}

theorem put_defers(a:Act)(d:Option Tmp)(v:Value):(a.put d v).defers=a.defers:=by cases d<;>rfl
theorem oV(a:Act)(d:Option Tmp)(v:Value):(a.put d v).tmps.size=a.tmps.size:=by cases d<;>simp[Act.put]
theorem gY(a:Act)(d:Option Tmp)(v:Value)(t:Nat)(h:d≠some t):(a.put d v).tmps[t]? =a.tmps[t]? :=by
 cases d with
 |none=>rfl
 |some d=>simp only[Act.put];rw[NM (λe=>h (by rw[e]))]
theorem gX(a:Act)(v:Value)(t:Nat):(a.put (some t) v).tmps[t]? =if t<a.tmps.size then some v else none:=by simp only[Act.put];rw[Array.getElem?_setIfInBounds_self]

theorem dQ(v:Nat->Value)(S:Nat->Bool)(k:Nat):(dx ops a0 v S k).defers=a0.defers:=by
 induction k with
 |zero=>rfl
 |succ k ih=>simp only[dx];split<;>simp[put_defers,ih]
theorem dN(v:Nat->Value)(S:Nat->Bool)(k:Nat):(dx ops a0 v S k).tmps.size=a0.tmps.size:=by
 induction k with
 |zero=>rfl
 |succ k ih=>simp only[dx];split<;>simp[oV,ih]
theorem gA(v v':Nat->Value)(S S':Nat->Bool)(t:Nat)(k:Nat)
  (h:∀j,j<k->(ops.getD j default).dst=some t->S j=S' j/\(S j=true->v j=v' j)):
  (dx ops a0 v S k).tmps[t]? =(dx ops a0 v' S' k).tmps[t]? :=by
 induction k with
 |zero=>rfl
 |succ k ih=>
  have ih':=ih (λj hj hd=>h j (by omega) hd);by_cases hd:(ops.getD k default).dst=some t
  ·obtain⟨h1,h2⟩:=h k (by omega) hd;simp only[dx,hd];cases hs:S k with
   |false=>rw[hs]at h1;simp only[<-h1,GA,B6];exact ih'
   |true=>rw[hs]at h1;simp only[<-h1,uf];rw[gX,gX,dN,dN,h2 hs]
  ·simp only[dx];have e1:(if S k=true then(dx ops a0 v S k).put (ops.getD k default).dst (v k)else dx ops a0 v S k).tmps[t]? =(dx ops a0 v S k).tmps[t]? :=by
    split
    ·exact gY _ _ _ _ hd
    ·rfl
   have e2:(if S' k=true then(dx ops a0 v' S' k).put (ops.getD k default).dst (v' k)else dx ops a0 v' S' k).tmps[t]? =(dx ops a0 v' S' k).tmps[t]? :=by
    split
    ·exact gY _ _ _ _ hd
    ·rfl
   rw[e1,e2];exact ih'

theorem mz{a a':Act}(h1:a.defers=a'.defers)(h2:a.tmps.size=a'.tmps.size)(h3:∀t:Nat,a.tmps[t]? =a'.tmps[t]?):a=a':=by
 cases a;cases a'
 simp only[Act.mk.injEq];exact⟨Array.ext_getElem? h3,h1⟩
theorem iq(v:Nat->Value)(S:Nat->Bool)(i n:Nat)(hi:i<n)(hS:S i=false)
  (hd:∀j,j<n->j≠i->(ops.getD j default).dst=none\/(ops.getD j default).dst≠(ops.getD i default).dst) (v':Nat->Value) (hv:∀j,S j=true->v j=v' j):
  dx ops a0 v' (λj=>if j=i then true else S j) n=(dx ops a0 v S n).put (ops.getD i default).dst (v' i):=by
 refine mz (by rw[dQ,put_defers,dQ]) (by rw[dN,oV,dN]) (λt=> ?_);by_cases ht:(ops.getD i default).dst=some t
 ·rw[ht,gX,dN];have key:∀k,i<k->k<=n->(dx ops a0 v' (λj=>if j=i then true else S j) k).tmps[t]? =if t<a0.tmps.size then some (v' i)else none:=by
   intro k;induction k with
   |zero=>intro h;omega
   |succ k ih=>
    intro h1 h2;by_cases e:k=i
    ·subst e;simp only[dx,uf];rw[ht,gX,dN]
    ·have ih':=ih (by omega) (by omega);simp only[dx,if_neg e];split
     ·rw[gY _ _ _ _ (λhh=> ?_)]
      ·exact ih'
      ·rcases hd k (by omega) e with h3|h3
       ·rw[h3]at hh;cases hh
       ·exact h3 (hh.trans ht.symm)
     ·exact ih'
  exact key n hi (aL _)
 ·rw[gY _ _ _ _ ht];refine gA _ _ _ _ t n (λj hj hdj=> ?_);by_cases e:j=i
  ·subst e;exact absurd hdj ht
  ·simp only[if_neg e,true_and];intro hs;exact(hv j hs).symm

structure OK (ops:Array Oper) (n:Nat) (b:Array Nat):Prop where
 Sx:Region.noSelect ops=true
 le:n<=ops.size
 Ig:∀k,k<ops.size->∀e∈ (ops.getD k default).after,Region.binds .any e=true->e.on<k/\mB b k e.on=true
 lt:∀k j,k<ops.size->j<ops.size->mB b k j=true->j<k
 tr:∀k j i,k<ops.size->j<ops.size->i<j->mB b k j=true->mB b j i=true->mB b k i=true
 back:∀k j,k<ops.size->j<ops.size->mB b k j=true->∃e∈ (ops.getD k default).after,Region.binds .any e=true/\(e.on=j\/mB b e.on j=true)
 looks:∀k,k<n->∀t∈ (ops.getD k default).looksAt ops,∀j,j<n->j≠k->(ops.getD j default).dst=some t->mB b k j=true\/mB b j k=true
 Lu:∀j k,j<k->k<n->(ops.getD j default).dst=none\/(ops.getD j default).dst≠(ops.getD k default).dst
 tail:∀t i,n<=t->t<ops.size->i<n->mB b t i=true
 seq:Region.seqB .any ops (ops.size-n) n (Array.replicate n true++Array.replicate (ops.size-n) false)=true

theorem OK.of{n:Nat}(h:s7 ops n b=true):OK ops n b:=by
 simp only[s7,ua,uD,GJ,R2,Array.all_eq_true_iff_forall_mem,Bool.or_eq_true,Bool.not_eq_true',Array.any_eq_true',beq_iff_eq,bne_iff_ne,ne_eq]at h;obtain⟨⟨⟨⟨⟨⟨h1,h2⟩,h3⟩,h4⟩,h5⟩,h6⟩,h7⟩:=h;refine⟨h1,h2, ?_, ?_, ?_, ?_, ?_, ?_, ?_,h7⟩
 ·intro k hk e he hb;rcases(h3 k hk).1 e he with h|h
  ·rw[hb]at h;cases h
  ·exact h
 ·intro k j hk hj hb;rcases(h3 k hk).2 j hj with h|h
  ·rw[hb]at h;cases h
  ·exact h.1.1
 ·intro k j i hk hj hi hb hb2;rcases(h3 k hk).2 j hj with h|h
  ·rw[hb]at h;cases h
  ·rcases h.1.2 i hi with h'|h'
   ·rw[hb2]at h';cases h'
   ·exact h'
 ·intro k j hk hj hb;rcases(h3 k hk).2 j hj with h|h
  ·rw[hb]at h;cases h
  ·exact h.2
 ·intro k hk t ht j hj hjk hd;rcases h4 k hk t ht j hj with((h|h)|h)|h
  ·exact absurd h hjk
  ·exact absurd hd h
  ·exact .inl h
  ·exact .inr h
 ·intro j k hjk hk;exact h5 k hk j hjk
 ·intro t i ht ht2 hi
  have:=h6 (t-n) (by omega) i hi
  rwa[show n+(t-n)=t by omega]at this
def lE(ops:Array Oper)(b:Array Nat)(Rs:List (Nat×gN))(a0:Act)(n:Nat)(u:Nat->Nat)(v:Nat->Value)(k:Nat)(w:World):Prop:=
 ∀j,j<k->mB b k j=true->∀mk r,find Rs j=some (.ind mk r)->Region.wanted (ops.getD j default) (yielded ops (dx ops a0 v (λi=>decide (i<j)) n).tmps)=true->r (u j) w

theorem iG(v:Nat->Value)(k n:Nat)(hk:k<=n):dx ops a0 v (λi=>decide (i<k)) n=dx ops a0 v (λ_=>true) k:=by
 induction n with
 |zero=>
   have:k=0:=by omega
   subst this;rfl
 |succ n ih=>
  by_cases e:k=n+1
  ·subst e
   have:∀m,m<=n+1->dx ops a0 v (λi=>decide (i<n+1)) m=dx ops a0 v (λ_=>true) m:=by
    intro m;induction m with
    |zero=>intro _;rfl
    |succ m ihm=>intro hm;simp only[dx];rw[ihm (by omega)];simp[show m<n+1 by omega]
   exact this _ (aL _)
  ·simp only[dx];rw[if_neg (by simp;omega)];exact ih (by omega)

theorem fK(v v':Nat->Value)(S:Nat->Bool)(k:Nat)(h:∀j,j<k->S j=true->v j=v' j):dx ops a0 v S k=dx ops a0 v' S k:=by
 induction k with
 |zero=>rfl
 |succ k ih=>
  simp only[dx];rw[ih (λj hj=>h j (by omega))];by_cases hs:S k=true
  ·rw[if_pos hs,if_pos hs,h k (by omega) hs]
  ·rw[if_neg hs,if_neg hs]
def fQ(ops:Array Oper)(Rs:List (Nat×gN))(a0:Act)(n:Nat)(u:Nat->Nat)(v:Nat->Value):Nat->List (Nat×(World->Prop))
 |0=> []
 |k+1=>
  if Region.wanted (ops.getD k default) (yielded ops (dx ops a0 v (λi=>decide (i<k)) n).tmps)then
   match find Rs k with
   |some (.ind _ r)=>(k,r (u k))::fQ ops Rs a0 n u v k
   |_=>fQ ops Rs a0 n u v k
  else fQ ops Rs a0 n u v k

theorem oH{n:Nat}{u:Nat->Nat}{v:Nat->Value}{k:Nat}{p:Nat×(World->Prop)}(h:p∈fQ ops Rs a0 n u v k):
  p.1<k/\∃mk r,find Rs p.1=some (.ind mk r)/\Region.wanted (ops.getD p.1 default) (yielded ops (dx ops a0 v (λi=>decide (i<p.1)) n).tmps)=true/\p.2=r (u p.1):=by
 induction k with
 |zero=>cases h
 |succ k ih=>
  simp only[fQ]at h;have low:p∈fQ ops Rs a0 n u v k->p.1<k+1/\∃mk r,find Rs p.1=some (.ind mk r)/\Region.wanted (ops.getD p.1 default) (yielded ops (dx ops a0 v (λi=>decide (i<p.1)) n).tmps)=true/\p.2=r (u p.1):=λhh=>
   let ⟨h1,h2⟩:=ih hh;⟨by omega,h2⟩
  split at h
  ·rename_i hw;split at h
   ·rename_i mk r hf;rcases lC.1 h with rfl|h
    ·exact⟨by simp,mk,r,hf,hw,rfl⟩
    ·exact low h
   ·exact low h
  ·exact low h

theorem sN{n:Nat}{u:Nat->Nat}{v v':Nat->Value}{k:Nat}(hk:k<=n)(h:∀j,j<k->v j=v' j):fQ ops Rs a0 n u v k=fQ ops Rs a0 n u v' k:=by
 induction k with
 |zero=>rfl
 |succ k ih=>have e:dx ops a0 v (λi=>decide (i<k)) n=dx ops a0 v' (λi=>decide (i<k)) n:=fK _ _ _ _ (λj _ hs=>h j (by simp at hs;omega));simp only[fQ];rw[e,ih (by omega) (λj hj=>h j (by omega))]

theorem getD_some{k:Nat}{o:Oper}(h:ops[k]? =some o):ops.getD k default=o:=by simp[Pw,h]
theorem ib{k:Nat}(h:k<ops.size):ops[k]? =some (ops.getD k default):=by simp[Pw,h]

theorem fx{n:Nat}{listed:Array Bool}(ok:OK ops n b)(inv:HeadInv .any ops n listed):∀k,k<ops.size->listed.getD k false=true->∀j,j<ops.size->mB b k j=true->listed.getD j false=true:=by
 intro k;induction k using Nat.strongRecOn with
 |_ k ih=>
  intro hk hl j hj hb;obtain⟨e,he,hbi,h⟩:=ok.back k j hk hj hb;have h1:=inv.closed k _ (ib hk) hl e he hbi;have h2:=ok.Ig k hk e he hbi;rcases h with rfl|h
  ·exact h1
  ·exact ih e.on h2.1 (by omega) h1 j hj h

theorem fJ{n:Nat}{listed:Array Bool}(ok:OK ops n b)(inv:HeadInv .any ops n listed){k:Nat}(hr:k∈Region.ready .any ops listed){j:Nat}(hj:j<ops.size)(hb:mB b k j=true):listed.getD j false=true:=by
 obtain⟨hu,o,ho,hall⟩:=mem_ready.1 hr;have hk:k<ops.size:=(iS.1 ho).1;obtain⟨e,he,hbi,h⟩:=ok.back k j hk hj hb;rw[getD_some ho]at he;have h1:=hall e he hbi;rcases h with rfl|h
 ·exact h1
 ·exact fx ok inv e.on (by have:=ok.Ig k hk e (by rw[getD_some ho];exact he) hbi;omega) h1 j hj h
theorem jF{n:Nat}{listed:Array Bool}(ok:OK ops n b)(inv:HeadInv .any ops n listed){k:Nat}(hkn:k<n)(hr:k∈Region.ready .any ops listed)(v:Nat->Value)
  (t:Nat) (ht:t∈ (ops.getD k default).looksAt ops):(dx ops a0 v (λj=>listed.getD j false) n).tmps[t]? =(dx ops a0 v (λi=>decide (i<k)) n).tmps[t]? :=by
 obtain⟨hu,o,ho,hall⟩:=mem_ready.1 hr;have hk:k<ops.size:=(iS.1 ho).1;have hu':=getD_both hu;refine gA _ _ _ _ t n (λj hj hd=>⟨?_,λ_=>rfl⟩);have hjs:j<ops.size:=by have:=ok.le;omega
 by_cases e:j=k
 ·subst e;rw[hu'];simp
 ·rcases ok.looks k hkn t ht j hj e hd with h|h
  ·rw[fJ ok inv hr hjs h];simp[ok.lt k j hk hjs h]
  ·have:listed.getD j false=false:=by
    cases hl:listed.getD j false with
    |false=>rfl
    |true=>have:=fx ok inv j hjs hl k hk h;rw[hu']at this;cases this
   rw[this];have:=ok.lt j k hjs hk h;simp;omega

theorem gQ{o:Oper}(hs:∀cs b,o.op≠ .select cs b){a a':Act}(h:∀t,t∈o.looksAt ops->a.tmps[t]? =a'.tmps[t]?):
  execOp a.eval o=execOp a'.eval o/\Region.wanted o (yielded ops a.tmps)=Region.wanted o (yielded ops a'.tmps):=by
 constructor
 ·refine execOp_congr o hs (λx hx=> ?_);cases x with
  |tmp t=>have:t∈o.looksAt ops:=List.mem_append_left _ (List.mem_filterMap.2 ⟨.tmp t,by simpa using hx,rfl⟩);simp only[Act.eval,Pw,h t this]
  |_=>rfl
 ·unfold Region.wanted;cases hg:o.guard with
  |none=>rfl
  |some gw=>
   obtain⟨g,want⟩:=gw;simp only;have hy:yielded ops a.tmps g=yielded ops a'.tmps g:=by
    unfold yielded;cases ht:(ops[g]?).bind (·.dst)with
    |none=>rfl
    |some t=>
     have:t∈o.looksAt ops:=by simp[Oper.looksAt,hg,ht]
     simp only[Option.bind_some,h t this]
   rw[hy]

def left(listed:Array Bool)(n:Nat):Nat:=(List.range n).countP (λj=> !listed.getD j false)
theorem lZ{listed:Array Bool}{n i:Nat}(hi:i<n)(hs:i<listed.size)(h:listed.getD i false=false):left (listed.setIfInBounds i true) n+1=left listed n:=by
 induction n with
 |zero=>omega
 |succ n ih=>
  unfold left at*;rw[RX,Sb,Sb];by_cases e:i=n
  ·subst e
   have:(List.range i).countP (λj=> !(listed.setIfInBounds i true).getD j false)=(List.range i).countP (λj=> !listed.getD j false):=by
    refine List.countP_congr (λj hj=> ?_)
    have:j<i:=by simpa using hj
    rw[getD_set_ne false (by omega)]
   rw[this];simp[hs]at h;simp[hs,h]
  ·have:=ih (by omega);simp only[List.countP_singleton];rw[getD_set_ne false e];omega

variable {fin:Act->List (Nat×(World->Prop))->Prop} {o:Oper} {rest:List Oper} {k:Nat} {a:Act} {h:List (Nat×(World->Prop))}
theorem cq{w:World}{K:Value->World->Prop}{ρ:Operand->Value}{v:Value}{w':World}(h:(execOp ρ o).run P w= .ok (.value v) w')(hk:K v w'):dC P o ρ w K:=by unfold dC;rw[h];exact hk
theorem au{w:World}{K:Value->World->Prop}{ρ:Operand->Value}{f:FuncId}{args:Array Value}(h:(execOp ρ o).run P w= .ok (.enter f args) w)
  (hk:Calls P f args w λe w'=> ∃v,e= .returned v/\K v w'):dC P o ρ w K:=by
 unfold dC;rw[h];refine hk.mono ?_;rintro e w' ⟨v,rfl,hv⟩;exact hv
end
theorem Gy{o:Oper}{ops:Array Oper}{a:Act}{j t:Nat}{b:Bool}(hg:o.guard=some (j,b))(hj:(ops[j]?).bind (·.dst)=some t)(ht:a.tmps[t]? =some (.bool b)):Region.wanted o (yielded ops a.tmps)=true:=by unfold Region.wanted yielded;rw[hg];simp only[hj,Option.bind_some,ht];simp
def TY(o:Oper)(ops:Array Oper)(ts:Array Value):Bool:=
 match o.guard with
 |none=>true
 |some (j,b)=>match (ops[j]?).bind (·.dst)with
  |none=>false
  |some t=>match ts[t]? with
   |some (.bool c)=>c==b
   |_=>false
theorem wq{o:Oper}{ops:Array Oper}{a:Act}(h:TY o ops a.tmps=true):Region.wanted o (yielded ops a.tmps)=true:=by
 unfold TY at h;split at h
 ·rename_i hg;unfold Region.wanted;rw[hg]
 ·rename_i j b hg;split at h
  ·cases h
  ·rename_i t hj;split at h
   ·rename_i c ht;have e:c=b:=by simpa using h
    exact Gy hg hj (e▸ht)
   ·cases h
attribute [irreducible] dC
end Go.Free
namespace Go.Fre2
open Go Go.RowKit
open Go.Free (dC j7 gN find mB s7 sZ dx put_defers oV gY gX dQ dN gA mz iq OK lE iG fK fQ oH sN getD_some ib fx fJ jF gQ left lZ)
class Rel where
 R:World->World->Prop
 refl:∀w,R w w
 trans:∀a b c,R a b->R b c->R a c
def Grow[Rel](w w':World):Prop:=Rel.R w w'
theorem Grow.refl[Rel](w:World):Grow w w:=Rel.refl w
theorem Grow.trans[Rel]{a b c:World}(h:Grow a b)(k:Grow b c):Grow a c:=Rel.trans _ _ _ h k
variable [Rel]

section
variable (P:Program) (ops:Array Oper) (b:Array Nat) (Rs:List (Nat×gN)) (B:World->Prop)
def chain(fin:Act->List (Nat×(World->Prop))->Prop):List Oper->Nat->Act->List (Nat×(World->Prop))->Prop
 | [],_,a,h=>fin a h
 |o::rest,k,a,h=>
  if Region.wanted o (yielded ops a.tmps)then
   match find Rs k with
   |none=> ∃v,(∀w',B w'->(∀p∈h,mB b k p.1=true->p.2 w')->(execOp a.eval o).run P w'= .ok (.value v) w')/\chain fin rest (k+1) (a.put o.dst v) h
   |some (.det x)=>(∀w',B w'->(∀p∈h,mB b k p.1=true->p.2 w')->dC P o a.eval w' λu w2=>Grow w' w2/\u=x)/\chain fin rest (k+1) (a.put o.dst x) h
   |some (.ind mk r)=>(∀w',B w'->(∀p∈h,mB b k p.1=true->p.2 w')->dC P o a.eval w' λu w2=>Grow w' w2/\∃x,u=mk x/\r x w2)/\
     ∀x,chain fin rest (k+1) (a.put o.dst (mk x)) ((k,r x)::h)
  else chain fin rest (k+1) (a.put o.dst undef) h
end
section
variable {P:Program} {ops:Array Oper} {b:Array Nat} {Rs:List (Nat×gN)} {B:World->Prop} {a0:Act}
def lE(ops:Array Oper)(b:Array Nat)(Rs:List (Nat×gN))(a0:Act)(n:Nat)(u:Nat->Nat)(v:Nat->Value)(k:Nat)(w:World):Prop:=
 ∀j,j<k->mB b k j=true->∀mk r,find Rs j=some (.ind mk r)->Region.wanted (ops.getD j default) (yielded ops (dx ops a0 v (λi=>decide (i<j)) n).tmps)=true->r (u j) w
def cX(P:Program)(ops:Array Oper)(b:Array Nat)(Rs:List (Nat×gN))(B:World->Prop)(a0:Act)(n:Nat)(u:Nat->Nat)(v:Nat->Value)(k:Nat):Prop:=
 (Region.wanted (ops.getD k default) (yielded ops (dx ops a0 v (λi=>decide (i<k)) n).tmps)=true->
  (find Rs k=none->∀w',B w'->lE ops b Rs a0 n u v k w'->(execOp (dx ops a0 v (λi=>decide (i<k)) n).eval (ops.getD k default)).run P w'= .ok (.value (v k)) w')/\
  (∀x,find Rs k=some (.det x)->v k=x/\∀w',B w'->lE ops b Rs a0 n u v k w'->dC P (ops.getD k default) (dx ops a0 v (λi=>decide (i<k)) n).eval w' λy w2=>Grow w' w2/\y=x)/\
  (∀mk r,find Rs k=some (.ind mk r)->v k=mk (u k)/\∀w',B w'->lE ops b Rs a0 n u v k w'->dC P (ops.getD k default) (dx ops a0 v (λi=>decide (i<k)) n).eval w' λy w2=>Grow w' w2/\∃x,y=mk x/\r x w2))/\
 (Region.wanted (ops.getD k default) (yielded ops (dx ops a0 v (λi=>decide (i<k)) n).tmps)=false->v k=undef)
theorem ik{n:Nat}{u:Nat->Nat}{v v':Nat->Value}{k:Nat}(h:∀j,j<k+1->v j=v' j)(hs:cX P ops b Rs B a0 n u v k):cX P ops b Rs B a0 n u v' k:=by
 have e:∀i,i<=k->dx ops a0 v (λj=>decide (j<i)) n=dx ops a0 v' (λj=>decide (j<i)) n:=λi hi=>fK _ _ _ _ (λj _ hs=>h j (by simp at hs;omega))
 have ea:∀w,lE ops b Rs a0 n u v' k w->lE ops b Rs a0 n u v k w:=by intro w ha j hj hb mk r hf hw;exact ha j hj hb mk r hf (by rw[<-e j (by omega)];exact hw)
 have ek:=h k (by omega);unfold cX at*;rw[<-e k (aL _), <-ek];refine⟨λhw=> ?_,hs.2⟩;obtain⟨h1,h2,h3⟩:=hs.1 hw;exact⟨λhf w' hb ha=>h1 hf w' hb (ea w' ha),λx hf=>⟨(h2 x hf).1,λw' hb ha=>(h2 x hf).2 w' hb (ea w' ha)⟩,λmk r hf=>⟨(h3 mk r hf).1,λw' hb ha=>(h3 mk r hf).2 w' hb (ea w' ha)⟩⟩
theorem gd{n:Nat}{fin:Act->List (Nat×(World->Prop))->Prop}(hn:n<=ops.size)(u:Nat->Nat):
  ∀(l:List Oper) (k:Nat) (v0:Nat->Value),k+l.length=n->(∀j,j<l.length->l[j]? =ops[k+j]?)->
   (∀j,j<k->cX P ops b Rs B a0 n u v0 j)->chain P ops b Rs B fin l k (dx ops a0 v0 (λi=>decide (i<k)) n) (fQ ops Rs a0 n u v0 k)->
   ∃v,(∀j,j<n->cX P ops b Rs B a0 n u v j)/\fin (dx ops a0 v (λi=>decide (i<n)) n) (fQ ops Rs a0 n u v n)
 | [],k,v0,hk,_,ht,hc=>by
  have:k=n:=by simpa using hk
  subst this;exact⟨v0,ht,hc⟩
 |o::l,k,v0,hk,hl,ht,hc=>by
  simp only[kq]at hk;have ho:ops.getD k default=o:=by have:=hl 0 (by simp);simp only[List.getElem?_cons_zero,KO]at this;simp[Pw, <-this]
  have hl':∀j,j<l.length->l[j]? =ops[k+1+j]? :=λj hj=>by
   have:=hl (j+1) (by simp;omega);simpa[Nat.add_assoc,Sm 1 j]using this
  -- the step to k+1,at a value x
  have go:∀x:Value,(cX P ops b Rs B a0 n u (λj=>if j=k then x else v0 j) k)->
    chain P ops b Rs B fin l (k+1) ((dx ops a0 v0 (λi=>decide (i<k)) n).put o.dst x) (fQ ops Rs a0 n u (λj=>if j=k then x else v0 j) (k+1))->
    ∃v,(∀j,j<n->cX P ops b Rs B a0 n u v j)/\fin (dx ops a0 v (λi=>decide (i<n)) n) (fQ ops Rs a0 n u v n):=by
   intro x hx hcx;refine gd hn u l (k+1) (λj=>if j=k then x else v0 j) (by omega) hl' ?_ ?_
   ·intro j hj;by_cases e:j=k
    ·subst e;exact hx
    ·exact ik (λi hi=>by simp[show i≠k by omega]) (ht j (by omega))
   ·have e:dx ops a0 (λj=>if j=k then x else v0 j) (λi=>decide (i<k+1)) n=(dx ops a0 v0 (λi=>decide (i<k)) n).put o.dst x:=by rw[iG _ (k+1) n (by omega),iG _ k n (by omega)];simp only[dx,uf];rw[ho,fK (λj=>if j=k then x else v0 j) v0 _ k (λj hj _=>by simp[show j≠k by omega])]
    rw[e];exact hcx
  have ek:∀x:Value,dx ops a0 (λj=>if j=k then x else v0 j) (λi=>decide (i<k)) n=dx ops a0 v0 (λi=>decide (i<k)) n:=λx=>
   fK _ _ _ _ (λj _ hs=>by
     have:j<k:=by simpa using hs
     simp[show j≠k by omega])
  have eh:∀x:Value,fQ ops Rs a0 n u (λj=>if j=k then x else v0 j) k=fQ ops Rs a0 n u v0 k:=λx=>
   sN (by omega) (λj hj=>by simp[show j≠k by omega])
  have ea:∀(x:Value) w,lE ops b Rs a0 n u (λj=>if j=k then x else v0 j) k w->∀p∈fQ ops Rs a0 n u v0 k,mB b k p.1=true->p.2 w:=by intro x w ha p hp hb;rw[<-eh x]at hp;obtain⟨h1,mk,r,hf,hw,h2⟩:=oH hp;rw[h2];exact ha p.1 h1 hb mk r hf hw
  unfold chain at hc;by_cases hw:Region.wanted o (yielded ops (dx ops a0 v0 (λi=>decide (i<k)) n).tmps)=true
  ·rw[if_pos hw]at hc;cases hf:find Rs k with
   |none=>
    rw[hf]at hc;obtain⟨x,h1,h2⟩:=hc;refine go x ?_ ?_
    ·unfold cX;rw[ek x,ho];refine⟨λ_=>⟨λ_ w' hb ha=> ?_,λy hy=>(by rw[hf]at hy;cases hy),λmk r hy=>(by rw[hf]at hy;cases hy)⟩,λhw'=>absurd hw (by rw[hw'];simp)⟩;simp only[uf];exact h1 w' hb (ea x w' ha)
    ·have:fQ ops Rs a0 n u (λj=>if j=k then x else v0 j) (k+1)=fQ ops Rs a0 n u v0 k:=by simp only[fQ,hf];rw[eh x];split<;>rfl
     rw[this];exact h2
   |some c=>
    cases c with
    |det y=>
     rw[hf]at hc;obtain⟨h1,h2⟩:=hc;refine go y ?_ ?_
     ·unfold cX;rw[ek y,ho];refine⟨λ_=>⟨λhy=>(by rw[hf]at hy;cases hy),λz hy=> ?_,λmk r hy=>(by rw[hf]at hy;cases hy)⟩,λhw'=>absurd hw (by rw[hw'];simp)⟩;rw[hf]at hy;cases hy
      exact⟨by simp,λw' hb ha=>h1 w' hb (ea y w' ha)⟩
     ·have:fQ ops Rs a0 n u (λj=>if j=k then y else v0 j) (k+1)=fQ ops Rs a0 n u v0 k:=by simp only[fQ,hf];rw[eh y];split<;>rfl
      rw[this];exact h2
    |ind mk r=>
     rw[hf]at hc;obtain⟨h1,h2⟩:=hc;refine go (mk (u k)) ?_ ?_
     ·unfold cX;rw[ek,ho];refine⟨λ_=>⟨λhy=>(by rw[hf]at hy;cases hy),λz hy=>(by rw[hf]at hy;cases hy),λmk' r' hy=> ?_⟩,λhw'=>absurd hw (by rw[hw'];simp)⟩;rw[hf]at hy;cases hy
      exact⟨by simp,λw' hb ha=>h1 w' hb (ea _ w' ha)⟩
     ·have:fQ ops Rs a0 n u (λj=>if j=k then mk (u k)else v0 j) (k+1)=(k,r (u k))::fQ ops Rs a0 n u v0 k:=by simp only[fQ,hf];rw[eh,ek,ho,if_pos hw]
      rw[this];exact h2 (u k)
  ·rw[if_neg hw]at hc;refine go undef ?_ ?_
   ·unfold cX;rw[ek,ho];exact⟨λhw'=>absurd hw' hw,λ_=>by simp⟩
   ·have:fQ ops Rs a0 n u (λj=>if j=k then undef else v0 j) (k+1)=fQ ops Rs a0 n u v0 k:=by simp only[fQ];rw[eh,ek,ho,if_neg hw]
    rw[this];exact hc
structure J (P:Program) (ops:Array Oper) (b:Array Nat) (Rs:List (Nat×gN)) (B:World->Prop) (a0:Act) (n:Nat) (w0:World) (u:Nat->Nat) (v:Nat->Value) (listed:Array Bool) (a:Act) (w:World):Prop where
 inv:HeadInv .any ops n listed
 tr:∀j,j<n->cX P ops b Rs B a0 n u v j
 fr:a=dx ops a0 v (λj=>listed.getD j false) n
 bw:B w
 gw:Grow w0 w
 facts:∀j,j<n->listed.getD j false=true->∀mk r,find Rs j=some (.ind mk r)->Region.wanted (ops.getD j default) (yielded ops (dx ops a0 v (λi=>decide (i<j)) n).tmps)=true->r (u j) w
theorem jx{n:Nat}{listed:Array Bool}(ok:OK ops n b)(inv:HeadInv .any ops n listed){u u':Nat->Nat}{v v':Nat->Value}{w:World}(hB:B w)
  (tr:∀j,j<n->cX P ops b Rs B a0 n u v j) (tr':∀j,j<n->cX P ops b Rs B a0 n u' v' j)
  (hu:∀j,listed.getD j false=true->u j=u' j)
  (facts:∀j,j<n->listed.getD j false=true->∀mk r,find Rs j=some (.ind mk r)->Region.wanted (ops.getD j default) (yielded ops (dx ops a0 v (λi=>decide (i<j)) n).tmps)=true->r (u j) w):
  ∀i,i<n->listed.getD i false=true->v i=v' i/\Region.wanted (ops.getD i default) (yielded ops (dx ops a0 v (λj=>decide (j<i)) n).tmps)=Region.wanted (ops.getD i default) (yielded ops (dx ops a0 v' (λj=>decide (j<i)) n).tmps):=by
 intro i;induction i using Nat.strongRecOn with
 |_ i ih=>
  intro hin hl;have hi:i<ops.size:=by have:=ok.le;omega
  have hal:=gQ (ops:=ops) (o:=ops.getD i default) (a:=dx ops a0 v (λj=>decide (j<i)) n) (a':=dx ops a0 v' (λj=>decide (j<i)) n)
   (Region.noSelect_spec ok.Sx i _ · · (ib hi)) (λt ht=>by
    refine gA _ _ _ _ t n (λj hj hd=>⟨rfl,λhs=> ?_⟩);have hji:j<i:=by simpa using hs
    rcases ok.looks i hin t ht j hj (by omega) hd with h|h
    ·exact(ih j hji hj (fx ok inv i hi hl j (by have:=ok.le;omega) h)).1
    ·have:=ok.lt j i (by have:=ok.le;omega) hi h;omega)
  refine⟨?_,hal.2⟩;have s1:=tr i hin;have s2:=tr' i hin;unfold cX at s1 s2;rw[<-hal.2, <-hal.1]at s2;have av:lE ops b Rs a0 n u v i w:=λj hj hb mk r hf hw=>facts j (by omega) (fx ok inv i hi hl j (by omega) hb) mk r hf hw
  have av':lE ops b Rs a0 n u' v' i w:=λj hj hb mk r hf hw=>by
   have hlj:=fx ok inv i hi hl j (by omega) hb;rw[<-hu j hlj];exact facts j (by omega) hlj mk r hf (by rw[(ih j hj (by omega) hlj).2];exact hw)
  cases hw:Region.wanted (ops.getD i default) (yielded ops (dx ops a0 v (λj=>decide (j<i)) n).tmps)with
  |false=>rw[s1.2 hw,s2.2 hw]
  |true=>
   obtain⟨a1,a2,a3⟩:=s1.1 hw;obtain⟨c1,c2,c3⟩:=s2.1 hw;cases hf:find Rs i with
   |none=>have e1:=a1 hf w hB av;have e2:=c1 hf w hB av';rw[e1]at e2;simpa using e2
   |some c=>
    cases c with
    |det x=>rw[(a2 x hf).1,(c2 x hf).1]
    |ind mk r=>rw[(a3 mk r hf).1,(c3 mk r hf).1,hu i hl]
def dm(Rs:List (Nat×gN)):Prop:=∀j mk r,find Rs j=some (.ind mk r)->∀x w w',r x w->Grow w w'->r x w'
theorem pH{n:Nat}{w0:World}{u:Nat->Nat}{v:Nat->Value}{listed:Array Bool}{a:Act}{w:World}{Q:Exit->Act->World->Prop}(ok:OK ops n b)(hmono:dm Rs)
  (hBm:∀w w',B w->Grow w w'->B w') (hall:∀u,∃v,∀j,j<n->cX P ops b Rs B a0 n u v j)
  (hJ:J P ops b Rs B a0 n w0 u v listed a w) {i:Nat} (hin:i<n) (hr:i∈Region.ready .any ops listed):
  wpOp P ops Q i (λa' w'=> ∃u v,J P ops b Rs B a0 n w0 u v (listed.setIfInBounds i true) a' w') a w:=by
 obtain⟨hul,o,ho,_⟩:=mem_ready.1 hr;have hi:i<ops.size:=(iS.1 ho).1;have hul':=getD_both hul;have hod:=getD_some ho;have inv':=hJ.inv.set hr hin;have hdist:∀j,j<n->j≠i->(ops.getD j default).dst=none\/(ops.getD j default).dst≠(ops.getD i default).dst:=by
  intro j hj hne;rcases Nat.lt_or_gt_of_ne hne with h|h
  ·exact ok.Lu j i h hin
  ·rcases ok.Lu i j h hj with h'|h'
   ·by_cases e:(ops.getD j default).dst=none
    ·exact .inl e
    ·right;rw[h'];exact e
   ·right;exact nq h'
 have hlset:(λj=>(listed.setIfInBounds i true).getD j false)=λj=>if j=i then true else listed.getD j false:=by
  funext j;by_cases e:j=i
  ·subst e
   have:j<listed.size:=by rw[hJ.inv.size];exact hi
   simp[this]
  ·rw[if_neg e,getD_set_ne false (nq e)]
 have hal:=gQ (ops:=ops) (o:=o) (a:=a) (a':=dx ops a0 v (λj=>decide (j<i)) n)
  (Region.noSelect_spec ok.Sx i _ · · ho) (λt ht=>by rw[hJ.fr];exact jF ok hJ.inv hin hr v t (by rw[hod];exact ht))
 have av:lE ops b Rs a0 n u v i w:=λj hj hb mk r hf hw=>hJ.facts j (by omega) (fJ ok hJ.inv hr (by omega) hb) mk r hf hw
 have st:=hJ.tr i hin;unfold cX at st;rw[hod]at st
 -- the same blocks,the frame with one value more
 have bD:∀w2,Grow w w2->(∀mk r,find Rs i=some (.ind mk r)->Region.wanted o (yielded ops (dx ops a0 v (λj=>decide (j<i)) n).tmps)=true->r (u i) w2)->
   ∃u v,J P ops b Rs B a0 n w0 u v (listed.setIfInBounds i true) (a.put o.dst (v i)) w2:=by
  intro w2 hg hfi;refine⟨u,v,inv',hJ.tr, ?_,hBm _ _ hJ.bw hg,hJ.gw.trans hg, ?_⟩
  ·rw[hlset,iq v _ i n hin hul' hdist v (λ_ _=>rfl),hod,hJ.fr]
  ·intro j hj hl mk r hf hw;by_cases e:j=i
   ·subst e;exact hfi mk r hf (by rw[hod]at hw;exact hw)
   ·rw[getD_set_ne false (nq e)]at hl;exact hmono j mk r hf _ _ _ (hJ.facts j hj hl mk r hf hw) hg
 unfold wpOp;simp only[ho];rw[hal.2];cases hw:Region.wanted o (yielded ops (dx ops a0 v (λj=>decide (j<i)) n).tmps)with
 |false=>
  simp only[GA,B6];obtain⟨u',v',h⟩:=bD w (Grow.refl w) (λmk r _ hw'=>by rw[hw]at hw';cases hw')
  have:=st.2 hw;refine⟨u,v, ?_⟩;have hh:J P ops b Rs B a0 n w0 u v (listed.setIfInBounds i true) (a.put o.dst (v i)) w:=by
   refine⟨inv',hJ.tr, ?_,hJ.bw,hJ.gw, ?_⟩
   ·rw[hlset,iq v _ i n hin hul' hdist v (λ_ _=>rfl),hod,hJ.fr]
   ·intro j hj hl mk r hf hw2;by_cases e:j=i
    ·subst e;rw[hod,hw]at hw2;cases hw2
    ·rw[getD_set_ne false (nq e)]at hl;exact hJ.facts j hj hl mk r hf hw2
  rw[this]at hh;exact hh
 |true=>
  simp only[uf];left;obtain⟨s1,s2,s3⟩:=st.1 hw;cases hf:find Rs i with
  |none=>
   have e:=s1 hf w hJ.bw av;rw[<-hal.1]at e;unfold Oper.wp;rw[e];simp only[Oper.upon];refine⟨u,v,inv',hJ.tr, ?_,hJ.bw,hJ.gw, ?_⟩
   ·rw[hlset,iq v _ i n hin hul' hdist v (λ_ _=>rfl),hod,hJ.fr]
   ·intro j hj hl mk r hf' hw2;by_cases e:j=i
    ·subst e;rw[hf]at hf';cases hf'
    ·rw[getD_set_ne false (nq e)]at hl;exact hJ.facts j hj hl mk r hf' hw2
  |some c=>
   cases c with
   |det x=>
    obtain⟨ex,hrun⟩:=s2 x hf
    have:=hrun w hJ.bw av;have hrun':dC P o a.eval w λy w2=>Grow w w2/\y=x:=by unfold dC at*;rw[hal.1];exact this
    refine j7 hrun' ?_;rintro y w2 ⟨hg,rfl⟩;refine⟨u,v,inv',hJ.tr, ?_,hBm _ _ hJ.bw hg,hJ.gw.trans hg, ?_⟩
    ·rw[hlset,iq v _ i n hin hul' hdist v (λ_ _=>rfl),hod,hJ.fr,ex]
    ·intro j hj hl mk r hf' hw2;by_cases e:j=i
     ·subst e;rw[hf]at hf';cases hf'
     ·rw[getD_set_ne false (nq e)]at hl;exact hmono j mk r hf' _ _ _ (hJ.facts j hj hl mk r hf' hw2) hg
   |ind mk r=>
    obtain⟨_,hrun⟩:=s3 mk r hf
    have:=hrun w hJ.bw av;have hrun':dC P o a.eval w λy w2=>Grow w w2/\∃x,y=mk x/\r x w2:=by unfold dC at*;rw[hal.1];exact this
    refine j7 hrun' ?_;rintro y w2 ⟨hg,x,rfl,hx⟩;obtain⟨v',tr'⟩:=hall (λj=>if j=i then x else u j);have hva:=jx ok hJ.inv hJ.bw hJ.tr tr' (λj hl=>by
     have:j≠i:=λe=>by subst e;rw[hul']at hl;cases hl
     simp[this]) hJ.facts
    -- the text's frame at i is alike under v and v'
    have hal2:=gQ (ops:=ops) (o:=o) (a:=dx ops a0 v (λj=>decide (j<i)) n) (a':=dx ops a0 v' (λj=>decide (j<i)) n)
     (Region.noSelect_spec ok.Sx i _ · · ho) (λt ht=>by
      refine gA _ _ _ _ t n (λj hj hd=>⟨rfl,λhs=> ?_⟩);have hji:j<i:=by simpa using hs
      rcases ok.looks i hin t (by rw[hod];exact ht) j hj (by omega) hd with h|h
      ·exact(hva j hj (fJ ok hJ.inv hr (by omega) h)).1
      ·have:=ok.lt j i (by omega) hi h;omega)
    have ev:v' i=mk x:=by
     have:=tr' i hin;unfold cX at this;rw[hod, <-hal2.2]at this
     have:=((this.1 hw).2.2 mk r hf).1;simpa using this
    refine⟨λj=>if j=i then x else u j,v',inv',tr', ?_,hBm _ _ hJ.bw hg,hJ.gw.trans hg, ?_⟩
    ·rw[hlset,iq v _ i n hin hul' hdist v' (λj hs=> ?_),hod,hJ.fr,ev];by_cases hjn:j<n
     ·exact(hva j hjn hs).1
     ·have:listed.getD j false=false:=by
       by_cases hjs:j<ops.size
       ·exact getD_both (hJ.inv.tail j (by omega) hjs)
       ·rw[Pw,Array.getElem?_eq_none (by rw[hJ.inv.size];omega)];rfl
      rw[this]at hs;cases hs
    ·intro j hj hl mk' r' hf' hw2;by_cases e:j=i
     ·subst e;rw[hf]at hf';cases hf';simpa using hx
     ·rw[getD_set_ne false (nq e)]at hl;simp only[if_neg e];exact hmono j mk' r' hf' _ _ _ (hJ.facts j hj hl mk' r' hf' (by rw[(hva j hj hl).2];exact hw2)) hg
theorem mh{n:Nat}{w0:World}{Q:Exit->Act->World->Prop}(ok:OK ops n b)(hmono:dm Rs)(hBm:∀w w',B w->Grow w w'->B w')
  (hall:∀u,∃v,(∀j,j<n->cX P ops b Rs B a0 n u v j)/\(∀w,B w->Grow w0 w->(∀p∈fQ ops Rs a0 n u v n,p.2 w)->wpList P ops Q (ops.toList.drop n) (dx ops a0 v (λi=>decide (i<n)) n) w)):
  ∀(m:Nat) (listed:Array Bool) (a:Act) (w:World),left listed n=m->(∃u v,J P ops b Rs B a0 n w0 u v listed a w)->wpAny P .any ops Q (m+(ops.size-n)) listed a w:=by
 intro m;induction m with
 |zero=>
  rintro listed a w hm ⟨u,v,hJ⟩;have hl:∀j,j<n->listed.getD j false=true:=by
   intro j hj
   have:=Kx.1 hm j (by simpa using hj);simpa using this
  have e:listed=Array.replicate n true++Array.replicate (ops.size-n) false:=by
   apply Array.ext
   ·rw[hJ.inv.size];simp;have:=ok.le;omega
   ·intro i h1 h2;by_cases hi:i<n
    ·have:=hl i hi;simp[h1]at this;rw[this,Array.getElem_append_left (by simpa using hi)];simp
    ·have:=hJ.inv.tail i (by omega) (by rw[<-hJ.inv.size];exact h1);simp[h1]at this;rw[this,Array.getElem_append_right (by simp;omega)];simp
  obtain⟨v',tr',hfin⟩:=hall u;have hva:=jx ok hJ.inv hJ.bw hJ.tr tr' (λ_ _=>rfl) hJ.facts;have ef:a=dx ops a0 v' (λi=>decide (i<n)) n:=by rw[hJ.fr];refine mz (by rw[dQ,dQ]) (by rw[dN,dN]) (λt=>gA _ _ _ _ t n (λj hj _=>⟨by rw[hl j hj];simp[hj],λ_=>(hva j hj (hl j hj)).1⟩))
  have hw:=hfin w hJ.bw hJ.gw (λp hp=>by
   obtain⟨h1,mk,r,hf,hwt,h2⟩:=oH hp;rw[h2];exact hJ.facts p.1 h1 (hl p.1 h1) mk r hf (by rw[(hva p.1 h1 (hl p.1 h1)).2];exact hwt))
  rw[<-ef]at hw;have hlen:(ops.toList.drop n).length=ops.size-n:=by simp
  have:=wpAny_of_seq (md:= .any) (Q':=Q) (ops.toList.drop n) n listed a w (λj=>by simp[GI]) (by rw[hlen,e];exact ok.seq) hw;rw[hlen]at this;rw[nW];exact this
 |succ m ih=>
  rintro listed a w hm ⟨u,v,hJ⟩;rw[show m+1+(ops.size-n)=(m+(ops.size-n))+1 by omega];refine⟨λhnil=> ?_,λi hi=> ?_⟩
  ·exfalso;have hex:∃k,k<n/\listed.getD k false=false/\∀j,j<k->listed.getD j false=true:=by
    have:∀N,N<=n->(∀j,j<N->listed.getD j false=true)\/∃k,k<n/\listed.getD k false=false/\∀j,j<k->listed.getD j false=true:=by
     intro N;induction N with
     |zero=>intro _;left;intro j hj;omega
     |succ N ihN=>
      intro hN;rcases ihN (by omega)with h|h
      ·cases hl:listed.getD N false with
       |false=>right;exact⟨N,by omega,hl,h⟩
       |true=>
         left;intro j hj;by_cases e:j=N
         ·subst e;exact hl
         ·exact h j (by omega)
      ·exact .inr h
    rcases this n (aL _)with h|h
    ·have:left listed n=0:=Kx.2 (λj hj=>by have:=h j (by simpa using hj);simp at this⊢;exact this);omega
    ·exact h
   obtain⟨k,hk,hkl,hlow⟩:=hex;have hks:k<ops.size:=by have:=ok.le;omega
   have:k∈Region.ready .any ops listed:=mem_ready.2 ⟨getD_in (by rw[hJ.inv.size];exact hks) hkl,_,ib hks,λe he hb=>hlow e.on (ok.Ig k hks e he hb).1⟩;rw[hnil]at this;cases this
  ·have hin:i<n:=by
    rcases PQ i n with h|h
    ·exact h
    ·exfalso;obtain⟨_,o,ho,_⟩:=mem_ready.1 hi;have his:i<ops.size:=(iS.1 ho).1
     have:left listed n=0:=Kx.2 (λj hj=>by
      have hjn:j<n:=by simpa using hj
      have:=fJ ok hJ.inv hi (by omega) (ok.tail i j h his hjn);simp at this⊢;exact this)
     omega
   obtain⟨hul,o,ho,_⟩:=mem_ready.1 hi;have his:i<ops.size:=(iS.1 ho).1;have hls:i<listed.size:=by rw[hJ.inv.size];exact his
   have hc:left (listed.setIfInBounds i true) n=m:=by have:=lZ (n:=n) hin hls (getD_both hul);omega
   exact wpOp_mono (λa' w' h=>ih _ a' w' hc h) (pH ok hmono hBm (λu=>let ⟨v,h,_⟩:=hall u;⟨v,h⟩) hJ hin hi)
theorem ai{id:Nat}{Q:Exit->Act->World->Prop}{a:Act}{w:World}{l:List Oper}(n:Nat)(Rs:List (Nat×gN))(B:World->Prop)
  (hm:P.follows .mixedOrders=true) (hok:sZ l.toArray n=true) (hmono:dm Rs) (hB0:B w.drew) (hBm:∀w w',B w->Grow w w'->B w')
  (h:chain P l.toArray (Region.before l.toArray) Rs B (λa' hs=> ∀w',B w'->Grow w.drew w'->(∀p∈hs,p.2 w')->wpList P l.toArray Q (l.drop n) a' w') (l.take n) 0 a []):
  (Code.region id l.toArray true).wp P Q a w:=by
 have ok:=OK.of hok;have hle:n<=l.length:=by simpa using ok.le
 have hall:∀u,∃v,(∀j,j<n->cX P l.toArray (Region.before l.toArray) Rs B a n u v j)/\(∀w',B w'->Grow w.drew w'->(∀p∈fQ l.toArray Rs a n u v n,p.2 w')->wpList P l.toArray Q (l.toArray.toList.drop n) (dx l.toArray a v (λi=>decide (i<n)) n) w'):=by
  intro u;have e0:dx l.toArray a (λ_=>undef) (λi=>decide (i<0)) n=a:=by rw[iG _ 0 n (by omega)];rfl
  exact gd ok.le u (l.take n) 0 (λ_=>undef) (by simp;omega) (λj hj=>by
   have:j<n:=by simp at hj;omega
   simp[this]) (λj hj=>by omega) (by rw[e0];exact h)
 refine wp_region_any hm ?_;have inv0:HeadInv .any l.toArray n (Array.replicate l.toArray.size false):=
  ⟨by simp,λj oj _ hl=>(by rw[getD_replicate_false]at hl;cases hl),λt _ ht=>getD_in (by simpa using ht) (getD_replicate_false _ _)⟩
 obtain⟨v,tr,_⟩:=hall (λ_=>0);have hleft:left (Array.replicate l.toArray.size false) n=n:=by
  unfold left
  have:(List.range n).countP (λj=> !(Array.replicate l.toArray.size false).getD j false)=(List.range n).length:=List.countP_eq_length.2 (λj _=>by rw[getD_replicate_false];rfl);rw[this];simp
 have J0:J P l.toArray (Region.before l.toArray) Rs B a n w.drew (λ_=>0) v (Array.replicate l.toArray.size false) a w.drew:=by
  refine⟨inv0,tr, ?_,hB0,Grow.refl _,λj hj hl=>(by rw[getD_replicate_false]at hl;cases hl)⟩
  have:(λj=>(Array.replicate l.toArray.size false).getD j false)=λi=>decide (i<0):=by funext j;rw[getD_replicate_false];simp
  rw[this,iG _ 0 n (by omega)];rfl
 have:=mh (w0:=w.drew) (Q:=Q) ok hmono hBm hall n _ a w.drew hleft ⟨_,v,J0⟩;rw[show n+(l.toArray.size-n)=l.toArray.size by simp;omega]at this;exact this
variable {fin:Act->List (Nat×(World->Prop))->Prop} {o:Oper} {rest:List Oper} {k:Nat} {a:Act} {h:List (Nat×(World->Prop))}
theorem ae(hw:Region.wanted o (yielded ops a.tmps)=true)(hf:find Rs k=none){v:Value}
  (h1:∀w',B w'->(∀p∈h,mB b k p.1=true->p.2 w')->(execOp a.eval o).run P w'= .ok (.value v) w') (h2:chain P ops b Rs B fin rest (k+1) (a.put o.dst v) h):
  chain P ops b Rs B fin (o::rest) k a h:=by
 unfold chain;rw[if_pos hw,hf];exact⟨v,h1,h2⟩
theorem aC(hw:Region.wanted o (yielded ops a.tmps)=true){x:Value}(hf:find Rs k=some (.det x))
  (h1:∀w',B w'->(∀p∈h,mB b k p.1=true->p.2 w')->dC P o a.eval w' λu w2=>Grow w' w2/\u=x) (h2:chain P ops b Rs B fin rest (k+1) (a.put o.dst x) h):
  chain P ops b Rs B fin (o::rest) k a h:=by
 unfold chain;rw[if_pos hw,hf];exact⟨h1,h2⟩
theorem aR(hw:Region.wanted o (yielded ops a.tmps)=true){mk:Nat->Value}{r:Nat->World->Prop}(hf:find Rs k=some (.ind mk r))
  (h1:∀w',B w'->(∀p∈h,mB b k p.1=true->p.2 w')->dC P o a.eval w' λu w2=>Grow w' w2/\∃x,u=mk x/\r x w2)
  (h2:∀x,chain P ops b Rs B fin rest (k+1) (a.put o.dst (mk x)) ((k,r x)::h)):
  chain P ops b Rs B fin (o::rest) k a h:=by
 unfold chain;rw[if_pos hw,hf];exact⟨h1,h2⟩
theorem dw(hw:Region.wanted o (yielded ops a.tmps)=false)(h2:chain P ops b Rs B fin rest (k+1) (a.put o.dst undef) h):
  chain P ops b Rs B fin (o::rest) k a h:=by
 unfold chain;rw[if_neg (by rw[hw];simp)];exact h2
theorem ax(h2:fin a h):chain P ops b Rs B fin [] k a h:=h2
end
theorem aW{Rs:List (Nat×gN)}(h:∀j mk r,find Rs j≠some (.ind mk r)):dm Rs:=λj mk r hf=>absurd hf (h j mk r)
attribute [irreducible] chain
end Go.Fre2
namespace Go.Free
abbrev lB:Fre2.Rel:=⟨Grow,Grow.refl,λ_ _ _=>Grow.trans⟩
abbrev chain:= @Fre2.chain lB
abbrev cX:= @Fre2.cX lB
abbrev J:= @Fre2.J lB
abbrev dm:= @Fre2.dm lB
def ik:= @Fre2.ik lB
def gd:= @Fre2.gd lB
def jx:= @Fre2.jx lB
def pH:= @Fre2.pH lB
def mh:= @Fre2.mh lB
def ai:= @Fre2.ai lB
def ae:= @Fre2.ae lB
def aC:= @Fre2.aC lB
def aR:= @Fre2.aR lB
def dw:= @Fre2.dw lB
def ax:= @Fre2.ax lB
def aW:= @Fre2.aW lB
end Go.Free
