/- A region that draws its order, whose forced end calls the body of a range over a function: the rule of Free inside a fence. Condition: the first part defers nothing. -/
import Derived.Test.YtkmbmfengcdmoaaGreatDoorZAR
import Derived.Test.YtkmbmfengcdmoaaGreatDoorZAA
import Derived.Lib.SmallJoins
import Derived.Test.YtkmbmfengcdmoaaGreatDoorFree
import Derived.OrdersIn
import Derived.RangeFuncCalls
import Derived.Laws.Tables
import Derived.StillTail
set_option maxRecDepth 100000
set_option linter.all false
namespace Go.Proofs.YtkmbmfengcdmoaaGreatDoor
open Go.RowKit Go.ay Go.Opn Go.ChangeShapes Go.WideShapes Go.Deep Go.OpenShut

def wu(x y:ei):Bool:=decide (x.ref=y.ref/\x.act=y.act/\x.low=y.low/\x.high=y.high/\x.cJ=y.cJ/\x.secret=y.secret)
instance:Inhabited ei:=⟨⟨0,0,0,0,0,false⟩⟩
theorem JV(x y:ei)(W:World):(binOp .neq 29 (.agg (bU x).toArray) (.agg (bU y).toArray)).run Tryz.prog W= .ok (.bool (!wu x y)) W:=by
 obtain⟨ar,aa,al,ah,af,az⟩:=x;obtain⟨br,ba,bl,bh,bf,bz⟩:=y;show(binOp .neq 29 (.agg #[.int .i64 ar, .int .i64 aa, .int .i64 al, .int .i64 ah, .int .i64 af, .bool az]) (.agg #[.int .i64 br, .int .i64 ba, .int .i64 bl, .int .i64 bh, .int .i64 bf, .bool bz])).run Tryz.prog W=_;by_cases h1:ar=br
 ·subst h1;by_cases h2:aa=ba
  ·subst h2;by_cases h3:al=bl
   ·subst h3;by_cases h4:ah=bh
    ·subst h4;by_cases h5:af=bf
     ·subst h5;by_cases h6:az=bz
      ·subst h6;have hq:wu ⟨ar,aa,al,ah,af,az⟩ ⟨ar,aa,al,ah,af,az⟩=true:=by unfold wu;simp[]
       rw[hq];clear hq;go_simp<;>rfl
      ·have hq:wu ⟨ar,aa,al,ah,af,az⟩ ⟨ar,aa,al,ah,af,bz⟩=false:=by unfold wu;simp[h6]
       rw[hq];clear hq;go_simp<;>rfl
     ·have hq:wu ⟨ar,aa,al,ah,af,az⟩ ⟨ar,aa,al,ah,bf,bz⟩=false:=by unfold wu;simp[h5]
      rw[hq];clear hq;go_simp<;>rfl
    ·have hq:wu ⟨ar,aa,al,ah,af,az⟩ ⟨ar,aa,al,bh,bf,bz⟩=false:=by unfold wu;simp[h4]
     rw[hq];clear hq;go_simp<;>rfl
   ·have hq:wu ⟨ar,aa,al,ah,af,az⟩ ⟨ar,aa,bl,bh,bf,bz⟩=false:=by unfold wu;simp[h3]
    rw[hq];clear hq;go_simp<;>rfl
  ·have hq:wu ⟨ar,aa,al,ah,af,az⟩ ⟨ar,ba,bl,bh,bf,bz⟩=false:=by unfold wu;simp[h2]
   rw[hq];clear hq;go_simp<;>rfl
 ·have hq:wu ⟨ar,aa,al,ah,af,az⟩ ⟨br,ba,bl,bh,bf,bz⟩=false:=by unfold wu;simp[h1]
  rw[hq];clear hq;go_simp<;>rfl
theorem Ew{o:Oper}{ρ:Operand->Value}{w:World}{a b:Operand}{x y:ei}{Q:Bool}(ho:o.op= .binOp .neq 29 a b 29)(ha:ρ a= .agg (bU x).toArray)(hb:ρ b= .agg (bU y).toArray)(hQ:(!wu x y)=Q):
  (execOp ρ o).run Tryz.prog w= .ok (.value (.bool Q)) w:=by
 have hg:(eqGuard .neq 29 a b (.agg (bU x).toArray) (.agg (bU y).toArray)).run Tryz.prog w= .ok () w:=by unfold eqGuard;simp
 unfold execOp;simp only[ho,ha,hb,Sem.run_bind,hg,Result.andThen_ok,JV,Sem.run_pure,hQ]
end Go.Proofs.YtkmbmfengcdmoaaGreatDoor
namespace Go.Fre7
open Go Go.RowKit
open Go.Free (mB s7 sZ dx put_defers oV gY gX dQ dN gA mz iq OK iG fK getD_some ib fx fJ jF gQ left lZ)

def dC(P:Program)(o:Oper)(ρ:Operand->Value)(w:World)(K:Value->World->Prop):Prop:=
 match (execOp ρ o).run P w with
 | .ok (.value v) w'=>K v w'
 | .ok .skip w'=>K undef w'
 | .ok (.enter f args) w'=>Calls P f args w' fun
   | .returned v,w''=>K v w''
   |_,_=>False
 |_=>False
theorem j7{P:Program}{o:Oper}{a:Act}{w:World}{K:Value->World->Prop}{next:Act->World->Prop}{Q:Exit->Act->World->Prop}
  (h:dC P o a.eval w K) (hn:∀v w',K v w'->next (a.put o.dst v) w'):o.wp P a w next Q:=by
 unfold dC at h;unfold Oper.wp;generalize (execOp a.eval o).run P w=r at h;cases r with
 |halt x w'=>exact h.elim
 |ok x w'=>
  cases x<;>simp only[Oper.upon]at h⊢
  case value v=>exact hn _ _ h
  case skip=>exact hn _ _ h
  case enter f args=>
   refine h.mono ?_;intro e w'' he;cases e<;>first|exact hn _ _ he|exact he.elim
  all_goals exact h.elim
theorem tg{P:Program}{o:Oper}{w:World}{K:Value->World->Prop}{ρ:Operand->Value}{w':World}(h:(execOp ρ o).run P w= .ok .skip w')(hk:K undef w'):dC P o ρ w K:=by unfold dC;rw[h];exact hk
theorem au{P:Program}{o:Oper}{w:World}{K:Value->World->Prop}{ρ:Operand->Value}{f:FuncId}{args:Array Value}(h:(execOp ρ o).run P w= .ok (.enter f args) w)
  (hk:Calls P f args w λe w'=> ∃v,e= .returned v/\K v w'):dC P o ρ w K:=by
 unfold dC;rw[h];refine hk.mono ?_;rintro e w' ⟨v,rfl,hv⟩;exact hv
def cl:List Nat->Nat->Option Nat
 | [],_=>none
 |c::r,k=>if c=k then some 0 else(cl r k).map (· +1)
theorem Co:∀(Cs:List Nat) (k:Nat),cl Cs k=none->k∉Cs
 | [],_,_=>by simp
 |c::r,k,h=>by
  unfold cl at h;split at h
  ·cases h
  ·rename_i hne;have h2:cl r k=none:=by cases hc:cl r k with|none=>rfl|some x=>rw[hc]at h;cases h
   intro hm;rcases lC.1 hm with e|e
   ·exact hne e.symm
   ·exact Co r k h2 e
theorem yh:∀(Cs:List Nat) (k c:Nat),cl Cs k=some c->∃L1 L2,Cs=L1++k::L2/\L1.length=c
 | [],_,_,h=>by cases h
 |x::r,k,c,h=>by
  unfold cl at h;split at h
  ·rename_i e;cases h
   exact⟨[],r,by rw[e];rfl,rfl⟩
  ·cases hc:cl r k with
   |none=>rw[hc]at h;cases h
   |some y=>
    rw[hc]at h;cases h
    obtain⟨L1,L2,h1,h2⟩:=yh r k y hc;exact⟨x::L1,L2,by rw[h1];rfl,by simp[h2]⟩
def pw(b:Array Nat):List Nat->Bool
 | []=>true
 |c::r=>r.all (λq=>mB b q c)&&pw b r
def oq(b:Array Nat)(Cs:List Nat)(n:Nat):Bool:=Cs.all (λc=>decide (c<n))&&pw b Cs
theorem zh{b:Array Nat}:∀(L1 L2:List Nat) (k:Nat),pw b (L1++k::L2)=true->(∀x∈L1,mB b k x=true)/\(∀y∈L2,mB b y k=true)
 | [],L2,k,h=>by
  unfold pw at h;rw[xK]at h;simp only[ua,GJ]at h;exact⟨λx hx=>by simp at hx,h.1⟩
 |x::L1,L2,k,h=>by
  rw[xC]at h;unfold pw at h;simp only[ua,GJ]at h;obtain⟨h1,h2⟩:=zh L1 L2 k h.2;refine⟨λy hy=> ?_,h2⟩;rcases lC.1 hy with e|e
  ·rw[e];exact h.1 k (by simp)
  ·exact h1 y e
def Kc(Cs:List Nat)(listed:Array Bool):Nat:=Cs.countP (λc=>listed.getD c false)
section
variable (P:Program) (ops:Array Oper) (b:Array Nat) (Cs:List Nat) (B:Nat->World->Prop)
def chain(fin:Act->Prop):List Oper->Nat->Act->Prop
 | [],_,a=>fin a
 |o::rest,k,a=>
  if Region.wanted o (yielded ops a.tmps)then
   match cl Cs k with
   |none=> ∃v,(∀s w',B s w'->(execOp a.eval o).run P w'= .ok (.value v) w')/\chain fin rest (k+1) (a.put o.dst v)
   |some c=> ∃x,(∀w',B c w'->dC P o a.eval w' λu w2=>B (c+1) w2/\u=x)/\chain fin rest (k+1) (a.put o.dst x)
  else cl Cs k=none/\chain fin rest (k+1) (a.put o.dst undef)
end
section
variable {P:Program} {ops:Array Oper} {b:Array Nat} {Cs:List Nat} {B:Nat->World->Prop} {a0:Act}
def cX(P:Program)(ops:Array Oper)(Cs:List Nat)(B:Nat->World->Prop)(a0:Act)(n:Nat)(v:Nat->Value)(k:Nat):Prop:=
 (Region.wanted (ops.getD k default) (yielded ops (dx ops a0 v (λi=>decide (i<k)) n).tmps)=true->
  (cl Cs k=none->∀s w',B s w'->(execOp (dx ops a0 v (λi=>decide (i<k)) n).eval (ops.getD k default)).run P w'= .ok (.value (v k)) w')/\
  (∀c,cl Cs k=some c->∀w',B c w'->dC P (ops.getD k default) (dx ops a0 v (λi=>decide (i<k)) n).eval w' λy w2=>B (c+1) w2/\y=v k))/\
 (Region.wanted (ops.getD k default) (yielded ops (dx ops a0 v (λi=>decide (i<k)) n).tmps)=false->cl Cs k=none/\v k=undef)
theorem ik{n:Nat}{v v':Nat->Value}{k:Nat}(h:∀j,j<k+1->v j=v' j)(hs:cX P ops Cs B a0 n v k):cX P ops Cs B a0 n v' k:=by have e:dx ops a0 v (λj=>decide (j<k)) n=dx ops a0 v' (λj=>decide (j<k)) n:=fK _ _ _ _ (λj _ hs=>h j (by simp at hs;omega));have ek:=h k (by omega);unfold cX at*;rw[<-e, <-ek];exact hs
theorem gd{n:Nat}{fin:Act->Prop}(hn:n<=ops.size):
  ∀(l:List Oper) (k:Nat) (v0:Nat->Value),k+l.length=n->(∀j,j<l.length->l[j]? =ops[k+j]?)->
   (∀j,j<k->cX P ops Cs B a0 n v0 j)->chain P ops Cs B fin l k (dx ops a0 v0 (λi=>decide (i<k)) n)->
   ∃v,(∀j,j<n->cX P ops Cs B a0 n v j)/\fin (dx ops a0 v (λi=>decide (i<n)) n)
 | [],k,v0,hk,_,ht,hc=>by
  have:k=n:=by simpa using hk
  subst this;exact⟨v0,ht,hc⟩
 |o::l,k,v0,hk,hl,ht,hc=>by
  simp only[kq]at hk;have ho:ops.getD k default=o:=by have:=hl 0 (by simp);simp only[List.getElem?_cons_zero,KO]at this;simp[Pw, <-this]
  have hl':∀j,j<l.length->l[j]? =ops[k+1+j]? :=λj hj=>by
   have:=hl (j+1) (by simp;omega);simpa[Nat.add_assoc,Sm 1 j]using this
  have go:∀x:Value,(cX P ops Cs B a0 n (λj=>if j=k then x else v0 j) k)->
    chain P ops Cs B fin l (k+1) ((dx ops a0 v0 (λi=>decide (i<k)) n).put o.dst x)->
    ∃v,(∀j,j<n->cX P ops Cs B a0 n v j)/\fin (dx ops a0 v (λi=>decide (i<n)) n):=by
   intro x hx hcx;refine gd hn l (k+1) (λj=>if j=k then x else v0 j) (by omega) hl' ?_ ?_
   ·intro j hj;by_cases e:j=k
    ·subst e;exact hx
    ·exact ik (λi hi=>by simp[show i≠k by omega]) (ht j (by omega))
   ·have e:dx ops a0 (λj=>if j=k then x else v0 j) (λi=>decide (i<k+1)) n=(dx ops a0 v0 (λi=>decide (i<k)) n).put o.dst x:=by rw[iG _ (k+1) n (by omega),iG _ k n (by omega)];simp only[dx,uf];rw[ho,fK (λj=>if j=k then x else v0 j) v0 _ k (λj hj _=>by simp[show j≠k by omega])]
    rw[e];exact hcx
  have ek:∀x:Value,dx ops a0 (λj=>if j=k then x else v0 j) (λi=>decide (i<k)) n=dx ops a0 v0 (λi=>decide (i<k)) n:=λx=>
   fK _ _ _ _ (λj _ hs=>by
     have:j<k:=by simpa using hs
     simp[show j≠k by omega])
  unfold chain at hc;by_cases hw:Region.wanted o (yielded ops (dx ops a0 v0 (λi=>decide (i<k)) n).tmps)=true
  ·rw[if_pos hw]at hc;cases hf:cl Cs k with
   |none=>rw[hf]at hc;obtain⟨x,h1,h2⟩:=hc;refine go x ?_ h2;unfold cX;rw[ek x,ho];refine⟨λ_=>⟨λ_ s w' hb=> ?_,λc hy=>(by rw[hf]at hy;cases hy)⟩,λhw'=>absurd hw (by rw[hw'];simp)⟩;simp only[uf];exact h1 s w' hb
   |some c=>
    rw[hf]at hc;obtain⟨x,h1,h2⟩:=hc;refine go x ?_ h2;unfold cX;rw[ek x,ho];refine⟨λ_=>⟨λhy=>(by rw[hf]at hy;cases hy),λc' hy w' hb=> ?_⟩,λhw'=>absurd hw (by rw[hw'];simp)⟩;rw[hf]at hy;cases hy
    simp only[uf];exact h1 w' hb
  ·rw[if_neg hw]at hc;refine go undef ?_ hc.2;unfold cX;rw[ek,ho];exact⟨λhw'=>absurd hw' hw,λ_=>⟨hc.1,by simp⟩⟩
structure J (P:Program) (ops:Array Oper) (Cs:List Nat) (B:Nat->World->Prop) (a0:Act) (n:Nat) (v:Nat->Value) (listed:Array Bool) (a:Act) (w:World):Prop where
 inv:HeadInv .any ops n listed
 fr:a=dx ops a0 v (λj=>listed.getD j false) n
 bw:B (Kc Cs listed) w
theorem kD{p:Nat->Bool}:∀L:List Nat,(∀x∈L,p x=true)->L.countP p=L.length
 | [],_=>rfl
 |x::r,h=>by
  rw[List.countP_cons_of_pos (h x (by simp)),kD r (λy hy=>h y (by simp[hy]))];rfl
theorem pW{p:Nat->Bool}(L:List Nat)(h:∀x∈L,p x=false):L.countP p=0:=Kx.2 (λx hx=>by rw[h x hx];decide)
theorem pH{n:Nat}{v:Nat->Value}{listed:Array Bool}{a:Act}{w:World}{Q:Exit->Act->World->Prop}(ok:OK ops n b)(hcs:oq b Cs n=true)
  (tr:∀j,j<n->cX P ops Cs B a0 n v j)
  (hJ:J P ops Cs B a0 n v listed a w) {i:Nat} (hin:i<n) (hr:i∈Region.ready .any ops listed):
  wpOp P ops Q i (λa' w'=>J P ops Cs B a0 n v (listed.setIfInBounds i true) a' w') a w:=by
 obtain⟨hul,o,ho,_⟩:=mem_ready.1 hr;have hi:i<ops.size:=(iS.1 ho).1;have hul':=getD_both hul;have hod:=getD_some ho;have inv':=hJ.inv.set hr hin;have hdist:∀j,j<n->j≠i->(ops.getD j default).dst=none\/(ops.getD j default).dst≠(ops.getD i default).dst:=by
  intro j hj hne;rcases Nat.lt_or_gt_of_ne hne with h|h
  ·exact ok.Lu j i h hin
  ·rcases ok.Lu i j h hj with h'|h'
   ·by_cases e:(ops.getD j default).dst=none
    ·exact .inl e
    ·right;rw[h'];exact e
   ·right;exact nq h'
 have hself:(listed.setIfInBounds i true).getD i false=true:=by
  have:i<listed.size:=by rw[hJ.inv.size];exact hi
  simp[this]
 have hlset:(λj=>(listed.setIfInBounds i true).getD j false)=λj=>if j=i then true else listed.getD j false:=by
  funext j;by_cases e:j=i
  ·subst e;rw[hself];simp
  ·rw[if_neg e,getD_set_ne false (nq e)]
 have hal:=gQ (ops:=ops) (o:=o) (a:=a) (a':=dx ops a0 v (λj=>decide (j<i)) n)
  (Region.noSelect_spec ok.Sx i _ · · ho) (λt ht=>by rw[hJ.fr];exact jF ok hJ.inv hin hr v t (by rw[hod];exact ht))
 have st:=tr i hin;unfold cX at st;rw[hod]at st;have hfr:(dx ops a0 v (λj=>listed.getD j false) n).put o.dst (v i)=dx ops a0 v (λj=>(listed.setIfInBounds i true).getD j false) n:=by rw[hlset,iq v _ i n hin hul' hdist v (λ_ _=>rfl),hod]
 have same:cl Cs i=none->Kc Cs (listed.setIfInBounds i true)=Kc Cs listed:=λh=>by
  have hni:=Co Cs i h;unfold Kc;refine List.countP_congr (λc hc=> ?_);have hne:i≠c:=λe=>hni (by rw[e];exact hc)
  rw[getD_set_ne false hne]
 unfold wpOp;simp only[ho];rw[hal.2];cases hw:Region.wanted o (yielded ops (dx ops a0 v (λj=>decide (j<i)) n).tmps)with
 |false=>simp only[GA,B6];obtain⟨h1,h2⟩:=st.2 hw;refine⟨inv', ?_,by rw[same h1];exact hJ.bw⟩;rw[hJ.fr, <-h2];exact hfr
 |true=>
  simp only[uf];left;obtain⟨s1,s2⟩:=st.1 hw;cases hf:cl Cs i with
  |none=>have e:=s1 hf _ w hJ.bw;rw[<-hal.1]at e;unfold Oper.wp;rw[e];simp only[Oper.upon];exact⟨inv',by rw[hJ.fr];exact hfr,by rw[same hf];exact hJ.bw⟩
  |some c=>
   obtain⟨L1,L2,hC,hL⟩:=yh Cs i c hf;unfold oq at hcs;simp only[ua,GJ,uD]at hcs;have hlt:=hcs.1;have hpw:=hcs.2;rw[hC]at hpw hlt;obtain⟨p1,p2⟩:=zh L1 L2 i hpw;have l1:∀x∈L1,listed.getD x false=true:=λx hx=>fJ ok hJ.inv hr (by have:=hlt x (by simp[hx]);have:=ok.le;omega) (p1 x hx)
   have l2:∀y∈L2,listed.getD y false=false:=λy hy=>by
    cases hly:listed.getD y false with
    |false=>rfl
    |true=>
     have hyn:=hlt y (by simp[hy])
     have:=fx ok hJ.inv y (by have:=ok.le;omega) hly i (by have:=ok.le;omega) (p2 y hy);rw[hul']at this;cases this
   have hs1:Kc Cs listed=c:=by unfold Kc;rw[hC,Sb,List.countP_cons_of_neg (by rw[hul'];decide),kD L1 l1,pW L2 l2,hL];rfl
   have hne:∀y∈L2,i≠y:=λy hy e=>by
    have h1:=p2 y hy;have hyn:=hlt y (by simp[hy])
    have:=ok.lt y i (by have:=ok.le;omega) (by have:=ok.le;omega) h1;omega
   have hne1:∀x∈L1,i≠x:=λx hx e=>by have:=l1 x hx;rw[<-e,hul']at this;cases this
   have hs2:Kc Cs (listed.setIfInBounds i true)=c+1:=by unfold Kc;rw[hC,Sb,List.countP_cons_of_pos (by exact hself),kD L1 (λx hx=>by rw[getD_set_ne false (hne1 x hx)];exact l1 x hx),pW L2 (λy hy=>by rw[getD_set_ne false (hne y hy)];exact l2 y hy),hL]
   have hrun:=s2 c hf w (by rw[<-hs1];exact hJ.bw);have hrun':dC P o a.eval w λy w2=>B (c+1) w2/\y=v i:=by unfold dC at*;rw[hal.1];exact hrun
   refine j7 hrun' ?_;rintro y w2 ⟨hg,rfl⟩;exact⟨inv',by rw[hJ.fr];exact hfr,by rw[hs2];exact hg⟩
theorem ux{n:Nat}{v:Nat->Value}{Q:Exit->Act->World->Prop}(ok:OK ops n b)(hcs:oq b Cs n=true)(tr:∀j,j<n->cX P ops Cs B a0 n v j)
  (hfin:∀w,B Cs.length w->wpList P ops Q (ops.toList.drop n) (dx ops a0 v (λi=>decide (i<n)) n) w):
  ∀(m:Nat) (listed:Array Bool) (a:Act) (w:World),left listed n=m->J P ops Cs B a0 n v listed a w->wpAny P .any ops Q (m+(ops.size-n)) listed a w:=by
 intro m;induction m with
 |zero=>
  rintro listed a w hm hJ;have hl:∀j,j<n->listed.getD j false=true:=by
   intro j hj
   have:=Kx.1 hm j (by simpa using hj);simpa using this
  have e:listed=Array.replicate n true++Array.replicate (ops.size-n) false:=by
   apply Array.ext
   ·rw[hJ.inv.size];simp;have:=ok.le;omega
   ·intro i h1 h2;by_cases hi:i<n
    ·have:=hl i hi;simp[h1]at this;rw[this,Array.getElem_append_left (by simpa using hi)];simp
    ·have:=hJ.inv.tail i (by omega) (by rw[<-hJ.inv.size];exact h1);simp[h1]at this;rw[this,Array.getElem_append_right (by simp;omega)];simp
  have ef:a=dx ops a0 v (λi=>decide (i<n)) n:=by rw[hJ.fr];exact mz (by rw[dQ,dQ]) (by rw[dN,dN]) (λt=>gA _ _ _ _ t n (λj hj _=>⟨by rw[hl j hj];simp[hj],λ_=>rfl⟩))
  have hst:Kc Cs listed=Cs.length:=by unfold Kc;refine kD Cs (λx hx=>hl x ?_);unfold oq at hcs;simp only[ua,GJ,uD]at hcs;exact hcs.1 x hx
  have hw:=hfin w (by rw[<-hst];exact hJ.bw);rw[<-ef]at hw;have hlen:(ops.toList.drop n).length=ops.size-n:=by simp
  have:=wpAny_of_seq (md:= .any) (Q':=Q) (ops.toList.drop n) n listed a w (λj=>by simp[GI]) (by rw[hlen,e];exact ok.seq) hw;rw[hlen]at this;rw[nW];exact this
 |succ m ih=>
  rintro listed a w hm hJ;rw[show m+1+(ops.size-n)=(m+(ops.size-n))+1 by omega];refine⟨λhnil=> ?_,λi hi=> ?_⟩
  ·exfalso;have hex:∃k,k<n/\listed.getD k false=false/\∀j,j<k->listed.getD j false=true:=by
    have:∀N,N<=n->(∀j,j<N->listed.getD j false=true)\/∃k,k<n/\listed.getD k false=false/\∀j,j<k->listed.getD j false=true:=by
     intro N;induction N with
     |zero=>intro _;left;intro j hj;omega
     |succ N ihN=>
      intro hN;rcases ihN (by omega)with h|h
      ·cases hl:listed.getD N false with
       |false=>right;exact⟨N,by omega,hl,h⟩
       |true=>
         left;intro j hj;by_cases e:j=N
         ·subst e;exact hl
         ·exact h j (by omega)
      ·exact .inr h
    rcases this n (aL _)with h|h
    ·have:left listed n=0:=Kx.2 (λj hj=>by have:=h j (by simpa using hj);simp at this⊢;exact this);omega
    ·exact h
   obtain⟨k,hk,hkl,hlow⟩:=hex;have hks:k<ops.size:=by have:=ok.le;omega
   have:k∈Region.ready .any ops listed:=mem_ready.2 ⟨getD_in (by rw[hJ.inv.size];exact hks) hkl,_,ib hks,λe he hb=>hlow e.on (ok.Ig k hks e he hb).1⟩;rw[hnil]at this;cases this
  ·have hin:i<n:=by
    rcases PQ i n with h|h
    ·exact h
    ·exfalso;obtain⟨_,o,ho,_⟩:=mem_ready.1 hi;have his:i<ops.size:=(iS.1 ho).1
     have:left listed n=0:=Kx.2 (λj hj=>by
      have hjn:j<n:=by simpa using hj
      have:=fJ ok hJ.inv hi (by omega) (ok.tail i j h his hjn);simp at this⊢;exact this)
     omega
   obtain⟨hul,o,ho,_⟩:=mem_ready.1 hi;have his:i<ops.size:=(iS.1 ho).1;have hls:i<listed.size:=by rw[hJ.inv.size];exact his
   have hc:left (listed.setIfInBounds i true) n=m:=by have:=lZ (n:=n) hin hls (getD_both hul);omega
   exact wpOp_mono (λa' w' h=>ih _ a' w' hc h) (pH ok hcs tr hJ hin hi)
theorem dZ{id:Nat}{Q:Exit->Act->World->Prop}{a:Act}{w:World}{l:List Oper}(n:Nat)(Cs:List Nat)(B:Nat->World->Prop)
  (hm:P.follows .mixedOrders=true) (hok:sZ l.toArray n=true) (hcs:oq (Region.before l.toArray) Cs n=true) (hB0:B 0 w.drew)
  (h:chain P l.toArray Cs B (λa'=> ∀w',B Cs.length w'->wpList P l.toArray Q (l.drop n) a' w') (l.take n) 0 a):
  (Code.region id l.toArray true).wp P Q a w:=by
 have ok:=OK.of hok;have hle:n<=l.length:=by simpa using ok.le
 have e0:dx l.toArray a (λ_=>undef) (λi=>decide (i<0)) n=a:=by rw[iG _ 0 n (by omega)];rfl
 obtain⟨v,tr,hfin⟩:=gd (P:=P) (ops:=l.toArray) (Cs:=Cs) (B:=B) (a0:=a) ok.le (l.take n) 0 (λ_=>undef) (by simp;omega) (λj hj=>by
   have:j<n:=by simp at hj;omega
   simp[this]) (λj hj=>by omega) (by rw[e0];exact h)
 refine wp_region_any hm ?_;have inv0:HeadInv .any l.toArray n (Array.replicate l.toArray.size false):=
  ⟨by simp,λj oj _ hl=>(by rw[getD_replicate_false]at hl;cases hl),λt _ ht=>getD_in (by simpa using ht) (getD_replicate_false _ _)⟩
 have hleft:left (Array.replicate l.toArray.size false) n=n:=by
  unfold left
  have:(List.range n).countP (λj=> !(Array.replicate l.toArray.size false).getD j false)=(List.range n).length:=List.countP_eq_length.2 (λj _=>by rw[getD_replicate_false];rfl);rw[this];simp
 have J0:J P l.toArray Cs B a n v (Array.replicate l.toArray.size false) a w.drew:=by
  refine⟨inv0, ?_, ?_⟩
  ·have:(λj=>(Array.replicate l.toArray.size false).getD j false)=λi=>decide (i<0):=by funext j;rw[getD_replicate_false];simp
   rw[this,iG _ 0 n (by omega)];rfl
  ·have:Kc Cs (Array.replicate l.toArray.size false)=0:=pW Cs (λx _=>getD_replicate_false _ _);rw[this];exact hB0
 have:=ux (Q:=Q) ok hcs tr hfin n _ a w.drew hleft J0;rw[show n+(l.toArray.size-n)=l.toArray.size by simp;omega]at this;exact this
variable {fin:Act->Prop} {o:Oper} {rest:List Oper} {k:Nat} {a:Act}
theorem ae(hw:Region.wanted o (yielded ops a.tmps)=true)(hf:cl Cs k=none){v:Value}(h1:∀s w',B s w'->(execOp a.eval o).run P w'= .ok (.value v) w')
  (h2:chain P ops Cs B fin rest (k+1) (a.put o.dst v)):chain P ops Cs B fin (o::rest) k a:=by
 unfold chain;rw[if_pos hw,hf];exact⟨v,h1,h2⟩
theorem gO(hw:Region.wanted o (yielded ops a.tmps)=true){c:Nat}(hf:cl Cs k=some c){x:Value}(h1:∀w',B c w'->dC P o a.eval w' λu w2=>B (c+1) w2/\u=x)
  (h2:chain P ops Cs B fin rest (k+1) (a.put o.dst x)):chain P ops Cs B fin (o::rest) k a:=by
 unfold chain;rw[if_pos hw,hf];exact⟨x,h1,h2⟩
theorem ax(h2:fin a):chain P ops Cs B fin [] k a:=h2
end
end Go.Fre7
namespace Go.Free
open Go Go.RowKit

def Jl(ops:Array Oper):Bool:=ops.all λo=>match o.op with
 | .defer _=>false
 |_=>true
theorem Jm{ops:Array Oper}(h:Jl ops=true){i:Nat}{o:Oper}(ho:ops[i]? =some o):∀c,o.op≠ .defer c:=by
 intro c hc;unfold Jl at h;rw[Array.all_eq_true]at h;obtain⟨hi,rfl⟩:=iS.1 ho
 have:=h i hi;rw[hc]at this;cases this
section
variable {P:Program} {l0 m:Nat}
theorem Dx{row:String}{args:Array Value}{w:World}{R:Value->World->Prop}(h:Rows P row args w R):RowsIn (Fence.wide.inRound l0) m P row args w R:=
 λc cs _=>let ⟨v,w',r,s⟩:=h c cs;⟨v,w',r,stepsIn_wide.2 s⟩
theorem dz{f:FuncId}{args:Array Value}{w:World}{R:Ending->World->Prop}(h:Calls P f args w R):CallsIn (Fence.wide.inRound l0) m P f args w R:=
 CallsIn.inRound l0 (callsIn_wide.2 h)
theorem Ry{o:Oper}{a:Act}{w:World}{next next':Act->World->Prop}{Q:Exit->Act->World->Prop}(hd:∀c,o.op≠ .defer c)(hn:∀a w,next a w->next' a w)(h:o.wp P a w next Q):
  o.wpIn (Fence.wide.inRound l0) m P a w next' Q:=by
 refine⟨λ_ _=>trivial, ?_⟩;rw[Fence.inRound_round,Oper.semAt_some _ _ _ hd];unfold Oper.wp at h;generalize (execOp a.eval o).run P w=r at h⊢;cases r with
 |halt x w'=>cases x<;>first|exact h|exact h.elim
 |ok x w'=>
  cases x with
  |value v=>exact hn _ _ h
  |skip=>exact hn _ _ h
  |defer d=>exact hn _ _ h
  |enter f args=>
   refine⟨λe=>by simp[Fence.inRound,Fence.wide]at e,dz (Calls.mono h ?_)⟩;intro e w2 he;cases e<;>first|exact hn _ _ he|exact he
  |row r args=>refine⟨λe=>by simp[Fence.inRound,Fence.wide]at e,Dx (Rows.mono h ?_)⟩;intro e w2 he;exact hn _ _ he
  |_=>exact h.elim
end
section
variable {P:Program}
theorem wL{l0 m:Nat}{ops:Array Oper}{Q:Exit->Act->World->Prop}{a:Act}{w:World}{o:Oper}{rest:List Oper}(hg:o.guard=none)(hd:∀c,o.op≠ .defer c)
  (h:o.wp P a w (wpListIn (Fence.wide.inRound l0) m P ops Q rest) Q):wpListIn (Fence.wide.inRound l0) m P ops Q (o::rest) a w:=by
 unfold wpListIn;rw[if_pos (by simp[Region.wanted,hg])];exact Ry hd (λ_ _ h=>h) h
theorem fM{l0 m:Nat}{ops:Array Oper}{rest:List Oper}{o:Oper}{a:Act}{w:World}{Q:Exit->Act->World->Prop}(hgd:o.guard=none)(ty:TypeId)(x y:Operand)(ho:o.op= .store ty x y)
  (g:Nat) (cells:Array Value) (hx:a.eval x= .pointer (some ⟨g,0,none⟩)) (hy:a.eval y= .agg cells)
  (t:TypeId) (ju:Array Value) (hg:w.heap[g]? =some (.cells ju t (0,0))) (hi:(P.info? ty).map (·.size)=some cells.size)
  (hold:ju.size=cells.size) (h1:cells.all (·.oneCell')=true)
  (h:wpListIn (Fence.wide.inRound l0) m P ops Q rest (a.put o.dst undef) (w.setRow g cells)):wpListIn (Fence.wide.inRound l0) m P ops Q (o::rest) a w:=
 wL hgd (by rw[ho];exact λc hc=>by cases hc) (wp_store_row ty x y ho g cells hx hy t ju hg hi hold h1 h)
end
section
variable {P:Program} {m:Nat}
theorem O2{F:Fence}(hF:F=Fence.wide\/∃l0,F=Fence.wide.inRound l0){o:Oper}{a:Act}{w:World}{next next':Act->World->Prop}{Q:Exit->Act->World->Prop}(hd:∀c,o.op≠ .defer c)(hn:∀a w,next a w->next' a w)
  (h:o.wp P a w next (λ_ _ _=>False)):o.wpIn F m P a w next' Q:=by
 have hs:Oper.semAt F.round a.eval o=execOp a.eval o:=Oper.semAt_eq _ _ _ hd;have hdep:F.depth=none:=by rcases hF with rfl|⟨l0,rfl⟩<;>rfl
 have hfn:∀f,F.fn f:=by rcases hF with rfl|⟨l0,rfl⟩<;>exact λ_=>trivial
 have hcall:∀ {f:FuncId} {args:Array Value} {w:World} {R:Ending->World->Prop},Calls P f args w R->CallsIn F (m-1) P f args w R:=by
  rcases hF with rfl|⟨l0,rfl⟩
  ·exact λh=>callsIn_wide.2 h
  ·exact λh=>dz h
 have hrow:∀ {row:String} {args:Array Value} {w:World} {R:Value->World->Prop},Rows P row args w R->RowsIn F (m-1) P row args w R:=by
  rcases hF with rfl|⟨l0,rfl⟩
  ·exact λh c cs _=>let ⟨v,w',r,s⟩:=h c cs;⟨v,w',r,stepsIn_wide.2 s⟩
  ·exact λh=>Dx h
 refine⟨λ_ _=>hfn _, ?_⟩;rw[hs];unfold Oper.wp at h;generalize (execOp a.eval o).run P w=r at h⊢;cases r with
 |halt x w'=>cases x<;>exact h.elim
 |ok x w'=>
  cases x with
  |value v=>exact hn _ _ h
  |skip=>exact hn _ _ h
  |defer d=>exact hn _ _ h
  |enter f args=>
   refine⟨λe=>(by rw[hdep]at e;cases e),hcall (Calls.mono h ?_)⟩;intro e w2 he;cases e with
   |returned v=>exact hn _ _ he
   |panicked ch=>exact he.elim
   |outgrown=>obtain⟨_,_,h⟩:=he;exact h.elim
  |row r args=>refine⟨λe=>(by rw[hdep]at e;cases e),hrow (Rows.mono h ?_)⟩;intro e w2 he;exact hn _ _ he
  |_=>exact h.elim
theorem O1{F:Fence}(hF:F=Fence.wide\/∃l0,F=Fence.wide.inRound l0){ops:Array Oper}{i:Nat}(hd:∀o,ops[i]? =some o->∀c,o.op≠ .defer c){K K':Act->World->Prop}{Q:Exit->Act->World->Prop}{a:Act}{w:World}(hn:∀a w,K a w->K' a w)
  (h:wpOp P ops (λ_ _ _=>False) i K a w):wpOpIn F m P ops Q i K' a w:=by
 have hfn:∀f,F.fn f:=by rcases hF with rfl|⟨l0,rfl⟩<;>exact λ_=>trivial
 unfold wpOp at h;unfold wpOpIn;cases ho:ops[i]? with
 |none=>rw[ho]at h;exact hn _ _ h
 |some o=>
  rw[ho]at h;dsimp only at h⊢;split at h
  ·rename_i hw;rw[if_pos hw];rcases h with h|⟨_,a2,w2,hl⟩
   ·exact O2 hF (hd o ho) hn h
   ·exact hl.elim
  ·rename_i hw;rw[if_neg hw];exact⟨λ_ _=>hfn _,hn _ _ h⟩
theorem xz{F:Fence}{ops:Array Oper}{Q:Exit->Act->World->Prop}{i:Nat}{a:Act}{w:World}{K K':Act->World->Prop}(h:∀a w,K a w->K' a w)(hh:wpOpIn F m P ops Q i K a w):wpOpIn F m P ops Q i K' a w:=wpOpIn_mono h hh
theorem oh{F:Fence}{md:Region.Mode}{ops:Array Oper}{Q:Exit->Act->World->Prop}:∀(l:List Oper) (k:Nat) (listed:Array Bool) (a:Act) (w:World),(∀j,l[j]? =ops[k+j]?)->
  Region.seqB md ops l.length k listed=true->wpListIn F m P ops Q l a w->wpAnyIn F m P md ops Q l.length listed a w
 | [],_,_,_,_,_,hB,h=>⟨by simpa[Region.seqB]using hB,h⟩
 |o::l,k,listed,a,w,hl,hB,h=>by
  have h0:ops[k]? =some o:=by simpa using(hl 0).symm
  simp only[kq,Region.seqB,ua,uD]at hB;refine⟨λh1=>(by rw[hB.1]at h1;cases h1),λi hi=> ?_⟩;rw[hB.1]at hi;have hik:i=k:=by simpa using hi
  subst hik;have hw:wpOpIn F m P ops Q i (wpListIn F m P ops Q l) a w:=by unfold wpOpIn;simp only[h0];exact h
  exact xz (λa' w' h'=>oh l (i+1) _ a' w' (λj=>by have:=hl (j+1);simpa[Nat.add_assoc,Sm 1 j]using this) hB.2 h') hw
end
section
variable {P:Program} {ops:Array Oper} {b:Array Nat} {Rs:List (Nat×gN)} {B:World->Prop} {a0:Act}
theorem wZ{F:Fence}(hF:F=Fence.wide\/∃l0,F=Fence.wide.inRound l0){N:Nat}{n:Nat}{w0:World}{Q:Exit->Act->World->Prop}(ok:OK ops n b)(hnd:∀i,i<n->∀o,ops[i]? =some o->∀c,o.op≠ .defer c)(hmono:dm Rs)(hBm:∀w w',B w->Grow w w'->B w')
  (hall:∀u,∃v,(∀j,j<n->cX P ops b Rs B a0 n u v j)/\(∀w,B w->Grow w0 w->(∀p∈fQ ops Rs a0 n u v n,p.2 w)->wpListIn F N P ops Q (ops.toList.drop n) (dx ops a0 v (λi=>decide (i<n)) n) w)):
  ∀(m:Nat) (listed:Array Bool) (a:Act) (w:World),left listed n=m->(∃u v,J P ops b Rs B a0 n w0 u v listed a w)->wpAnyIn F N P .any ops Q (m+(ops.size-n)) listed a w:=by
 letI:Fre2.Rel:=lB
 intro m;induction m with
 |zero=>
  rintro listed a w hm ⟨u,v,hJ⟩;have hl:∀j,j<n->listed.getD j false=true:=by
   intro j hj
   have:=Kx.1 hm j (by simpa using hj);simpa using this
  have e:listed=Array.replicate n true++Array.replicate (ops.size-n) false:=by
   apply Array.ext
   ·rw[hJ.inv.size];simp;have:=ok.le;omega
   ·intro i h1 h2;by_cases hi:i<n
    ·have:=hl i hi;simp[h1]at this;rw[this,Array.getElem_append_left (by simpa using hi)];simp
    ·have:=hJ.inv.tail i (by omega) (by rw[<-hJ.inv.size];exact h1);simp[h1]at this;rw[this,Array.getElem_append_right (by simp;omega)];simp
  obtain⟨v',tr',hfin⟩:=hall u;have hva:=jx ok hJ.inv hJ.bw hJ.tr tr' (λ_ _=>rfl) hJ.facts;have ef:a=dx ops a0 v' (λi=>decide (i<n)) n:=by rw[hJ.fr];refine mz (by rw[dQ,dQ]) (by rw[dN,dN]) (λt=>gA _ _ _ _ t n (λj hj _=>⟨by rw[hl j hj];simp[hj],λ_=>(hva j hj (hl j hj)).1⟩))
  have hw:=hfin w hJ.bw hJ.gw (λp hp=>by
   obtain⟨h1,mk,r,hf,hwt,h2⟩:=oH hp;rw[h2];exact hJ.facts p.1 h1 (hl p.1 h1) mk r hf (by rw[(hva p.1 h1 (hl p.1 h1)).2];exact hwt))
  rw[<-ef]at hw;have hlen:(ops.toList.drop n).length=ops.size-n:=by simp
  have:=oh (md:= .any) (ops.toList.drop n) n listed a w (λj=>by simp[GI]) (by rw[hlen,e];exact ok.seq) hw;rw[hlen]at this;rw[nW];exact this
 |succ m ih=>
  rintro listed a w hm ⟨u,v,hJ⟩;rw[show m+1+(ops.size-n)=(m+(ops.size-n))+1 by omega];refine⟨λhnil=> ?_,λi hi=> ?_⟩
  ·exfalso;have hex:∃k,k<n/\listed.getD k false=false/\∀j,j<k->listed.getD j false=true:=by
    have:∀N,N<=n->(∀j,j<N->listed.getD j false=true)\/∃k,k<n/\listed.getD k false=false/\∀j,j<k->listed.getD j false=true:=by
     intro N;induction N with
     |zero=>intro _;left;intro j hj;omega
     |succ N ihN=>
      intro hN;rcases ihN (by omega)with h|h
      ·cases hl:listed.getD N false with
       |false=>right;exact⟨N,by omega,hl,h⟩
       |true=>
         left;intro j hj;by_cases e:j=N
         ·subst e;exact hl
         ·exact h j (by omega)
      ·exact .inr h
    rcases this n (aL _)with h|h
    ·have:left listed n=0:=Kx.2 (λj hj=>by have:=h j (by simpa using hj);simp at this⊢;exact this);omega
    ·exact h
   obtain⟨k,hk,hkl,hlow⟩:=hex;have hks:k<ops.size:=by have:=ok.le;omega
   have:k∈Region.ready .any ops listed:=mem_ready.2 ⟨getD_in (by rw[hJ.inv.size];exact hks) hkl,_,ib hks,λe he hb=>hlow e.on (ok.Ig k hks e he hb).1⟩;rw[hnil]at this;cases this
  ·have hin:i<n:=by
    rcases PQ i n with h|h
    ·exact h
    ·exfalso;obtain⟨_,o,ho,_⟩:=mem_ready.1 hi;have his:i<ops.size:=(iS.1 ho).1
     have:left listed n=0:=Kx.2 (λj hj=>by
      have hjn:j<n:=by simpa using hj
      have:=fJ ok hJ.inv hi (by omega) (ok.tail i j h his hjn);simp at this⊢;exact this)
     omega
   obtain⟨hul,o,ho,_⟩:=mem_ready.1 hi;have his:i<ops.size:=(iS.1 ho).1;have hls:i<listed.size:=by rw[hJ.inv.size];exact his
   have hc:left (listed.setIfInBounds i true) n=m:=by have:=lZ (n:=n) hin hls (getD_both hul);omega
   exact O1 hF (hnd i hin) (λa' w' h=>ih _ a' w' hc h) (pH ok hmono hBm (λu=>let ⟨v,h,_⟩:=hall u;⟨v,h⟩) hJ hin hi)
end
section
variable {P:Program}
theorem gJ{F:Fence}(hF:F=Fence.wide\/∃l0,F=Fence.wide.inRound l0){N id:Nat}{Q:Exit->Act->World->Prop}{a:Act}{w:World}{l:List Oper}(n:Nat)(Rs:List (Nat×gN))(B:World->Prop)
  (hm:P.follows .mixedOrders=true) (hok:sZ l.toArray n=true) (hnd:Jl (l.take n).toArray=true) (hmono:dm Rs) (hB0:B w.drew) (hBm:∀w w',B w->Grow w w'->B w')
  (h:chain P l.toArray (Region.before l.toArray) Rs B (λa' hs=> ∀w',B w'->Grow w.drew w'->(∀p∈hs,p.2 w')->wpListIn F N P l.toArray Q (l.drop n) a' w') (l.take n) 0 a []):
  (Code.region id l.toArray true).wpIn F N P Q a w:=by
 letI:Fre2.Rel:=lB
 have ok:=OK.of hok;have hle:n<=l.length:=by simpa using ok.le
 have hall:∀u,∃v,(∀j,j<n->cX P l.toArray (Region.before l.toArray) Rs B a n u v j)/\(∀w',B w'->Grow w.drew w'->(∀p∈fQ l.toArray Rs a n u v n,p.2 w')->wpListIn F N P l.toArray Q (l.toArray.toList.drop n) (dx l.toArray a v (λi=>decide (i<n)) n) w'):=by
  intro u;have e0:dx l.toArray a (λ_=>undef) (λi=>decide (i<0)) n=a:=by rw[iG _ 0 n (by omega)];rfl
  exact gd ok.le u (l.take n) 0 (λ_=>undef) (by simp;omega) (λj hj=>by
   have:j<n:=by simp at hj;omega
   simp[this]) (λj hj=>by omega) (by rw[e0];exact h)
 refine wpIn_region_any hm ?_;have inv0:HeadInv .any l.toArray n (Array.replicate l.toArray.size false):=
  ⟨by simp,λj oj _ hl=>(by rw[getD_replicate_false]at hl;cases hl),λt _ ht=>getD_in (by simpa using ht) (getD_replicate_false _ _)⟩
 obtain⟨v,tr,_⟩:=hall (λ_=>0);have hleft:left (Array.replicate l.toArray.size false) n=n:=by
  unfold left
  have:(List.range n).countP (λj=> !(Array.replicate l.toArray.size false).getD j false)=(List.range n).length:=List.countP_eq_length.2 (λj _=>by rw[getD_replicate_false];rfl);rw[this];simp
 have J0:J P l.toArray (Region.before l.toArray) Rs B a n w.drew (λ_=>0) v (Array.replicate l.toArray.size false) a w.drew:=by
  refine⟨inv0,tr, ?_,hB0,Grow.refl _,λj hj hl=>(by rw[getD_replicate_false]at hl;cases hl)⟩
  have:(λj=>(Array.replicate l.toArray.size false).getD j false)=λi=>decide (i<0):=by funext j;rw[getD_replicate_false];simp
  rw[this,iG _ 0 n (by omega)];rfl
 have hndi:∀i,i<n->∀o,l.toArray[i]? =some o->∀c,o.op≠ .defer c:=λi hi o ho=>Jm (ops:=(l.take n).toArray) hnd (i:=i) (by simpa[qC,hi]using ho)
 have:=wZ (w0:=w.drew) (Q:=Q) (N:=N) hF ok hndi hmono hBm hall n _ a w.drew hleft ⟨_,v,J0⟩;rw[show n+(l.toArray.size-n)=l.toArray.size by simp;omega]at this;exact this
end
end Go.Free
