/- The rule of Free for operations that turn old memory too, where what the world has come to is known by which operations have been done. No condition. -/
import Derived.Test.YtekfoaenomgjgaaGreatDoorYB
set_option linter.all false
namespace Go.Fre4
open Go Go.RowKit
open Go.Free (Loud find bef gL fh frm cV br bT bU aI aS aZ dg aP OK Avail bC aL hist hist_mem hist_congr getD_some bj aG aM bF aO left cD)

open Go.Fre2 (Rel Grow)
def opRun(P:Program)(o:Oper)(ρ:Operand->Value)(w:World)(K:Value->World->Prop):Prop:=
 match (execOp ρ o).run P w with
 | .ok (.value v) w'=>K v w'
 | .ok .skip w'=>K undef w'
 | .ok (.enter f args) w'=>Calls P f args w' fun
   | .returned v,w''=>K v w''
   |_,_=>False
 |_=>False
theorem opRun_wp{P:Program}{o:Oper}{a:Act}{w:World}{K:Value->World->Prop}{next:Act->World->Prop}{Q:Exit->Act->World->Prop}
  (h:opRun P o a.eval w K) (hn:∀v w',K v w'->next (a.put o.dst v) w'):o.wp P a w next Q:=by
 unfold opRun at h
 unfold Oper.wp
 cases hx:(execOp a.eval o).run P w with
 |ok x w'=>
  rw[hx]at h
  cases x<;>simp only[Oper.upon]at h⊢
  case value v=>exact hn _ _ h
  case skip=>exact hn _ _ h
  case enter f args=>
   refine h.mono ?_
   intro e w'' he
   cases e<;>first|exact hn _ _ he|exact he.elim
  all_goals exact h.elim
 |_=>rw[hx]at h;exact h.elim
theorem opRun_of{P:Program}{o:Oper}{w:World}{K:Value->World->Prop}{ρ:Operand->Value}{v:Value}{w':World}(h:(execOp ρ o).run P w= .ok (.value v) w')(hk:K v w'):opRun P o ρ w K:=by
 unfold opRun;rw[h];exact hk
theorem opRun_skip{P:Program}{o:Oper}{w:World}{K:Value->World->Prop}{ρ:Operand->Value}{w':World}(h:(execOp ρ o).run P w= .ok .skip w')(hk:K undef w'):opRun P o ρ w K:=by
 unfold opRun;rw[h];exact hk
theorem opRun_call{P:Program}{o:Oper}{w:World}{K:Value->World->Prop}{ρ:Operand->Value}{f:FuncId}{args:Array Value}(h:(execOp ρ o).run P w= .ok (.enter f args) w)
  (hk:Calls P f args w fun e w'=> ∃v,e= .returned v/\K v w'):opRun P o ρ w K:=by
 unfold opRun;rw[h];refine hk.mono ?_;rintro e w' ⟨v,rfl,hv⟩;exact hv
def upd(d:Nat->Bool)(k:Nat):Nat->Bool:=fun j=>if j=k then true else d j
variable [Rel]

section
variable (P:Program) (ops:Array Oper) (b:Array Nat) (Rs:List (Nat×Loud)) (B:World->Prop) (C:(Nat->Bool)->World->Prop)
def chain(fin:Act->List (Nat×(World->Prop))->Prop):List Oper->Nat->Act->List (Nat×(World->Prop))->Prop
 | [],_,a,h=>fin a h
 |o::rest,k,a,h=>
  if Region.wanted o (yielded ops a.tmps)then
   match find Rs k with
   |none=> ∃v,(∀w',B w'->(∀p∈h,bef b k p.1=true->p.2 w')->(execOp a.eval o).run P w'= .ok (.value v) w')/\chain fin rest (k+1) (a.put o.dst v) h
   |some (.det x)=>(∀d w',d k=false->C d w'->B w'->(∀p∈h,bef b k p.1=true->p.2 w')->opRun P o a.eval w' fun u w2=>Grow w' w2/\C (upd d k) w2/\u=x)/\chain fin rest (k+1) (a.put o.dst x) h
   |some (.ind mk r)=>(∀d w',d k=false->C d w'->B w'->(∀p∈h,bef b k p.1=true->p.2 w')->opRun P o a.eval w' fun u w2=>Grow w' w2/\C (upd d k) w2/\∃x,u=mk x/\r x w2)/\
     ∀x,chain fin rest (k+1) (a.put o.dst (mk x)) ((k,r x)::h)
  else find Rs k=none/\chain fin rest (k+1) (a.put o.dst undef) h
end
section
variable {P:Program} {ops:Array Oper} {b:Array Nat} {Rs:List (Nat×Loud)} {B:World->Prop} {C:(Nat->Bool)->World->Prop} {a0:Act}
def StepT(P:Program)(ops:Array Oper)(b:Array Nat)(Rs:List (Nat×Loud))(B:World->Prop)(C:(Nat->Bool)->World->Prop)(a0:Act)(n:Nat)(u:Nat->Nat)(v:Nat->Value)(k:Nat):Prop:=
 (Region.wanted (ops.getD k default) (yielded ops (frm ops a0 v (fun i=>decide (i<k)) n).tmps)=true->
  (find Rs k=none->∀w',B w'->Avail ops b Rs a0 n u v k w'->(execOp (frm ops a0 v (fun i=>decide (i<k)) n).eval (ops.getD k default)).run P w'= .ok (.value (v k)) w')/\
  (∀x,find Rs k=some (.det x)->v k=x/\∀d w',d k=false->C d w'->B w'->Avail ops b Rs a0 n u v k w'->opRun P (ops.getD k default) (frm ops a0 v (fun i=>decide (i<k)) n).eval w' fun y w2=>Grow w' w2/\C (upd d k) w2/\y=x)/\
  (∀mk r,find Rs k=some (.ind mk r)->v k=mk (u k)/\∀d w',d k=false->C d w'->B w'->Avail ops b Rs a0 n u v k w'->opRun P (ops.getD k default) (frm ops a0 v (fun i=>decide (i<k)) n).eval w' fun y w2=>Grow w' w2/\C (upd d k) w2/\∃x,y=mk x/\r x w2))/\
 (Region.wanted (ops.getD k default) (yielded ops (frm ops a0 v (fun i=>decide (i<k)) n).tmps)=false->find Rs k=none/\v k=undef)
theorem StepT_congr{n:Nat}{u:Nat->Nat}{v v':Nat->Value}{k:Nat}(h:∀j,j<k+1->v j=v' j)(hs:StepT P ops b Rs B C a0 n u v k):StepT P ops b Rs B C a0 n u v' k:=by
 have e:∀i,i<=k->frm ops a0 v (fun j=>decide (j<i)) n=frm ops a0 v' (fun j=>decide (j<i)) n:=fun i hi=>aL _ _ _ _ (fun j _ hs=>h j (by simp at hs;omega))
 have ea:∀w,Avail ops b Rs a0 n u v' k w->Avail ops b Rs a0 n u v k w:=by
  intro w ha j hj hb mk r hf hw
  exact ha j hj hb mk r hf (by rw[<-e j (by omega)];exact hw)
 have ek:=h k (by omega)
 unfold StepT at*
 rw[<-e k (Nat.le_refl _), <-ek]
 refine⟨fun hw=> ?_,hs.2⟩
 obtain⟨h1,h2,h3⟩:=hs.1 hw
 exact⟨fun hf w' hb ha=>h1 hf w' hb (ea w' ha),fun x hf=>⟨(h2 x hf).1,fun d w' hd hc hb ha=>(h2 x hf).2 d w' hd hc hb (ea w' ha)⟩,fun mk r hf=>⟨(h3 mk r hf).1,fun d w' hd hc hb ha=>(h3 mk r hf).2 d w' hd hc hb (ea w' ha)⟩⟩
theorem chain_out{n:Nat}{fin:Act->List (Nat×(World->Prop))->Prop}(hn:n<=ops.size)(u:Nat->Nat):
  ∀(l:List Oper) (k:Nat) (v0:Nat->Value),k+l.length=n->(∀j,j<l.length->l[j]? =ops[k+j]?)->
   (∀j,j<k->StepT P ops b Rs B C a0 n u v0 j)->chain P ops b Rs B C fin l k (frm ops a0 v0 (fun i=>decide (i<k)) n) (hist ops Rs a0 n u v0 k)->
   ∃v,(∀j,j<n->StepT P ops b Rs B C a0 n u v j)/\fin (frm ops a0 v (fun i=>decide (i<n)) n) (hist ops Rs a0 n u v n)
 | [],k,v0,hk,_,ht,hc=>by
  have:k=n:=by simpa using hk
  subst this
  exact⟨v0,ht,hc⟩
 |o::l,k,v0,hk,hl,ht,hc=>by
  simp only[List.length_cons]at hk
  have ho:ops.getD k default=o:=by
   have:=hl 0 (by simp)
   simp only[List.getElem?_cons_zero,Nat.add_zero]at this
   simp[Array.getD_eq_getD_getElem?, <-this]
  have hl':∀j,j<l.length->l[j]? =ops[k+1+j]? :=fun j hj=>by
   have:=hl (j+1) (by simp;omega)
   simpa[Nat.add_assoc,Nat.add_comm 1 j]using this
  -- the step to k+1,at a value x
  have go:∀x:Value,(StepT P ops b Rs B C a0 n u (fun j=>if j=k then x else v0 j) k)->
    chain P ops b Rs B C fin l (k+1) ((frm ops a0 v0 (fun i=>decide (i<k)) n).put o.dst x) (hist ops Rs a0 n u (fun j=>if j=k then x else v0 j) (k+1))->
    ∃v,(∀j,j<n->StepT P ops b Rs B C a0 n u v j)/\fin (frm ops a0 v (fun i=>decide (i<n)) n) (hist ops Rs a0 n u v n):=by
   intro x hx hcx
   refine chain_out hn u l (k+1) (fun j=>if j=k then x else v0 j) (by omega) hl' ?_ ?_
   ·intro j hj
    by_cases e:j=k
    ·subst e;exact hx
    ·exact StepT_congr (fun i hi=>by simp[show i≠k by omega]) (ht j (by omega))
   ·have e:frm ops a0 (fun j=>if j=k then x else v0 j) (fun i=>decide (i<k+1)) n=(frm ops a0 v0 (fun i=>decide (i<k)) n).put o.dst x:=by
     rw[bC _ (k+1) n (by omega),bC _ k n (by omega)]
     simp only[frm,if_true]
     rw[ho,aL (fun j=>if j=k then x else v0 j) v0 _ k (fun j hj _=>by simp[show j≠k by omega])]
    rw[e];exact hcx
  have ek:∀x:Value,frm ops a0 (fun j=>if j=k then x else v0 j) (fun i=>decide (i<k)) n=frm ops a0 v0 (fun i=>decide (i<k)) n:=fun x=>
   aL _ _ _ _ (fun j _ hs=>by
     have:j<k:=by simpa using hs
     simp[show j≠k by omega])
  have eh:∀x:Value,hist ops Rs a0 n u (fun j=>if j=k then x else v0 j) k=hist ops Rs a0 n u v0 k:=fun x=>
   hist_congr (by omega) (fun j hj=>by simp[show j≠k by omega])
  have ea:∀(x:Value) w,Avail ops b Rs a0 n u (fun j=>if j=k then x else v0 j) k w->∀p∈hist ops Rs a0 n u v0 k,bef b k p.1=true->p.2 w:=by
   intro x w ha p hp hb
   rw[<-eh x]at hp
   obtain⟨h1,mk,r,hf,hw,h2⟩:=hist_mem hp
   rw[h2]
   exact ha p.1 h1 hb mk r hf hw
  unfold chain at hc
  by_cases hw:Region.wanted o (yielded ops (frm ops a0 v0 (fun i=>decide (i<k)) n).tmps)=true
  ·rw[if_pos hw]at hc
   cases hf:find Rs k with
   |none=>
    rw[hf]at hc
    obtain⟨x,h1,h2⟩:=hc
    refine go x ?_ ?_
    ·unfold StepT
     rw[ek x,ho]
     refine⟨fun _=>⟨fun _ w' hb ha=> ?_,fun y hy=>(by rw[hf]at hy;cases hy),fun mk r hy=>(by rw[hf]at hy;cases hy)⟩,fun hw'=>absurd hw (by rw[hw'];simp)⟩
     simp only[if_true]
     exact h1 w' hb (ea x w' ha)
    ·have:hist ops Rs a0 n u (fun j=>if j=k then x else v0 j) (k+1)=hist ops Rs a0 n u v0 k:=by
      simp only[hist,hf];rw[eh x];split<;>rfl
     rw[this];exact h2
   |some c=>
    cases c with
    |det y=>
     rw[hf]at hc
     obtain⟨h1,h2⟩:=hc
     refine go y ?_ ?_
     ·unfold StepT
      rw[ek y,ho]
      refine⟨fun _=>⟨fun hy=>(by rw[hf]at hy;cases hy),fun z hy=> ?_,fun mk r hy=>(by rw[hf]at hy;cases hy)⟩,fun hw'=>absurd hw (by rw[hw'];simp)⟩
      rw[hf]at hy
      cases hy
      exact⟨by simp,fun d w' hd hc hb ha=>h1 d w' hd hc hb (ea y w' ha)⟩
     ·have:hist ops Rs a0 n u (fun j=>if j=k then y else v0 j) (k+1)=hist ops Rs a0 n u v0 k:=by
       simp only[hist,hf];rw[eh y];split<;>rfl
      rw[this];exact h2
    |ind mk r=>
     rw[hf]at hc
     obtain⟨h1,h2⟩:=hc
     refine go (mk (u k)) ?_ ?_
     ·unfold StepT
      rw[ek,ho]
      refine⟨fun _=>⟨fun hy=>(by rw[hf]at hy;cases hy),fun z hy=>(by rw[hf]at hy;cases hy),fun mk' r' hy=> ?_⟩,fun hw'=>absurd hw (by rw[hw'];simp)⟩
      rw[hf]at hy
      cases hy
      exact⟨by simp,fun d w' hd hc hb ha=>h1 d w' hd hc hb (ea _ w' ha)⟩
     ·have:hist ops Rs a0 n u (fun j=>if j=k then mk (u k)else v0 j) (k+1)=(k,r (u k))::hist ops Rs a0 n u v0 k:=by
       simp only[hist,hf];rw[eh,ek,ho,if_pos hw]
      rw[this];exact h2 (u k)
  ·rw[if_neg hw]at hc
   refine go undef ?_ ?_
   ·unfold StepT
    rw[ek,ho]
    exact⟨fun hw'=>absurd hw' hw,fun _=>⟨hc.1,by simp⟩⟩
   ·have:hist ops Rs a0 n u (fun j=>if j=k then undef else v0 j) (k+1)=hist ops Rs a0 n u v0 k:=by
     simp only[hist];rw[eh,ek,ho,if_neg hw]
    rw[this];exact hc.2
structure J (P:Program) (ops:Array Oper) (b:Array Nat) (Rs:List (Nat×Loud)) (B:World->Prop) (C:(Nat->Bool)->World->Prop) (a0:Act) (n:Nat) (w0:World) (u:Nat->Nat) (v:Nat->Value) (listed:Array Bool) (a:Act) (w:World):Prop where
 inv:HeadInv .any ops n listed
 tr:∀j,j<n->StepT P ops b Rs B C a0 n u v j
 fr:a=frm ops a0 v (fun j=>listed.getD j false) n
 bw:B w
 cw:C (fun j=>listed.getD j false) w
 gw:Grow w0 w
 facts:∀j,j<n->listed.getD j false=true->∀mk r,find Rs j=some (.ind mk r)->Region.wanted (ops.getD j default) (yielded ops (frm ops a0 v (fun i=>decide (i<j)) n).tmps)=true->r (u j) w
theorem vals_alike{n:Nat}{listed:Array Bool}(ok:OK ops n b)(inv:HeadInv .any ops n listed){u u':Nat->Nat}{v v':Nat->Value}{w:World}(hB:B w)
  (tr:∀j,j<n->StepT P ops b Rs B C a0 n u v j) (tr':∀j,j<n->StepT P ops b Rs B C a0 n u' v' j)
  (hu:∀j,listed.getD j false=true->u j=u' j)
  (facts:∀j,j<n->listed.getD j false=true->∀mk r,find Rs j=some (.ind mk r)->Region.wanted (ops.getD j default) (yielded ops (frm ops a0 v (fun i=>decide (i<j)) n).tmps)=true->r (u j) w):
  ∀i,i<n->listed.getD i false=true->v i=v' i/\Region.wanted (ops.getD i default) (yielded ops (frm ops a0 v (fun j=>decide (j<i)) n).tmps)=Region.wanted (ops.getD i default) (yielded ops (frm ops a0 v' (fun j=>decide (j<i)) n).tmps):=by
 intro i
 induction i using Nat.strongRecOn with
 |_ i ih=>
  intro hin hl
  have hi:i<ops.size:=by have:=ok.le;omega
  have hal:=aO (ops:=ops) (o:=ops.getD i default) (a:=frm ops a0 v (fun j=>decide (j<i)) n) (a':=frm ops a0 v' (fun j=>decide (j<i)) n)
   (Region.noSelect_spec ok.sel i _ · · (bj hi)) (fun t ht=>by
    refine aZ _ _ _ _ t n (fun j hj hd=>⟨rfl,fun hs=> ?_⟩)
    have hji:j<i:=by simpa using hs
    rcases ok.looks i hin t ht j hj (by omega) hd with h|h
    ·exact(ih j hji hj (aG ok inv i hi hl j (by have:=ok.le;omega) h)).1
    ·have:=ok.lt j i (by have:=ok.le;omega) hi h;omega)
  refine⟨?_,hal.2⟩
  have s1:=tr i hin
  have s2:=tr' i hin
  unfold StepT at s1 s2
  rw[<-hal.2, <-hal.1]at s2
  have av:Avail ops b Rs a0 n u v i w:=fun j hj hb mk r hf hw=>facts j (by omega) (aG ok inv i hi hl j (by omega) hb) mk r hf hw
  have av':Avail ops b Rs a0 n u' v' i w:=fun j hj hb mk r hf hw=>by
   have hlj:=aG ok inv i hi hl j (by omega) hb
   rw[<-hu j hlj]
   exact facts j (by omega) hlj mk r hf (by rw[(ih j hj (by omega) hlj).2];exact hw)
  cases hw:Region.wanted (ops.getD i default) (yielded ops (frm ops a0 v (fun j=>decide (j<i)) n).tmps)with
  |false=>rw[(s1.2 hw).2,(s2.2 hw).2]
  |true=>
   obtain⟨a1,a2,a3⟩:=s1.1 hw
   obtain⟨c1,c2,c3⟩:=s2.1 hw
   cases hf:find Rs i with
   |none=>
    have e1:=a1 hf w hB av
    have e2:=c1 hf w hB av'
    rw[e1]at e2
    simpa using e2
   |some c=>
    cases c with
    |det x=>rw[(a2 x hf).1,(c2 x hf).1]
    |ind mk r=>rw[(a3 mk r hf).1,(c3 mk r hf).1,hu i hl]
def LoudMono(Rs:List (Nat×Loud)):Prop:=∀j mk r,find Rs j=some (.ind mk r)->∀x w w',r x w->Grow w w'->r x w'
theorem J_step{n:Nat}{w0:World}{u:Nat->Nat}{v:Nat->Value}{listed:Array Bool}{a:Act}{w:World}{Q:Exit->Act->World->Prop}(ok:OK ops n b)(hmono:LoudMono Rs)
  (hBm:∀w w',B w->Grow w w'->B w') (hC:∀k d w,find Rs k=none->C d w->C (upd d k) w) (hall:∀u,∃v,∀j,j<n->StepT P ops b Rs B C a0 n u v j)
  (hJ:J P ops b Rs B C a0 n w0 u v listed a w) {i:Nat} (hin:i<n) (hr:i∈Region.ready .any ops listed):
  wpOp P ops Q i (fun a' w'=> ∃u v,J P ops b Rs B C a0 n w0 u v (listed.setIfInBounds i true) a' w') a w:=by
 obtain⟨hul,o,ho,_⟩:=mem_ready.1 hr
 have hi:i<ops.size:=(Array.getElem?_eq_some_iff.1 ho).1
 have hul':=getD_both hul
 have hod:=getD_some ho
 have inv':=hJ.inv.set hr hin
 have hdist:∀j,j<n->j≠i->(ops.getD j default).dst=none\/(ops.getD j default).dst≠(ops.getD i default).dst:=by
  intro j hj hne
  rcases Nat.lt_or_gt_of_ne hne with h|h
  ·exact ok.dist j i h hin
  ·rcases ok.dist i j h hj with h'|h'
   ·by_cases e:(ops.getD j default).dst=none
    ·exact .inl e
    ·right;rw[h'];exact e
   ·right;exact Ne.symm h'
 have hlset:(fun j=>(listed.setIfInBounds i true).getD j false)=fun j=>if j=i then true else listed.getD j false:=by
  funext j
  by_cases e:j=i
  ·subst e
   have:j<listed.size:=by rw[hJ.inv.size];exact hi
   simp[this]
  ·rw[if_neg e,getD_set_ne false (Ne.symm e)]
 have hupd:(fun j=>(listed.setIfInBounds i true).getD j false)=upd (fun j=>listed.getD j false) i:=hlset
 have hal:=aO (ops:=ops) (o:=o) (a:=a) (a':=frm ops a0 v (fun j=>decide (j<i)) n)
  (Region.noSelect_spec ok.sel i _ · · ho) (fun t ht=>by rw[hJ.fr];exact bF ok hJ.inv hin hr v t (by rw[hod];exact ht))
 have av:Avail ops b Rs a0 n u v i w:=fun j hj hb mk r hf hw=>hJ.facts j (by omega) (aM ok hJ.inv hr (by omega) hb) mk r hf hw
 have st:=hJ.tr i hin
 unfold StepT at st
 rw[hod]at st
 unfold wpOp
 simp only[ho]
 rw[hal.2]
 cases hw:Region.wanted o (yielded ops (frm ops a0 v (fun j=>decide (j<i)) n).tmps)with
 |false=>
  simp only[Bool.false_eq_true,if_false]
  obtain⟨hn,hu⟩:=st.2 hw
  refine⟨u,v, ?_⟩
  have hh:J P ops b Rs B C a0 n w0 u v (listed.setIfInBounds i true) (a.put o.dst (v i)) w:=by
   refine⟨inv',hJ.tr, ?_,hJ.bw,by rw[hupd];exact hC _ _ _ hn hJ.cw,hJ.gw, ?_⟩
   ·rw[hlset,aP v _ i n hin hul' hdist v (fun _ _=>rfl),hod,hJ.fr]
   ·intro j hj hl mk r hf hw2
    by_cases e:j=i
    ·subst e;rw[hod,hw]at hw2;cases hw2
    ·rw[getD_set_ne false (Ne.symm e)]at hl
     exact hJ.facts j hj hl mk r hf hw2
  rw[hu]at hh
  exact hh
 |true=>
  simp only[if_true]
  left
  obtain⟨s1,s2,s3⟩:=st.1 hw
  cases hf:find Rs i with
  |none=>
   have e:=s1 hf w hJ.bw av
   rw[<-hal.1]at e
   unfold Oper.wp
   rw[e]
   simp only[Oper.upon]
   refine⟨u,v,inv',hJ.tr, ?_,hJ.bw,by rw[hupd];exact hC _ _ _ hf hJ.cw,hJ.gw, ?_⟩
   ·rw[hlset,aP v _ i n hin hul' hdist v (fun _ _=>rfl),hod,hJ.fr]
   ·intro j hj hl mk r hf' hw2
    by_cases e:j=i
    ·subst e;rw[hf]at hf';cases hf'
    ·rw[getD_set_ne false (Ne.symm e)]at hl
     exact hJ.facts j hj hl mk r hf' hw2
  |some c=>
   cases c with
   |det x=>
    obtain⟨ex,hrun⟩:=s2 x hf
    have:=hrun _ w hul' hJ.cw hJ.bw av
    have hrun':opRun P o a.eval w fun y w2=>Grow w w2/\C (upd (fun j=>listed.getD j false) i) w2/\y=x:=by
     unfold opRun at*;rw[hal.1];exact this
    refine opRun_wp hrun' ?_
    rintro y w2 ⟨hg,hc,rfl⟩
    refine⟨u,v,inv',hJ.tr, ?_,hBm _ _ hJ.bw hg,by rw[hupd];exact hc,hJ.gw.trans hg, ?_⟩
    ·rw[hlset,aP v _ i n hin hul' hdist v (fun _ _=>rfl),hod,hJ.fr,ex]
    ·intro j hj hl mk r hf' hw2
     by_cases e:j=i
     ·subst e;rw[hf]at hf';cases hf'
     ·rw[getD_set_ne false (Ne.symm e)]at hl
      exact hmono j mk r hf' _ _ _ (hJ.facts j hj hl mk r hf' hw2) hg
   |ind mk r=>
    obtain⟨_,hrun⟩:=s3 mk r hf
    have:=hrun _ w hul' hJ.cw hJ.bw av
    have hrun':opRun P o a.eval w fun y w2=>Grow w w2/\C (upd (fun j=>listed.getD j false) i) w2/\∃x,y=mk x/\r x w2:=by
     unfold opRun at*;rw[hal.1];exact this
    refine opRun_wp hrun' ?_
    rintro y w2 ⟨hg,hc,x,rfl,hx⟩
    obtain⟨v',tr'⟩:=hall (fun j=>if j=i then x else u j)
    have hva:=vals_alike ok hJ.inv hJ.bw hJ.tr tr' (fun j hl=>by
     have:j≠i:=fun e=>by subst e;rw[hul']at hl;cases hl
     simp[this]) hJ.facts
    have hal2:=aO (ops:=ops) (o:=o) (a:=frm ops a0 v (fun j=>decide (j<i)) n) (a':=frm ops a0 v' (fun j=>decide (j<i)) n)
     (Region.noSelect_spec ok.sel i _ · · ho) (fun t ht=>by
      refine aZ _ _ _ _ t n (fun j hj hd=>⟨rfl,fun hs=> ?_⟩)
      have hji:j<i:=by simpa using hs
      rcases ok.looks i hin t (by rw[hod];exact ht) j hj (by omega) hd with h|h
      ·exact(hva j hj (aM ok hJ.inv hr (by omega) h)).1
      ·have:=ok.lt j i (by omega) hi h;omega)
    have ev:v' i=mk x:=by
     have:=tr' i hin
     unfold StepT at this
     rw[hod, <-hal2.2]at this
     have:=((this.1 hw).2.2 mk r hf).1
     simpa using this
    refine⟨fun j=>if j=i then x else u j,v',inv',tr', ?_,hBm _ _ hJ.bw hg,by rw[hupd];exact hc,hJ.gw.trans hg, ?_⟩
    ·rw[hlset,aP v _ i n hin hul' hdist v' (fun j hs=> ?_),hod,hJ.fr,ev]
     by_cases hjn:j<n
     ·exact(hva j hjn hs).1
     ·have:listed.getD j false=false:=by
       by_cases hjs:j<ops.size
       ·exact getD_both (hJ.inv.tail j (by omega) hjs)
       ·rw[Array.getD_eq_getD_getElem?,Array.getElem?_eq_none (by rw[hJ.inv.size];omega)];rfl
      rw[this]at hs;cases hs
    ·intro j hj hl mk' r' hf' hw2
     by_cases e:j=i
     ·subst e;rw[hf]at hf';cases hf';simpa using hx
     ·rw[getD_set_ne false (Ne.symm e)]at hl
      simp only[if_neg e]
      exact hmono j mk' r' hf' _ _ _ (hJ.facts j hj hl mk' r' hf' (by rw[(hva j hj hl).2];exact hw2)) hg
theorem region_free{n:Nat}{w0:World}{Q:Exit->Act->World->Prop}(ok:OK ops n b)(hmono:LoudMono Rs)(hBm:∀w w',B w->Grow w w'->B w')(hC:∀k d w,find Rs k=none->C d w->C (upd d k) w)
  (hall:∀u,∃v,(∀j,j<n->StepT P ops b Rs B C a0 n u v j)/\(∀w,B w->C (fun j=>decide (j<n)) w->Grow w0 w->(∀p∈hist ops Rs a0 n u v n,p.2 w)->wpList P ops Q (ops.toList.drop n) (frm ops a0 v (fun i=>decide (i<n)) n) w)):
  ∀(m:Nat) (listed:Array Bool) (a:Act) (w:World),left listed n=m->(∃u v,J P ops b Rs B C a0 n w0 u v listed a w)->wpAny P .any ops Q (m+(ops.size-n)) listed a w:=by
 intro m
 induction m with
 |zero=>
  rintro listed a w hm ⟨u,v,hJ⟩
  have hl:∀j,j<n->listed.getD j false=true:=by
   intro j hj
   have:=List.countP_eq_zero.1 hm j (by simpa using hj)
   simpa using this
  have e:listed=Array.replicate n true++Array.replicate (ops.size-n) false:=by
   apply Array.ext
   ·rw[hJ.inv.size];simp;have:=ok.le;omega
   ·intro i h1 h2
    by_cases hi:i<n
    ·have:=hl i hi
     simp[h1]at this
     rw[this,Array.getElem_append_left (by simpa using hi)];simp
    ·have:=hJ.inv.tail i (by omega) (by rw[<-hJ.inv.size];exact h1)
     simp[h1]at this
     rw[this,Array.getElem_append_right (by simp;omega)];simp
  obtain⟨v',tr',hfin⟩:=hall u
  have hva:=vals_alike ok hJ.inv hJ.bw hJ.tr tr' (fun _ _=>rfl) hJ.facts
  have ef:a=frm ops a0 v' (fun i=>decide (i<n)) n:=by
   rw[hJ.fr]
   refine dg (by rw[aI,aI]) (by rw[aS,aS]) (fun t=>aZ _ _ _ _ t n (fun j hj _=>⟨by rw[hl j hj];simp[hj],fun _=>(hva j hj (hl j hj)).1⟩))
  have hcw:C (fun j=>decide (j<n)) w:=by
   have e2:(fun j=>listed.getD j false)=fun j=>decide (j<n):=by
    funext j
    by_cases hj:j<n
    ·rw[hl j hj];simp[hj]
    ·rw[decide_eq_false hj,e,Array.getD_eq_getD_getElem?]
     by_cases hjs:j<ops.size
     ·rw[Array.getElem?_append_right (by simp;omega),Array.getElem?_replicate]
      split<;>rfl
     ·rw[Array.getElem?_eq_none (by simp;have:=ok.le;omega)];rfl
   rw[<-e2];exact hJ.cw
  have hw:=hfin w hJ.bw hcw hJ.gw (fun p hp=>by
   obtain⟨h1,mk,r,hf,hwt,h2⟩:=hist_mem hp
   rw[h2]
   exact hJ.facts p.1 h1 (hl p.1 h1) mk r hf (by rw[(hva p.1 h1 (hl p.1 h1)).2];exact hwt))
  rw[<-ef]at hw
  have hlen:(ops.toList.drop n).length=ops.size-n:=by simp
  have:=wpAny_of_seq (md:= .any) (Q':=Q) (ops.toList.drop n) n listed a w (fun j=>by simp[List.getElem?_drop]) (by rw[hlen,e];exact ok.seq) hw
  rw[hlen]at this
  rw[Nat.zero_add];exact this
 |succ m ih=>
  rintro listed a w hm ⟨u,v,hJ⟩
  rw[show m+1+(ops.size-n)=(m+(ops.size-n))+1 by omega]
  refine⟨fun hnil=> ?_,fun i hi=> ?_⟩
  ·exfalso
   have hex:∃k,k<n/\listed.getD k false=false/\∀j,j<k->listed.getD j false=true:=by
    have:∀N,N<=n->(∀j,j<N->listed.getD j false=true)\/∃k,k<n/\listed.getD k false=false/\∀j,j<k->listed.getD j false=true:=by
     intro N
     induction N with
     |zero=>intro _;left;intro j hj;omega
     |succ N ihN=>
      intro hN
      rcases ihN (by omega)with h|h
      ·cases hl:listed.getD N false with
       |false=>right;exact⟨N,by omega,hl,h⟩
       |true=>
         left;intro j hj;by_cases e:j=N
         ·subst e;exact hl
         ·exact h j (by omega)
      ·exact .inr h
    rcases this n (Nat.le_refl _)with h|h
    ·have:left listed n=0:=List.countP_eq_zero.2 (fun j hj=>by have:=h j (by simpa using hj);simp at this⊢;exact this)
     omega
    ·exact h
   obtain⟨k,hk,hkl,hlow⟩:=hex
   have hks:k<ops.size:=by have:=ok.le;omega
   have:k∈Region.ready .any ops listed:=mem_ready.2 ⟨getD_in (by rw[hJ.inv.size];exact hks) hkl,_,bj hks,fun e he hb=>hlow e.on (ok.edge k hks e he hb).1⟩
   rw[hnil]at this;cases this
  ·have hin:i<n:=by
    rcases Nat.lt_or_ge i n with h|h
    ·exact h
    ·exfalso
     obtain⟨_,o,ho,_⟩:=mem_ready.1 hi
     have his:i<ops.size:=(Array.getElem?_eq_some_iff.1 ho).1
     have:left listed n=0:=List.countP_eq_zero.2 (fun j hj=>by
      have hjn:j<n:=by simpa using hj
      have:=aM ok hJ.inv hi (by omega) (ok.tail i j h his hjn)
      simp at this⊢;exact this)
     omega
   obtain⟨hul,o,ho,_⟩:=mem_ready.1 hi
   have his:i<ops.size:=(Array.getElem?_eq_some_iff.1 ho).1
   have hls:i<listed.size:=by rw[hJ.inv.size];exact his
   have hc:left (listed.setIfInBounds i true) n=m:=by have:=cD (n:=n) hin hls (getD_both hul);omega
   exact wpOp_mono (fun a' w' h=>ih _ a' w' hc h) (J_step ok hmono hBm hC (fun u=>let ⟨v,h,_⟩:=hall u;⟨v,h⟩) hJ hin hi)
theorem wp_region_free{id:Nat}{Q:Exit->Act->World->Prop}{a:Act}{w:World}{l:List Oper}(n:Nat)(Rs:List (Nat×Loud))(B:World->Prop)(C:(Nat->Bool)->World->Prop)
  (hm:P.follows .mixedOrders=true) (hok:fh l.toArray n=true) (hmono:LoudMono Rs) (hB0:B w.drew) (hBm:∀w w',B w->Grow w w'->B w') (hC0:C (fun _=>false) w.drew) (hC:∀k d w,find Rs k=none->C d w->C (upd d k) w)
  (h:chain P l.toArray (Region.before l.toArray) Rs B C (fun a' hs=> ∀w',B w'->C (fun j=>decide (j<n)) w'->Grow w.drew w'->(∀p∈hs,p.2 w')->wpList P l.toArray Q (l.drop n) a' w') (l.take n) 0 a []):
  (Code.region id l.toArray true).wp P Q a w:=by
 have ok:=OK.of hok
 have hle:n<=l.length:=by simpa using ok.le
 have hall:∀u,∃v,(∀j,j<n->StepT P l.toArray (Region.before l.toArray) Rs B C a n u v j)/\(∀w',B w'->C (fun j=>decide (j<n)) w'->Grow w.drew w'->(∀p∈hist l.toArray Rs a n u v n,p.2 w')->wpList P l.toArray Q (l.toArray.toList.drop n) (frm l.toArray a v (fun i=>decide (i<n)) n) w'):=by
  intro u
  have e0:frm l.toArray a (fun _=>undef) (fun i=>decide (i<0)) n=a:=by
   rw[bC _ 0 n (by omega)];rfl
  exact chain_out ok.le u (l.take n) 0 (fun _=>undef) (by simp;omega) (fun j hj=>by
   have:j<n:=by simp at hj;omega
   simp[this]) (fun j hj=>by omega) (by rw[e0];exact h)
 refine wp_region_any hm ?_
 have inv0:HeadInv .any l.toArray n (Array.replicate l.toArray.size false):=
  ⟨by simp,fun j oj _ hl=>(by rw[getD_replicate_false]at hl;cases hl),fun t _ ht=>getD_in (by simpa using ht) (getD_replicate_false _ _)⟩
 obtain⟨v,tr,_⟩:=hall (fun _=>0)
 have hleft:left (Array.replicate l.toArray.size false) n=n:=by
  unfold left
  have:(List.range n).countP (fun j=> !(Array.replicate l.toArray.size false).getD j false)=(List.range n).length:=List.countP_eq_length.2 (fun j _=>by rw[getD_replicate_false];rfl)
  rw[this];simp
 have J0:J P l.toArray (Region.before l.toArray) Rs B C a n w.drew (fun _=>0) v (Array.replicate l.toArray.size false) a w.drew:=by
  refine⟨inv0,tr, ?_,hB0, ?_,Fre2.Grow.refl _,fun j hj hl=>(by rw[getD_replicate_false]at hl;cases hl)⟩
  ·have:(fun j=>(Array.replicate l.toArray.size false).getD j false)=fun i=>decide (i<0):=by funext j;rw[getD_replicate_false];simp
   rw[this,bC _ 0 n (by omega)];rfl
  ·have:(fun j=>(Array.replicate l.toArray.size false).getD j false)=fun _=>false:=by funext j;rw[getD_replicate_false]
   rw[this];exact hC0
 have:=region_free (w0:=w.drew) (Q:=Q) ok hmono hBm hC hall n _ a w.drew hleft ⟨_,v,J0⟩
 rw[show n+(l.toArray.size-n)=l.toArray.size by simp;omega]at this
 exact this
variable {fin:Act->List (Nat×(World->Prop))->Prop} {o:Oper} {rest:List Oper} {k:Nat} {a:Act} {h:List (Nat×(World->Prop))}
theorem chain_still(hw:Region.wanted o (yielded ops a.tmps)=true)(hf:find Rs k=none){v:Value}
  (h1:∀w',B w'->(∀p∈h,bef b k p.1=true->p.2 w')->(execOp a.eval o).run P w'= .ok (.value v) w') (h2:chain P ops b Rs B C fin rest (k+1) (a.put o.dst v) h):
  chain P ops b Rs B C fin (o::rest) k a h:=by
 unfold chain;rw[if_pos hw,hf];exact⟨v,h1,h2⟩
theorem chain_det(hw:Region.wanted o (yielded ops a.tmps)=true){x:Value}(hf:find Rs k=some (.det x))
  (h1:∀d w',d k=false->C d w'->B w'->(∀p∈h,bef b k p.1=true->p.2 w')->opRun P o a.eval w' fun u w2=>Grow w' w2/\C (upd d k) w2/\u=x) (h2:chain P ops b Rs B C fin rest (k+1) (a.put o.dst x) h):
  chain P ops b Rs B C fin (o::rest) k a h:=by
 unfold chain;rw[if_pos hw,hf];exact⟨h1,h2⟩
theorem chain_ind(hw:Region.wanted o (yielded ops a.tmps)=true){mk:Nat->Value}{r:Nat->World->Prop}(hf:find Rs k=some (.ind mk r))
  (h1:∀d w',d k=false->C d w'->B w'->(∀p∈h,bef b k p.1=true->p.2 w')->opRun P o a.eval w' fun u w2=>Grow w' w2/\C (upd d k) w2/\∃x,u=mk x/\r x w2)
  (h2:∀x,chain P ops b Rs B C fin rest (k+1) (a.put o.dst (mk x)) ((k,r x)::h)):
  chain P ops b Rs B C fin (o::rest) k a h:=by
 unfold chain;rw[if_pos hw,hf];exact⟨h1,h2⟩
theorem chain_skip(hw:Region.wanted o (yielded ops a.tmps)=false)(hf:find Rs k=none)(h2:chain P ops b Rs B C fin rest (k+1) (a.put o.dst undef) h):
  chain P ops b Rs B C fin (o::rest) k a h:=by
 unfold chain;rw[if_neg (by rw[hw];simp)];exact⟨hf,h2⟩
theorem chain_nil(h2:fin a h):chain P ops b Rs B C fin [] k a h:=h2
end
theorem mono_det{Rs:List (Nat×Loud)}(h:∀j mk r,find Rs j≠some (.ind mk r)):LoudMono Rs:=fun j mk r hf=>absurd hf (h j mk r)
attribute [irreducible] chain
end Go.Fre4
