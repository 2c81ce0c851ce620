/- Package migrate: copiedState. Condition: the state lies in memory. -/
import Derived.Test.YtekfoaenomgjgaaGreatDoorYB
import Derived.Laws.OwnMore
import Derived.Laws.MakeOwn
import Derived.Below
import Derived.WalkKit
import Derived.Laws.CopyRow
import Derived.Test.YtekfoaenomgjgaaGreatDoorZ7
set_option linter.all false
set_option maxRecDepth 100000
namespace Go.Sel
open Go Go.RowKit

section
variable {α:Type} {enc:α->List Value} {sz:Nat}
theorem flat_len(hl:∀x,(enc x).length=sz):∀es:List α,(es.flatMap enc).length=es.length*sz
 | []=>by simp
 |e::r=>by rw[List.flatMap_cons,List.length_append,hl,flat_len hl r,List.length_cons,Nat.add_mul,Nat.one_mul];omega
theorem flat_at(hl:∀x,(enc x).length=sz):∀ {es:List α} {k p:Nat} {e:α} {u:Value},es[k]? =some e->(enc e)[p]? =some u->(es.flatMap enc)[k*sz+p]? =some u
 | [],k,_,_,_,h,_=>by simp at h
 |x::r,0,p,e,u,h,hu=>by
  simp at h;subst h
  rw[List.flatMap_cons,Nat.zero_mul,Nat.zero_add,List.getElem?_append_left (List.getElem?_eq_some_iff.1 hu).1];exact hu
 |x::r,k+1,p,e,u,h,hu=>by
  rw[List.flatMap_cons,List.getElem?_append_right (by rw[hl,Nat.add_mul];omega),hl,show(k+1)*sz+p-sz=k*sz+p by rw[Nat.add_mul];omega]
  exact flat_at hl (by simpa using h) hu
theorem flat_take(hl:∀x,(enc x).length=sz)(es:List α)(k:Nat):(es.flatMap enc).take (k*sz)=(es.take k).flatMap enc:=by
 induction es generalizing k with
 |nil=>simp
 |cons e r ih=>
  cases k with
  |zero=>simp
  |succ k=>rw[List.flatMap_cons,List.take_succ_cons,List.flatMap_cons,List.take_append,hl,List.take_of_length_le (by rw[hl,Nat.add_mul];omega),show(k+1)*sz-sz=k*sz by rw[Nat.add_mul];omega,ih]
theorem flat_drop(hl:∀x,(enc x).length=sz)(es:List α)(k:Nat):(es.flatMap enc).drop (k*sz)=(es.drop k).flatMap enc:=by
 induction es generalizing k with
 |nil=>simp
 |cons e r ih=>
  cases k with
  |zero=>simp
  |succ k=>rw[List.flatMap_cons,List.drop_succ_cons,List.drop_append,hl,List.drop_of_length_le (by rw[hl,Nat.add_mul];omega),show(k+1)*sz-sz=k*sz by rw[Nat.add_mul];omega,ih,List.nil_append]
theorem flat_set(hl:∀x,(enc x).length=sz)(es:List α)(k:Nat)(hk:k<es.length)(y:α):(es.flatMap enc).take (k*sz)++enc y++(es.flatMap enc).drop ((k+1)*sz)=(es.set k y).flatMap enc:=by
 rw[flat_take hl,flat_drop hl,List.set_eq_take_append_cons_drop,if_pos hk,List.flatMap_append,List.flatMap_cons,List.append_assoc]
end
theorem made_flat{α:Type}{enc:α->List Value}{sz:Nat}(hl:∀x,(enc x).length=sz)(h0:0<sz)(z:α)(n:Nat):(madeCells (enc z).toArray (n*sz)).toList=(List.replicate n z).flatMap enc:=by
 apply List.ext_getElem?
 intro j
 by_cases hj:j<n*sz
 ·have hq:j / sz<n:=(Nat.div_lt_iff_lt_mul h0).2 hj
  have hm:j % sz<sz:=Nat.mod_lt _ h0
  have e1:=flat_at hl (es:=List.replicate n z) (k:=j / sz) (p:=j % sz) (e:=z) (u:=(enc z)[j % sz]'(by rw[hl];exact hm)) (by simp[hq]) (List.getElem?_eq_getElem _)
  rw[show j / sz*sz+j % sz=j by rw[Nat.mul_comm];exact Nat.div_add_mod j sz]at e1
  rw[e1,Array.getElem?_toList]
  unfold madeCells
  rw[Array.getElem?_map,Array.getElem?_range,if_pos hj]
  simp only[Option.map_some,List.size_toArray,hl]
  rw[getElem!_pos (enc z).toArray (j % sz) (by simp[hl];exact hm)]
  simp
 ·rw[List.getElem?_eq_none (by rw[Array.length_toList,size_madeCells];omega),List.getElem?_eq_none (by rw[flat_len hl];simp;omega)]
theorem own_made{α:Type}{enc:α->List Value}{sz base:Nat}{T:TypeId}(hl:∀x,(enc x).length=sz)(h0:0<sz)(z:α)(w:World)(n c:Nat)(hn:n<=c)(hc:c<=maxLen)(hb:base<=w.heap.size):
  (w.alloc (.cells (madeCells (enc z).toArray (c*sz)) T)).ownsRow base T sz (.slice (some ⟨w.heap.size,0,none⟩) n c) n ((List.replicate n z).flatMap enc):=by
 refine⟨by rw[flat_len hl];simp, .inr ⟨w.heap.size,c,_,rfl,hb,heap_alloc_new w _,hn,hc,size_madeCells _ _, ?_⟩⟩
 rw[made_flat hl h0,flat_take hl,List.take_replicate,Nat.min_eq_left hn]
def sets(xs:List Value):Nat->List Value->List Value
 |_,[]=>xs
 |o,v::r=>sets (xs.set o v) (o+1) r
theorem sets_eq:∀(vs:List Value) (xs:List Value) (o:Nat),o+vs.length<=xs.length->sets xs o vs=xs.take o++vs++xs.drop (o+vs.length)
 | [],xs,o,_=>by simp[sets]
 |v::r,xs,o,h=>by
  rw[List.length_cons]at h
  rw[sets,sets_eq r _ _ (by simp;omega)]
  rw[List.take_add_one,List.take_set_of_le (Nat.le_refl o),List.getElem?_set_self (by omega),Option.toList_some,List.drop_set_of_lt (by omega)]
  simp only[List.append_assoc,List.cons_append,List.nil_append,List.length_cons]
  rw[show o+1+r.length=o+(r.length+1) by omega]
theorem own_sets{base:Nat}{e:TypeId}{size g n cap:Nat}:∀(vs:List Value) (o:Nat) {w:World} {xs:List Value},w.ownsRow base e size (.slice (some ⟨g,0,none⟩) n cap) n xs->
  (w.setCells g o vs).ownsRow base e size (.slice (some ⟨g,0,none⟩) n cap) n (sets xs o vs)/\w.grownBy (w.setCells g o vs) (some g)
 | [],o,w,xs,h=>⟨h,⟨rfl,rfl,rfl,Nat.le_refl _,fun _ _ _=>rfl⟩⟩
 |v::r,o,w,xs,h=>by
  obtain⟨h1,g1⟩:=h.stored o v
  obtain⟨h2,g2⟩:=own_sets r (o+1) h1
  refine⟨h2,g2.os.trans g1.os,g2.tape.trans g1.tape,g2.output.trans g1.output,Nat.le_trans g1.size g2.size,fun k hk hn=> ?_⟩
  have hz:=g1.size
  rw[show w.setCells g o (v::r)=(w.setCell ⟨g,o,none⟩ v).setCells g (o+1) r from rfl,g2.block k (by omega) hn,g1.block k hk hn]
theorem fG(g:Nat):∀(vs:List Value) (o:Nat) (w:World),(w.setCells g o vs).heap.size=w.heap.size
 | [],_,_=>rfl
 |v::r,o,w=>by rw[World.setCells,fG g r];simp[World.setCell]
theorem set_same{α:Type}{l:List α}{k:Nat}{e:α}(h:l[k]? =some e):l.set k e=l:=by
 apply List.ext_getElem?
 intro j
 rw[List.getElem?_set]
 by_cases hj:k=j
 ·subst hj
  rw[h];simp[(List.getElem?_eq_some_iff.1 h).1]
 ·rw[if_neg hj]
section
variable {P:Program} {α:Type} {enc:α->List Value} {sz base g cap:Nat} {T:TypeId} {w:World} {es:List α}
theorem own_there(hl:∀x,(enc x).length=sz)(h:w.ownsRow base T sz (.slice (some ⟨g,0,none⟩) es.length cap) es.length (es.flatMap enc)){k:Nat}(hk:k<es.length):w.there g (k*sz) sz:=fun j hj=>by
 refine⟨?_,h.frozenAt _⟩
 have hm:(k+1)*sz<=es.length*sz:=Nat.mul_le_mul_right _ hk
 rw[Nat.add_mul,Nat.one_mul]at hm
 rw[h.cellAt _ (by omega),List.getElem?_eq_getElem (by rw[flat_len hl];omega)]
 rfl
theorem wpList_store_elem{ops:Array Oper}{rest:List Oper}{op:Oper}{a:Act}{Q:Exit->Act->World->Prop}(hgd:op.guard=none)(ty:TypeId)(x y:Operand)(ho:op.op= .store ty x y)
  (hl:∀x,(enc x).length=sz) (h1:∀x,∀v∈enc x,v.oneCell'=true) (h:w.ownsRow base T sz (.slice (some ⟨g,0,none⟩) es.length cap) es.length (es.flatMap enc)) (k:Nat) (hk:k<es.length) (e:α)
  (hx:a.eval x= .pointer (some ⟨g,k*sz,none⟩)) (hy:a.eval y= .agg (enc e).toArray) (hi:(P.info? ty).map (·.size)=some sz)
  (hK:∀w',w'.ownsRow base T sz (.slice (some ⟨g,0,none⟩) es.length cap) es.length ((es.set k e).flatMap enc)->w.grownBy w' (some g)->w'.heap.size=w.heap.size->wpList P ops Q rest (a.put op.dst undef) w'):wpList P ops Q (op::rest) a w:=by
 refine wpList_store_mid hgd ty x y ho g (k*sz) _ hx hy (by rw[List.size_toArray,hl];exact own_there hl h hk) (by rw[hi];simp[hl]) (all_oneCell_toArray (h1 e)) ?_
 have hm:(k+1)*sz<=es.length*sz:=Nat.mul_le_mul_right _ hk
 obtain⟨h2,g2⟩:=own_sets (enc e) (k*sz) h
 rw[sets_eq _ _ _ (by rw[hl,flat_len hl];rw[Nat.add_mul,Nat.one_mul]at hm;exact hm),hl,show k*sz+sz=(k+1)*sz by rw[Nat.add_mul,Nat.one_mul],flat_set hl es k hk e]at h2
 exact hK _ (by simpa using h2) (by simpa using g2) (by simpa using fG g _ _ w)
theorem own_cell(hl:∀x,(enc x).length=sz)
  (h:w.ownsRow base T sz (.slice (some ⟨g,0,none⟩) es.length cap) es.length (es.flatMap enc)) (k p:Nat) {e:α} (hk:es[k]? =some e) (e':α) (u:Value) (hp:p<sz) (hs:(enc e).set p u=enc e'):
  (w.setCell ⟨g,k*sz+p,none⟩ u).ownsRow base T sz (.slice (some ⟨g,0,none⟩) es.length cap) es.length ((es.set k e').flatMap enc)/\w.grownBy (w.setCell ⟨g,k*sz+p,none⟩ u) (some g):=by
 obtain⟨h2,g2⟩:=h.stored (k*sz+p) u
 refine⟨?_,g2⟩
 have hkl:=(List.getElem?_eq_some_iff.1 hk).1
 have hm:(k+1)*sz<=es.length*sz:=Nat.mul_le_mul_right _ hkl
 rw[Nat.add_mul,Nat.one_mul]at hm
 have:(es.flatMap enc).set (k*sz+p) u=(es.set k e').flatMap enc:=by
  rw[<-flat_set hl es k hkl e', <-hs]
  have hsplit:es.flatMap enc=(es.flatMap enc).take (k*sz)++enc e++(es.flatMap enc).drop ((k+1)*sz):=by
   rw[flat_set hl es k hkl e,set_same hk]
  have hlt:((es.flatMap enc).take (k*sz)).length=k*sz:=by rw[List.length_take,flat_len hl];omega
  generalize (es.flatMap enc).take (k*sz)=A at hsplit hlt⊢
  generalize (es.flatMap enc).drop ((k+1)*sz)=B at hsplit⊢
  rw[hsplit,List.append_assoc,List.set_append,if_neg (by omega),hlt,show k*sz+p-k*sz=p by omega,List.set_append,if_pos (by rw[hl];exact hp),List.append_assoc]
 rw[<-this];exact h2
end
theorem store_box{P:Program}{T:TypeId}{cs:List Value}(hi:(P.info? T).map (·.size)=some cs.length)(hc1:∀v∈cs,v.oneCell'=true)(s t:Nat)(W0 W1:World)(b:Nat)(hb:b=W0.heap.size)(e1:W1=W0.alloc (.cells cs.toArray T))
  (Q:Exit->Act->World->Prop) (ops:Array Oper) (rest:List Oper) (o:Oper) (a:Act) (hgd:o.guard=none) (ho:o.op= .store T (.tmp s) (.tmp t)) (hx:a.eval (.tmp s)= .pointer (some ⟨b,0,none⟩)) (hy:a.eval (.tmp t)= .agg cs.toArray) (old:Array Value) (hold:old.size=cs.length)
  (hk:wpList P ops Q rest (a.put o.dst undef) W1):wpList P ops Q (o::rest) a (W0.alloc (.cells old T)):=by
 rw[e1]at hk
 exact Hk.wpList_store_fresh hgd T (.tmp s) (.tmp t) ho b _ hx hy old T hb (by rw[hi];simp) (by rw[hold];simp) (all_oneCell_toArray hc1) hk
def part{α:Type}(xs:List α)(z:α)(k:Nat):List α:=xs.take k++List.replicate (xs.length-k) z
theorem part_len{α:Type}(xs:List α)(z:α){k:Nat}(h:k<=xs.length):(part xs z k).length=xs.length:=by simp[part];omega
theorem part_zero{α:Type}(xs:List α)(z:α):part xs z 0=List.replicate xs.length z:=by simp[part]
theorem part_all{α:Type}(xs:List α)(z:α){k:Nat}(h:xs.length<=k):part xs z k=xs:=by simp[part,List.take_of_length_le h,Nat.sub_eq_zero_of_le h]
theorem part_at{α:Type}(xs:List α)(z:α){k:Nat}(h:k<xs.length):(part xs z k)[k]? =some z:=by
 unfold part
 rw[List.getElem?_append_right (by simp;omega),List.length_take,Nat.min_eq_left (by omega),Nat.sub_self,List.getElem?_replicate,if_pos (by omega)]
theorem part_set{α:Type}(xs:List α)(z:α){k:Nat}{x:α}(h:xs[k]? =some x):(part xs z k).set k x=part xs z (k+1):=by
 have hl:=(List.getElem?_eq_some_iff.1 h).1
 unfold part
 rw[List.set_append,if_neg (by simp;omega),List.length_take,Nat.min_eq_left (by omega),Nat.sub_self,List.take_add_one,h,Option.toList_some,show xs.length-k=(xs.length- (k+1))+1 by omega,List.replicate_succ,List.set_cons_zero,List.append_assoc]
 rfl
/-! ### A slice of one's own as one number -/
def slN(x:Nat):Option Addr×Nat:=if x=0 then(none,0)else(some ⟨(x-1) / 18446744073709551616,0,none⟩,(x-1) % 18446744073709551616)
theorem slN_ex{w:World}{base sz n c:Nat}{T:TypeId}{A:Option Addr}{xs:List Value}(h:w.ownsRow base T sz (.slice A n c) n xs):∃x,slN x=(A,c):=by
 rcases h.2 with⟨e,_⟩|⟨g,cap,cur,e,_,_,_,hm,_⟩
 ·injection e with e1 e2 e3
  exact⟨0,by rw[e1,e3];rfl⟩
 ·injection e with e1 e2 e3
  have hc:cap<18446744073709551616:=by unfold maxLen at hm;omega
  refine⟨g*18446744073709551616+cap+1, ?_⟩
  unfold slN
  rw[if_neg (by omega),e1,e3]
  have h1:(g*18446744073709551616+cap+1-1) / 18446744073709551616=g:=by omega
  have h2:(g*18446744073709551616+cap+1-1) % 18446744073709551616=cap:=by omega
  rw[h1,h2]
end Go.Sel
namespace Go.Cpy
open Go Go.RowKit
variable {P:Program}
theorem run_copy_wide(w:World)(dT sT ty elem:TypeId)(sz g dLen dCap:Nat)(sp:Option Addr)(sLen sCap:Nat)(cur:List Value)(t:TypeId)(cs:List Value)
  (hu:P.underlying dT=some (.slice elem)) (hs:(P.info? elem).map (·.size)=some sz) (hg:w.heap[g]? =some (.cells cur.toArray t (0,0))) (hn:cs.length=Nat.min sLen dLen*sz)
  (hsrc:0<cs.length->∃ad,sp=some ad/\∀j v,cs[j]? =some v->w.cell? (ad.add j)=some v) (hfit:cs.length<=cur.length) (h1:∀v∈cs,v.oneCell'=true) (h0:sp=none->sLen=0):
  (Builtin.copy_ #[dT,sT] ty #[.slice (some ⟨g,0,none⟩) dLen dCap, .slice sp sLen sCap]).run P w= .ok (goInt (Nat.min sLen dLen)) (w.setRow g (cs++cur.drop cs.length).toArray):=by
 have hst:=run_storeCells_at P g 0 t cs 0 cur.toArray w hg (by simpa using hfit) h1
 simp only[Nat.zero_add,List.take_zero,List.nil_append]at hst
 obtain⟨i,hq,hi⟩:∃i,P.info? elem=some i/\i.size=sz:=by
  cases hq:P.info? elem with
  |none=>rw[hq]at hs;cases hs
  |some i=>rw[hq]at hs;exact⟨i,rfl,Option.some.inj hs⟩
 cases sp with
 |none=>
  have e0:=h0 rfl
  subst e0
  have hc:cs= []:=List.eq_nil_of_length_eq_zero (by rw[hn];simp)
  subst hc
  simp only[List.nil_append,List.length_nil,List.drop_zero]at hst⊢
  simp[Builtin.copy_,run_underlying hu,Builtin.lenOf,Builtin.firstCells,sizeOf,typeInfo,hq,hi]
  rw[hst];rfl
 |some a=>
  have hl:(loadCells a cs.length).run P w= .ok cs.toArray w:=by
   refine run_loadCells_list (P:=P) w a cs fun j v hj=> ?_
   obtain⟨ad,e,h⟩:=hsrc (by have:=(List.getElem?_eq_some_iff.1 hj).1;omega)
   cases e
   exact h j v hj
  rw[hn]at hl
  simp[Builtin.copy_,run_underlying hu,Builtin.lenOf,Builtin.firstCells,sizeOf,typeInfo,hq,hi,hl]
  rw[hst];rfl
theorem at_copy(x:Operand){ops:Array Oper}{rest:List Oper}{a:Act}{w:World}{Q:Exit->Act->World->Prop}{y:Operand}{ts:Array TypeId}{d:Option Tmp}{ty:TypeId}{ps:String}{af:Array Edge}{g:Option (Nat×Bool)}
  (h:wpList P ops Q (⟨d, .call {callee:= .builtin .copy,args:= #[x,y],argTypes:=ts},ty,ps,af,g⟩::rest) a w):wpList P ops Q (⟨d, .call {callee:= .builtin .copy,args:= #[x,y],argTypes:=ts},ty,ps,af,g⟩::rest) a w:=h
theorem wpList_copy{α:Type}{enc:α->List Value}{sz:Nat}{T base:Nat}{ops:Array Oper}{rest:List Oper}{o:Oper}{a:Act}{w:World}{Q:Exit->Act->World->Prop}(hgd:o.guard=none)(d s:Operand)(dT sT:TypeId)
  (ho:o.op= .call {callee:= .builtin .copy,args:= #[d,s],argTypes:= #[dT,sT]}) (hu:P.underlying dT=some (.slice T)) (hs:(P.info? T).map (·.size)=some sz) (hl:∀x,(enc x).length=sz) (h1:∀x,∀v∈enc x,v.oneCell'=true)
  (g n:Nat) (sp:Option Addr) (sCap:Nat) (l:List α) (z:List α) (hd:a.eval d= .slice (some ⟨g,0,none⟩) n n) (hsv:a.eval s= .slice sp l.length sCap)
  (hr:w.ownsRow base T sz (.slice (some ⟨g,0,none⟩) n n) n (z.flatMap enc)) (hz:z.length=n) (hln:l.length<=n) (hsl:Opn.SL w sz enc sp l)
  (hk:∀w',Hid (w'.ownsRow base T sz (.slice (some ⟨g,0,none⟩) n n) n ((l++z.drop l.length).flatMap enc))->w.grownBy w' (some g)->wpList P ops Q rest (a.put o.dst (goInt l.length)) w'):wpList P ops Q (o::rest) a w:=by
 have hfl:=Sel.flat_len hl
 rcases hr with⟨hx,⟨e,_⟩|⟨g',cap,cur,e,hb,hg,hnc,hcm,hsz,htk⟩⟩
 ·injection e with e;cases e
 ·injection e with e1 e2 e3
  injection e1 with e1
  injection e1 with e1 _ _
  subst e1
  subst e3
  have hcur:cur.toList=z.flatMap enc:=by
   have:(cur.toList.take (n*sz))=cur.toList:=List.take_of_length_le (by rw[Array.length_toList,hsz];exact Nat.le_refl _)
   rw[<-this];exact htk
  have hg2:w.heap[g]? =some (.cells (z.flatMap enc).toArray T (0,0)):=by rw[hg, <-hcur]
  have hmin:Nat.min l.length n=l.length:=Nat.min_eq_left hln
  have hrun:=run_copy_wide (P:=P) w dT sT o.type T sz g n n sp l.length sCap (z.flatMap enc) T (l.flatMap enc) hu hs hg2 (by rw[hfl,hmin])
   (fun h0=>by
    have hne:l≠ []:=by intro e;subst e;simp at h0
    obtain⟨b,off,eA,hc⟩:=hsl.cells hne
    refine⟨⟨b,off,none⟩,eA,fun j v hj=> ?_⟩
    have hjl:=(List.getElem?_eq_some_iff.1 hj).1
    rw[hfl]at hjl
    by_cases hs0:sz=0
    ·rw[hs0]at hjl;omega
    have hq:j / sz<l.length:=(Nat.div_lt_iff_lt_mul (by omega)).2 hjl
    have hm:j % sz<sz:=Nat.mod_lt _ (by omega)
    have hdm:j / sz*sz+j % sz=j:=by rw[Nat.mul_comm];exact Nat.div_add_mod j sz
    have he:(enc l[j / sz])[j % sz]? =some v:=by
     have h2:=Sel.flat_at hl (es:=l) (k:=j / sz) (p:=j % sz) (e:=l[j / sz]) (u:=(enc l[j / sz])[j % sz]'(by rw[hl];exact hm)) (List.getElem?_eq_getElem hq) (List.getElem?_eq_getElem _)
     rw[hdm,hj]at h2
     rw[List.getElem?_eq_getElem (by rw[hl];exact hm)];exact h2.symm
    have:=hc (j / sz) _ (List.getElem?_eq_getElem hq) (j % sz) v he
    rw[show(⟨b,off,none⟩:Addr).add j=⟨b,off+j,none⟩ by unfold Addr.add;split<;>simp_all]
    rw[<-this,hdm])
   (by rw[hfl,hfl];exact Nat.mul_le_mul_right _ (by omega)) (fun v hv=>by obtain⟨x,_,hx⟩:=List.mem_flatMap.1 hv;exact h1 x v hx)
   (fun e=>by
    by_cases hne:l= []
    ·subst hne;rfl
    ·obtain⟨b,off,eA,_⟩:=hsl.cells hne
     rw[eA]at e;cases e)
  rw[hmin]at hrun
  have hnew:(l.flatMap enc++(z.flatMap enc).drop (l.flatMap enc).length)=(l++z.drop l.length).flatMap enc:=by
   rw[hfl,Sel.flat_drop hl,List.flatMap_append]
  rw[hnew]at hrun
  obtain⟨nw,enw⟩:∃nw,nw=(l++z.drop l.length).flatMap enc:=⟨_,rfl⟩
  rw[<-enw]at hrun hk
  have hnl:nw.length=n*sz:=by rw[enw,hfl,List.length_append,List.length_drop];congr 1;omega
  have hsr:=setRow_heap w g _ nw.toArray _ _ hg2
  clear hnew enw
  refine wpList_plain hgd fun K hK=> ?_
  unfold Oper.wp
  simp[execOp,ho,resolve,invoke,builtin,hd,hsv,hrun,Result.andThen]
  refine hK _ _ (hk _ (h_ ⟨hnl, .inr ⟨g,n,_,rfl,hb,hsr,hnc,hcm,by rw[List.size_toArray];exact hnl, ?_⟩⟩) ?_)
  ·show List.take (n*sz) nw=nw
   exact List.take_of_length_le (by omega)
  ·refine⟨rfl,rfl,rfl,by simp[World.setRow],fun k hk hn=> ?_⟩
   have:k≠g:=by simpa using hn
   simp only[World.setRow,Array.getElem?_modify];rw[if_neg (Ne.symm this)]
theorem made{α:Type}{enc:α->List Value}(ts te:TypeId)(z:α)(zv:Value)(i:TypeInfo)(hu:P.underlying ts=some (.slice te))(hi:P.info? te=some i)(hz:i.zero=some zv)(hc:zv.cells=(enc z).toArray)(hb:i.bytes<=1000)(n:Nat)(hn:n<=4000)(W:World):
  (Instr.makeSlice ts (.int .i64 (n:Int)) (.int .i64 (n:Int))).run P W= .ok (.slice (some ⟨W.heap.size,0,none⟩) n n) (W.alloc (.cells (madeCells (enc z).toArray (n*i.size)) te)):=by
 have h:=run_make (P:=P) W ts te i zv hu hi hz .i64 .i64 (n:Int) (n:Int) (by omega) (by omega) (by
  have:(i.bytes:Int)<=1000:=by omega
  have h2:(i.bytes:Int)*(n:Int)<=1000*4000:=by
   calc (i.bytes:Int)*(n:Int)<=1000*(n:Int):=Int.mul_le_mul_of_nonneg_right this (by omega)
    _<=1000*4000:=by omega
  omega) (by omega)
 rw[h,hc,Int.toNat_natCast]
end Go.Cpy
namespace Go.Cv
open Go Go.Cs Go.Opn Go.RowKit
def Mar.zero:Mar:=⟨0,0,0,0,false⟩
theorem bI(m:Mar):(ah m).length=5:=rfl
theorem encB_one(b:Bool):∀v∈encB b,v.oneCell'=true:=fun v hv=>by
 simp only[encB,List.mem_cons,List.not_mem_nil,or_false]at hv
 subst hv;rfl
theorem encI_one(b:Int):∀v∈Cs.encI b,v.oneCell'=true:=fun v hv=>by
 simp only[Cs.encI,List.mem_cons,List.not_mem_nil,or_false]at hv
 subst hv;rfl
def dF(ms:List Mar)(n k:Nat):List Mar:=ms++List.replicate (k-ms.length) Mar.idle++List.replicate (n-k) Mar.zero
theorem fillM_start(ms:List Mar)(n:Nat):dF ms n ms.length=ms++List.replicate (n-ms.length) Mar.zero:=by
 unfold dF;rw[Nat.sub_self,List.replicate_zero,List.append_nil]
theorem fillM_len{ms:List Mar}{n k:Nat}(h1:ms.length<=k)(h2:k<=n):(dF ms n k).length=n:=by
 unfold dF
 simp only[List.length_append,List.length_replicate];omega
theorem fillM_next{ms:List Mar}{n k:Nat}(h1:ms.length<=k)(h2:k<n):(dF ms n k).set k Mar.idle=dF ms n (k+1):=by
 unfold dF
 rw[show n-k=(n- (k+1))+1 by omega,List.replicate_succ,show k+1-ms.length=(k-ms.length)+1 by omega,List.replicate_succ',List.set_append,if_neg (by simp only[List.length_append,List.length_replicate];omega)]
 rw[show k- (ms++List.replicate (k-ms.length) Mar.idle).length=0 by simp only[List.length_append,List.length_replicate];omega]
 simp
theorem fillM_end(ms:List Mar)(n:Nat):dF ms n n=ms++List.replicate (n-ms.length) Mar.idle:=by
 unfold dF;rw[Nat.sub_self,List.replicate_zero,List.append_nil]
end Go.Cv
namespace Go.Proofs.YtekfoaenomgjgaaGreatDoor
open Go.RowKit Go.W32 Go.Blk Go.Cs Go.Lib Go.Opn Go.Mg Go.Cv
structure StaOw (lo:Nat) (w:World) (s:StaM):Prop where
 h:w.ownsRow lo 3 1 (.slice s.hA s.holders.length s.hc) s.holders.length (s.holders.flatMap Cs.encI)
 u:w.ownsRow lo 4 1 (.slice s.uA s.used.length s.uc) s.used.length (s.used.flatMap encB)
 m:w.ownsRow lo 66 5 (.slice s.mA s.marks.length s.mc) s.marks.length (s.marks.flatMap ah)
theorem StaOw.at_{lo:Nat}{w:World}{s:StaM}(h:StaOw lo w s):StaAt w s:=
 ⟨aW (ec:=Cs.encI) (fun _=>rfl) h.h,aW (ec:=encB) (fun _=>rfl) h.u,aW bI h.m⟩
theorem StaOw.below{lo:Nat}{w w':World}{s:StaM}(h:StaOw lo w s)(hb:Below w.heap.size w w'):StaOw lo w' s:=
 ⟨owns_keep h.h fun g hg=>hb.block _ (owns_lt h.h hg).2,owns_keep h.u fun g hg=>hb.block _ (owns_lt h.u hg).2,owns_keep h.m fun g hg=>hb.block _ (owns_lt h.m hg).2⟩
theorem StaOw.mono{lo lo':Nat}{w:World}{s:StaM}(h:StaOw lo w s)(hl:lo'<=lo):StaOw lo' w s:=⟨ap h.h hl,ap h.u hl,ap h.m hl⟩
theorem info_mk3:(Tryz.prog.info? 66).map (fun i=>(i.zero,i.size,i.bytes))=some (some (.agg (ah Mar.zero).toArray),5,40):=by kernel_rfl
theorem info_i3:(Tryz.prog.info? 3).map (fun i=>(i.zero,i.size,i.bytes))=some (some (.int .i64 0),1,8):=by kernel_rfl
theorem info_b3:(Tryz.prog.info? 4).map (fun i=>(i.zero,i.size,i.bytes))=some (some (.bool false),1,1):=by kernel_rfl
theorem made_mk(n:Nat)(hn:n<=4000)(W:World):(Instr.makeSlice 54 (.int .i64 (n:Int)) (.int .i64 (n:Int))).run Tryz.prog W= .ok (.slice (some ⟨W.heap.size,0,none⟩) n n) (W.alloc (.cells (madeCells (ah Mar.zero).toArray (n*5)) 66)):=by
 obtain⟨i,hi,hz,hs,hy⟩:=bG info_mk3
 have h:=Cpy.made (P:=Tryz.prog) (enc:=ah) 54 66 Mar.zero _ i Tryz.underlying54 hi hz rfl (by rw[hy];decide) n hn W
 rw[hs]at h;exact h
theorem made_is(n:Nat)(hn:n<=4000)(W:World):(Instr.makeSlice 22 (.int .i64 (n:Int)) (.int .i64 (n:Int))).run Tryz.prog W= .ok (.slice (some ⟨W.heap.size,0,none⟩) n n) (W.alloc (.cells (madeCells (Cs.encI 0).toArray (n*1)) 3)):=by
 obtain⟨i,hi,hz,hs,hy⟩:=bG info_i3
 have h:=Cpy.made (P:=Tryz.prog) (enc:=Cs.encI) 22 3 0 _ i Tryz.underlying22 hi hz rfl (by rw[hy];decide) n hn W
 rw[hs]at h;exact h
theorem made_bs(n:Nat)(hn:n<=4000)(W:World):(Instr.makeSlice 53 (.int .i64 (n:Int)) (.int .i64 (n:Int))).run Tryz.prog W= .ok (.slice (some ⟨W.heap.size,0,none⟩) n n) (W.alloc (.cells (madeCells (encB false).toArray (n*1)) 4)):=by
 obtain⟨i,hi,hz,hs,hy⟩:=bG info_b3
 have h:=Cpy.made (P:=Tryz.prog) (enc:=encB) 53 4 false _ i Tryz.underlying53 hi hz rfl (by rw[hy];decide) n hn W
 rw[hs]at h;exact h
structure CsB (W:World) (ss rs:List Value) (w:World):Prop where
 s:Row w W.heap.size 56 ss
 z:Row w (W.heap.size+1) 56 [.int .i64 0, .slice none 0 0, .slice none 0 0, .slice none 0 0]
 r:Row w (W.heap.size+1+1) 56 rs
 below:Below W.heap.size W w
theorem CsB.grow{W w w':World}{ss rs:List Value}(a:CsB W ss rs w)(hb:Below w.heap.size w w'):CsB W ss rs w':=
 ⟨a.s.below hb a.s.lt,a.z.below hb a.z.lt,a.r.below hb a.r.lt,a.below.trans (hb.mono a.below.size)⟩
theorem CsB.other{W w w':World}{ss rs:List Value}{g:Nat}(a:CsB W ss rs w)(hb:w.grownBy w' (some g))(hg:W.heap.size+1+1<g):CsB W ss rs w':=
 ⟨a.s.keep (hb.block _ a.s.lt (fun e=>by injection e with e;omega)),a.z.keep (hb.block _ a.z.lt (fun e=>by injection e with e;omega)),a.r.keep (hb.block _ a.r.lt (fun e=>by injection e with e;omega)),a.below.trans (aj hb (fun k e=>by injection e with e;omega) a.below.size)⟩
theorem CsB.set{W w:World}{ss rs:List Value}(a:CsB W ss rs w)(k:Nat)(v:Value):CsB W ss (rs.set k v) (w.setCell ⟨W.heap.size+1+1,k,none⟩ v):=
 ⟨Blk.Blk.set_ne (show Blk.Blk w _ _ _ from a.s) (a:=⟨W.heap.size+1+1,k,none⟩) (by show W.heap.size+1+1≠W.heap.size;omega) _,Blk.Blk.set_ne (show Blk.Blk w _ _ _ from a.z) (a:=⟨W.heap.size+1+1,k,none⟩) (by show W.heap.size+1+1≠W.heap.size+1;omega) _,
  Blk.Blk.set (show Blk.Blk w _ _ _ from a.r) k v,a.below.trans (aq (a:=⟨W.heap.size+1+1,k,none⟩) (by show W.heap.size<=W.heap.size+1+1;omega) _)⟩
structure StgO {α:Type} (enc:α->List Value) (sz:Nat) (T:TypeId) (z:α) (W:World) (ss rs:List Value) (j n:Nat) (w V W':World):Prop where
 e:V.setCell ⟨W.heap.size+1+1,j,none⟩ (.slice (some ⟨w.heap.size,0,none⟩) n n)=W'
 fz:V.frozen? ⟨W.heap.size+1+1,j,none⟩=false
 ce:V.cell? ⟨W.heap.size+1+1,j,none⟩=some (.slice none 0 0)
 bx:CsB W ss (rs.set j (.slice (some ⟨w.heap.size,0,none⟩) n n)) W'
 own:W'.ownsRow (W.heap.size+3) T sz (.slice (some ⟨w.heap.size,0,none⟩) n n) n ((List.replicate n z).flatMap enc)
 kept:∀k,k≠W.heap.size+1+1->k<w.heap.size->W'.heap[k]? =w.heap[k]?
 low:W.heap.size+3<=w.heap.size
 more:w.heap.size<W'.heap.size
theorem stage{α:Type}{enc:α->List Value}{sz:Nat}(hl:∀x,(enc x).length=sz)(h0:0<sz)(TS T:TypeId)(z:α){W w:World}{ss rs:List Value}(a:CsB W ss rs w)(j n:Nat)(hj:rs[j]? =some (.slice none 0 0))(hn:n<=4000)
  (hr:(Instr.makeSlice TS (.int .i64 (n:Int)) (.int .i64 (n:Int))).run Tryz.prog w= .ok (.slice (some ⟨w.heap.size,0,none⟩) n n) (w.alloc (.cells (madeCells (enc z).toArray (n*sz)) T))):
  ∃V W',StgO enc sz T z W ss rs j n w V W'/\(Instr.makeSlice TS (.int .i64 (n:Int)) (.int .i64 (n:Int))).run Tryz.prog w= .ok (.slice (some ⟨w.heap.size,0,none⟩) n n) V:=by
 have hb:Below w.heap.size w (w.alloc (.cells (madeCells (enc z).toArray (n*sz)) T)):=bel1 _ _
 have a2:=a.grow hb
 have hlt:W.heap.size+3<=w.heap.size:=a.r.lt
 have ho:(w.alloc (.cells (madeCells (enc z).toArray (n*sz)) T)).ownsRow (W.heap.size+3) T sz (.slice (some ⟨w.heap.size,0,none⟩) n n) n ((List.replicate n z).flatMap enc):=Sel.own_made hl h0 z w n n (Nat.le_refl _) (by unfold maxLen;omega) hlt
 refine⟨_,_,⟨rfl,Blk.Blk.frozen (show Blk.Blk _ _ _ _ from a2.r) j,a2.r.at hj,a2.set j _,aD ho (by omega),fun k hk hkl=> ?_,hlt,by simp[World.setCell]⟩,hr⟩
 rw[Below.heap_setCell _ _ _ _ (by show k≠W.heap.size+1+1;exact hk)]
 exact hb.block k hkl
structure CpyO {α:Type} (enc:α->List Value) (sz:Nat) (T:TypeId) (W:World) (ss rs:List Value) (g n:Nat) (xs:List α) (W' w':World):Prop where
 bx:CsB W ss rs w'
 own:w'.ownsRow (W.heap.size+3) T sz (.slice (some ⟨g,0,none⟩) n n) n (xs.flatMap enc)
 kept:∀k,k≠g->k<W'.heap.size->w'.heap[k]? =W'.heap[k]?
 sz:W'.heap.size<=w'.heap.size
theorem copied{α:Type}{enc:α->List Value}{sz:Nat}(hl:∀x,(enc x).length=sz)(h1:∀x,∀v∈enc x,v.oneCell'=true){T TS:TypeId}(hu:Tryz.prog.underlying TS=some (.slice T))(hs:(Tryz.prog.info? T).map (·.size)=some sz)
  {W W':World} {ss rs:List Value} (a:CsB W ss rs W') {g n:Nat} {z:List α} (ho:W'.ownsRow (W.heap.size+3) T sz (.slice (some ⟨g,0,none⟩) n n) n (z.flatMap enc)) (hz:z.length=n) (A:Option Addr) (cap:Nat) (l:List α) (hln:l.length<=n) (hsl:SL W' sz enc A l) (x y:Nat)
  (Q:Exit->Act->World->Prop) (ops:Array Oper) (rest:List Oper) (o:Oper) (ac:Act) (hgd:o.guard=none) (hop:o.op= .call {callee:= .builtin .copy,args:= #[.tmp x, .tmp y],argTypes:= #[TS,TS]}) (hd:ac.eval (.tmp x)= .slice (some ⟨g,0,none⟩) n n) (hsv:ac.eval (.tmp y)= .slice A l.length cap)
  (hk:∀w',Hid (CpyO enc sz T W ss rs g n (l++z.drop l.length) W' w')->wpList Tryz.prog ops Q rest (ac.put o.dst (goInt l.length)) w'):wpList Tryz.prog ops Q (o::rest) ac W':=by
 refine Cpy.wpList_copy hgd (.tmp x) (.tmp y) TS TS hop hu hs hl h1 g n A cap l z hd hsv ho hz hln hsl ?_
 intro w' h2 hg
 have hge:=(owns_lt ho (g:=g) rfl).1
 exact hk w' (h_ ⟨a.other hg (by omega),h2.out,fun k hkg hkl=>hg.block k hkl (fun e=>hkg (Option.some.inj e)),hg.size⟩)
def CpsPost(s:StaM)(n:Nat)(W:World)(e:Ending)(w':World):Prop:=
 Below W.heap.size W w'/\∃s':StaM,e= .returned (.agg (aE s').toArray)/\s'.day=s.day/\s'.holders=s.holders/\s'.used=s.used/\s'.marks=s.marks++List.replicate (n-s.marks.length) Mar.idle/\StaOw W.heap.size w' s'
set_option maxHeartbeats 8000000 in
theorem cps_any(s:StaM)(n:Nat)(W:World)(hs:StaAt W s)(hh:s.holders.length<=4000)(hu:s.used.length<=4000)(hm:s.marks.length<=n)(hn:n<=4000):Calls Tryz.prog 93 #[.agg (aE s).toArray, .int .i64 (n:Int)] W (CpsPost s n W):=by
 obtain⟨R,eR⟩:∃R,R=CpsPost s n W:=⟨_,rfl⟩
 rw[<-eR]
 have FIN:Hid (∀w' (s':StaM),s'.day=s.day->s'.holders=s.holders->s'.used=s.used->s'.marks=s.marks++List.replicate (n-s.marks.length) Mar.idle->StaOw W.heap.size w' s'->Below W.heap.size W w'->R (.returned (.agg (aE s').toArray)) w'):=h_ fun w' s' h1 h2 h3 h4 h5 hb=>by rw[eR];exact⟨hb,s',rfl,h1,h2,h3,h4,h5⟩
 clear eR
 obtain⟨W1,e1,hr1,hr2,hr3,hb1⟩:=dK W 56 56 56 (aE s) [.int .i64 0, .slice none 0 0, .slice none 0 0, .slice none 0 0] [.int .i64 s.day, .slice none 0 0, .slice none 0 0, .slice none 0 0]
 have s1:W1.heap.size=W.heap.size+3:=by rw[<-e1];simp
 obtain⟨ss,ess⟩:∃ss,ss=aE s:=⟨_,rfl⟩
 rw[<-ess]at e1 hr1⊢
 have hB1:CsB W ss [.int .i64 s.day, .slice none 0 0, .slice none 0 0, .slice none 0 0] W1:=⟨hr1,hr2,hr3,hb1⟩
 have E1:Hid (((W.alloc (.cells ss.toArray 56)).alloc (.cells #[.int .i64 0, .slice none 0 0, .slice none 0 0, .slice none 0 0] 56)).alloc (.cells #[.int .i64 s.day, .slice none 0 0, .slice none 0 0, .slice none 0 0] 56)=W1):=h_ e1
 have ESS:=h_ ess
 have HS1:=h_ s1
 have HSA:Hid (∀w',Below W.heap.size W w'->StaAt w' s):=h_ fun w' hb=>hs.below hb (Nat.le_refl _)
 have HSC:Hid (∀w' rs,CsB W ss rs w'->w'.cell? ⟨W.heap.size,1,none⟩=some (.slice s.hA s.holders.length s.hc)/\w'.cell? ⟨W.heap.size,2,none⟩=some (.slice s.uA s.used.length s.uc)/\w'.cell? ⟨W.heap.size,3,none⟩=some (.slice s.mA s.marks.length s.mc)):=h_ fun w' rs h=>⟨h.s.at (by rw[ess];rfl),h.s.at (by rw[ess];rfl),h.s.at (by rw[ess];rfl)⟩
 have a0:((W.alloc (.cells ss.toArray 56)).alloc (.cells #[.int .i64 0, .slice none 0 0, .slice none 0 0, .slice none 0 0] 56)).cell? ⟨W.heap.size,0,none⟩=some (.int .i64 s.day):=((row1 W 56 ss).alloc _).at (by rw[ess];rfl)
 clear e1 hr1 hr2 hr3 hb1 ess s1 hs
 -- holders
 obtain⟨V3,W3,h3,hmi⟩:=stage (enc:=Cs.encI) (sz:=1) (fun _=>rfl) (by decide) 22 3 0 hB1 1 s.holders.length rfl hh (made_is _ hh W1)
 have c1:=(HSC.out W1 _ hB1).1
 have c1':=(HSC.out W3 _ h3.bx).1
 have d3:=h3.bx.r.at (show([Value.int .i64 s.day, .slice none 0 0, .slice none 0 0, .slice none 0 0].set 1 (.slice (some ⟨W1.heap.size,0,none⟩) s.holders.length s.holders.length))[1]? =some (.slice (some ⟨W1.heap.size,0,none⟩) s.holders.length s.holders.length) from rfl)
 have f3:=h3.fz
 have x3:=h3.ce
 have E3:=h_ h3.e
 have HC3:=h_ (copied (enc:=Cs.encI) (sz:=1) (fun _=>rfl) encI_one Tryz.underlying22 (show(Tryz.prog.info? 3).map (·.size)=some 1 by kernel_rfl) h3.bx h3.own (by simp) s.hA s.hc s.holders (Nat.le_refl _) (HSA.out _ h3.bx.below).h 16 18)
 -- used
 have ST2:Hid (∀w4,Hid (CpyO Cs.encI 1 3 W ss [.int .i64 s.day, .slice (some ⟨W1.heap.size,0,none⟩) s.holders.length s.holders.length, .slice none 0 0, .slice none 0 0] W1.heap.size s.holders.length (s.holders++(List.replicate s.holders.length 0).drop s.holders.length) W3 w4)->
   ∃V W6,Hid (StgO encB 1 4 false W ss [.int .i64 s.day, .slice (some ⟨W1.heap.size,0,none⟩) s.holders.length s.holders.length, .slice none 0 0, .slice none 0 0] 2 s.used.length w4 V W6)/\
    Hid (V.setCell ⟨W.heap.size+1+1,2,none⟩ (.slice (some ⟨w4.heap.size,0,none⟩) s.used.length s.used.length)=W6)/\
    (Instr.makeSlice 53 (.int .i64 (s.used.length:Int)) (.int .i64 (s.used.length:Int))).run Tryz.prog w4= .ok (.slice (some ⟨w4.heap.size,0,none⟩) s.used.length s.used.length) V/\
    w4.cell? ⟨W.heap.size,2,none⟩=some (.slice s.uA s.used.length s.uc)/\W6.cell? ⟨W.heap.size,2,none⟩=some (.slice s.uA s.used.length s.uc)/\W6.cell? ⟨W.heap.size+1+1,2,none⟩=some (.slice (some ⟨w4.heap.size,0,none⟩) s.used.length s.used.length)/\
    V.frozen? ⟨W.heap.size+1+1,2,none⟩=false/\V.cell? ⟨W.heap.size+1+1,2,none⟩=some (.slice none 0 0)):=h_ fun w4 h4=>by
  obtain⟨V,W6,h6,hr6⟩:=stage (enc:=encB) (sz:=1) (fun _=>rfl) (by decide) 53 4 false h4.out.bx 2 s.used.length rfl hu (made_bs _ hu w4)
  exact⟨V,W6,h_ h6,h_ h6.e,hr6,(HSC.out w4 _ h4.out.bx).2.1,(HSC.out W6 _ h6.bx).2.1,h6.bx.r.at rfl,h6.fz,h6.ce⟩
 have ST3:Hid (∀g6 W6 w7,Hid (CpyO encB 1 4 W ss [.int .i64 s.day, .slice (some ⟨W1.heap.size,0,none⟩) s.holders.length s.holders.length, .slice (some ⟨g6,0,none⟩) s.used.length s.used.length, .slice none 0 0] g6 s.used.length (s.used++(List.replicate s.used.length false).drop s.used.length) W6 w7)->
   ∃V W9,Hid (StgO ah 5 66 Mar.zero W ss [.int .i64 s.day, .slice (some ⟨W1.heap.size,0,none⟩) s.holders.length s.holders.length, .slice (some ⟨g6,0,none⟩) s.used.length s.used.length, .slice none 0 0] 3 n w7 V W9)/\
    Hid (V.setCell ⟨W.heap.size+1+1,3,none⟩ (.slice (some ⟨w7.heap.size,0,none⟩) n n)=W9)/\
    (Instr.makeSlice 54 (.int .i64 (n:Int)) (.int .i64 (n:Int))).run Tryz.prog w7= .ok (.slice (some ⟨w7.heap.size,0,none⟩) n n) V/\
    W9.cell? ⟨W.heap.size,3,none⟩=some (.slice s.mA s.marks.length s.mc)/\W9.cell? ⟨W.heap.size+1+1,3,none⟩=some (.slice (some ⟨w7.heap.size,0,none⟩) n n)/\
    V.frozen? ⟨W.heap.size+1+1,3,none⟩=false/\V.cell? ⟨W.heap.size+1+1,3,none⟩=some (.slice none 0 0)):=h_ fun g6 W6 w7 h7=>by
  obtain⟨V,W9,h9,hr9⟩:=stage (enc:=ah) (sz:=5) bI (by decide) 54 66 Mar.zero h7.out.bx 3 n rfl hn (made_mk _ hn w7)
  exact⟨V,W9,h_ h9,h_ h9.e,hr9,(HSC.out W9 _ h9.bx).2.2,h9.bx.r.at rfl,h9.fz,h9.ce⟩
 have H3:=h_ h3
 have HUN:=h_ hu
 have HMN:=h_ hm
 have HNN:=h_ hn
 clear h3 hB1 hu hm hn
 go_enter Tryz.func93,Tryz.ntmps93
 go_wp2_with (first
  |(simp only[E1.out])
  |(simp only[E3.out])
  |(refine Cpy.at_copy (.tmp 16) ?_;refine HC3.out _ _ _ _ _ rfl rfl rfl rfl ?_;intro w4 h4;obtain⟨V6,W6,H6,E6,m4,u4,u6,v6,f6,x6⟩:=ST2.out w4 h4)
  |(simp only[E6.out])
  |(refine Cpy.at_copy (.tmp 26) ?_;refine(copied (enc:=encB) (sz:=1) (fun _=>rfl) encB_one Tryz.underlying53 (show(Tryz.prog.info? 4).map (·.size)=some 1 by kernel_rfl) H6.out.bx H6.out.own (by simp) s.uA s.uc s.used (Nat.le_refl _) (HSA.out _ H6.out.bx.below).u 26 28) _ _ _ _ _ rfl rfl rfl rfl ?_;intro w7 h7;obtain⟨V9,W9,H9,E9,m7,u9,v9,f9,x9⟩:=ST3.out _ _ w7 h7)
  |(simp only[E9.out])
  |(refine Cpy.at_copy (.tmp 34) ?_;refine(copied (enc:=ah) (sz:=5) bI aB Tryz.underlying54 (show(Tryz.prog.info? 66).map (·.size)=some 5 by kernel_rfl) H9.out.bx H9.out.own (by simp) s.mA s.mc s.marks HMN.out (HSA.out _ H9.out.bx.below).m 34 36) _ _ _ _ _ rfl rfl rfl rfl ?_;intro w10 h10))
 have hoH:=h4.out.own
 have hoU:=h7.out.own
 have hoM:=h10.out.own
 rw[List.drop_replicate,Nat.sub_self,List.replicate_zero,List.append_nil]at hoH hoU
 rw[List.drop_replicate, <-fillM_start]at hoM
 have l3:=H3.out.low
 have l6:=H6.out.low
 have l9:=H9.out.low
 have r3:=H3.out.more
 have r6:=H6.out.more
 have r9:=H9.out.more
 have y4:=h4.out.sz
 have y7:=h7.out.sz
 have y10:=h10.out.sz
 have hoH2:w10.ownsRow (W.heap.size+3) 3 1 (.slice (some ⟨W1.heap.size,0,none⟩) s.holders.length s.holders.length) s.holders.length (s.holders.flatMap Cs.encI):=owns_keep hoH fun k hk=>by
  have hk:k=W1.heap.size:=(Option.some.inj hk).symm
  subst hk
  rw[h10.out.kept _ (by omega) (by omega),H9.out.kept _ (by omega) (by omega),h7.out.kept _ (by omega) (by omega),H6.out.kept _ (by omega) (by omega)]
 have hoU2:w10.ownsRow (W.heap.size+3) 4 1 (.slice (some ⟨w4.heap.size,0,none⟩) s.used.length s.used.length) s.used.length (s.used.flatMap encB):=owns_keep hoU fun k hk=>by
  have hk:k=w4.heap.size:=(Option.some.inj hk).symm
  subst hk
  rw[h10.out.kept _ (by omega) (by omega),H9.out.kept _ (by omega) (by omega)]
 have hB10:=h10.out.bx
 obtain⟨g6,eg6⟩:∃g,g=w4.heap.size:=⟨_,rfl⟩
 obtain⟨gm,egm⟩:∃g,g=w7.heap.size:=⟨_,rfl⟩
 have hgm:W.heap.size+3<=gm:=by omega
 rw[<-eg6, <-egm]at hB10⊢
 rw[<-eg6]at hoU2
 rw[<-egm]at hoM
 have hfl:∀k,s.marks.length<=k->k<=n->(dF s.marks n k).length=n:=fun k h1 h2=>fillM_len h1 h2
 have HFL:=h_ hfl
 have HGM:=h_ hgm
 have H0:Hid (CsB W ss [.int .i64 s.day, .slice (some ⟨W1.heap.size,0,none⟩) s.holders.length s.holders.length, .slice (some ⟨g6,0,none⟩) s.used.length s.used.length, .slice (some ⟨gm,0,none⟩) n n] w10):=h_ hB10
 have HO0:=h_ hoH2
 have HU0:=h_ hoU2
 have HM0:=h_ hoM
 clear hoH hoU hoM l3 l6 l9 r3 r6 r9 y4 y7 y10 hoH2 hoU2 hB10 eg6 egm hgm hfl h4 h7 h10 H3 H6 H9 E1 E3 E6 E9 HC3 ST2 ST3 m4 u4 u6 v6 f6 x6 m7 u9 v9 f9 x9 a0 hmi c1 c1' d3 f3 x3
 go_loopw [6] (fun v wr=> ∃k:Nat,v= .int .i64 (k:Int)/\s.marks.length<=k/\k<=n/\CsB W ss [.int .i64 s.day, .slice (some ⟨W1.heap.size,0,none⟩) s.holders.length s.holders.length, .slice (some ⟨g6,0,none⟩) s.used.length s.used.length, .slice (some ⟨gm,0,none⟩) n n] wr/\Hid (wr.ownsRow (W.heap.size+3) 3 1 (.slice (some ⟨W1.heap.size,0,none⟩) s.holders.length s.holders.length) s.holders.length (s.holders.flatMap Cs.encI)/\wr.ownsRow (W.heap.size+3) 4 1 (.slice (some ⟨g6,0,none⟩) s.used.length s.used.length) s.used.length (s.used.flatMap encB)/\wr.ownsRow (W.heap.size+3) 66 5 (.slice (some ⟨gm,0,none⟩) n n) n ((dF s.marks n k).flatMap ah))) (fun v _=>n- (RowKit.intOf v).toNat)
 case atStart=>exact⟨s.marks.length,rfl,Nat.le_refl _,HMN.out,H0.out,h_ ⟨HO0.out,HU0.out,HM0.out⟩⟩
 case round=>
  clear H0 HO0 HU0 HM0
  obtain⟨k,rfl,hk1,hk,hB,hO⟩:=hrel
  have hkb:(k:Int)<=4000:=by have:=HNN.out;omega
  have d3:=hB.r.at (show([.int .i64 s.day, .slice (some ⟨W1.heap.size,0,none⟩) s.holders.length s.holders.length, .slice (some ⟨g6,0,none⟩) s.used.length s.used.length, .slice (some ⟨gm,0,none⟩) n n]:List Value)[3]? =some (.slice (some ⟨gm,0,none⟩) n n) from rfl)
  rcases Nat.lt_or_eq_of_le hk with hkl|hkl
  ·have hki:(k:Int)<(n:Int):=by omega
   have hk0:(0:Int)<=(k:Int):=by omega
   have HK:Hid (∀w',Below wr.heap.size wr w'->w'.cell? ⟨W.heap.size+1+1,3,none⟩=some (.slice (some ⟨gm,0,none⟩) n n)):=h_ fun w' hb=>(hB.grow hb).r.at rfl
   have HB:=h_ hB
   have HK1:=h_ hk1
   clear hB d3 hk
   go_wp2_with fail
   refine Free.wp_region_free 5 [(3, .det (.agg (ah Mar.idle).toArray))] (fun w'=>Below wr.heap.size wr w') (by kernel_rfl) (by kernel_rfl) (Free.mono_det (fun j mk r hf=>by simp only[Free.find]at hf;repeat' (first|cases hf|split at hf))) (Below.refl _ _).drew (fun _ _ h g=>h.trans (Below.mono g h.size)) ?_
   simp only[List.take_succ_cons,List.take_zero]
   iterate 5 (first|(apply Free.chain_det (by first|exact Free.wanted_of rfl rfl rfl|rfl) rfl;(intro w' hB hA;refine Free.opRun_call (f:=128) (args:= #[]) (by clear hB hA;go_simp<;>rfl) ?_;refine(idle_any _).mono ?_;rintro e w3 ⟨rfl,hb3⟩;exact⟨_,rfl,hb3,rfl⟩);simp only[Pt])|(apply Free.chain_still (by first|exact Free.wanted_of rfl rfl rfl|rfl) rfl;(intro w' hB hA;have x1:=HK.out w' hB;clear hA hB;go_light;go_simp<;>rfl);(try simp only[Pt])))
   apply Free.chain_nil
   intro w6 hw6 _ _
   simp only[List.drop_succ_cons,List.drop_zero,List.drop_nil]
   have hb6:=HB.out.grow hw6
   have ho6:=owns_keep hO.out.1 fun g hg=>hw6.block _ (owns_lt hO.out.1 hg).2
   have hu6:=owns_keep hO.out.2.1 fun g hg=>hw6.block _ (owns_lt hO.out.2.1 hg).2
   have hm6:=owns_keep hO.out.2.2 fun g hg=>hw6.block _ (owns_lt hO.out.2.2 hg).2
   have HSE:Hid (∀(Q:Exit->Act->World->Prop) (ops:Array Oper) (rest:List Oper) (o:Oper) (a:Act),o.guard=none->o.op= .store 66 (.tmp 47) (.tmp 46)->a.eval (.tmp 47)= .pointer (some ⟨gm,k*5,none⟩)->a.eval (.tmp 46)= .agg (ah Mar.idle).toArray->(∀w9,Hid (CsB W ss [.int .i64 s.day, .slice (some ⟨W1.heap.size,0,none⟩) s.holders.length s.holders.length, .slice (some ⟨g6,0,none⟩) s.used.length s.used.length, .slice (some ⟨gm,0,none⟩) n n] w9/\w9.ownsRow (W.heap.size+3) 3 1 (.slice (some ⟨W1.heap.size,0,none⟩) s.holders.length s.holders.length) s.holders.length (s.holders.flatMap Cs.encI)/\w9.ownsRow (W.heap.size+3) 4 1 (.slice (some ⟨g6,0,none⟩) s.used.length s.used.length) s.used.length (s.used.flatMap encB)/\w9.ownsRow (W.heap.size+3) 66 5 (.slice (some ⟨gm,0,none⟩) n n) n ((dF s.marks n (k+1)).flatMap ah))->wpList Tryz.prog ops Q rest (a.put o.dst undef) w9)->wpList Tryz.prog ops Q (o::rest) a w6):=h_ (by
    intro Q ops rest o a hgd ho hx hy hK
    have hlen:=HFL.out k HK1.out (by omega)
    have hrow:=hm6
    have hrow2:w6.ownsRow (W.heap.size+3) 66 5 (.slice (some ⟨gm,0,none⟩) (dF s.marks n k).length n) (dF s.marks n k).length ((dF s.marks n k).flatMap ah):=by rw[hlen];exact hrow
    refine Sel.wpList_store_elem hgd 66 (.tmp 47) (.tmp 46) ho bI aB hrow2 k (by rw[hlen];exact hkl) Mar.idle hx hy (by kernel_rfl) ?_
    intro w9 o9 g9 z9
    rw[hlen,fillM_next HK1.out hkl]at o9
    exact hK w9 (h_ ⟨hb6.other g9 (by have:=HGM.out;omega),owns_keep ho6 fun j hj=>g9.block j (owns_lt ho6 hj).2 (fun e=>cv ho6 hm6 (by decide) hj (by rw[e];rfl)),owns_keep hu6 fun j hj=>g9.block j (owns_lt hu6 hj).2 (fun e=>cv hu6 hm6 (by decide) hj (by rw[e];rfl)),o9⟩))
   clear hb6 ho6 hu6 hm6 hw6 HB hO
   go_wp2_with (refine ai (.tmp 47) ?_;refine HSE.out _ _ _ _ _ rfl rfl rfl rfl ?_;intro w9 H9;simp only[Pt])
   go_roundw
   case rel=>exact⟨k+1,rfl,by have:=HK1.out;omega,hkl,H9.out.1,h_ H9.out.2⟩
   case measure=>simp[RowKit.intOf];omega
  ·have hki: ¬(k:Int)<(n:Int):=by omega
   have hfe:dF s.marks n k=s.marks++List.replicate (n-s.marks.length) Mar.idle:=by rw[hkl];exact fillM_end _ _
   have hlen:=HFL.out k hk1 hk
   obtain⟨s',es'⟩:∃s':StaM,s'=⟨s.day,s.holders,s.used,dF s.marks n k,some ⟨W1.heap.size,0,none⟩,s.holders.length,some ⟨g6,0,none⟩,s.used.length,some ⟨gm,0,none⟩,n⟩:=⟨_,rfl⟩
   obtain⟨rs,ers⟩:∃rs,rs=aE s':=⟨_,rfl⟩
   have hrs:([.int .i64 s.day, .slice (some ⟨W1.heap.size,0,none⟩) s.holders.length s.holders.length, .slice (some ⟨g6,0,none⟩) s.used.length s.used.length, .slice (some ⟨gm,0,none⟩) n n]:List Value)=rs:=by
    rw[ers,es'];unfold aE;simp only[hlen]
   rw[hrs]at hB
   have HML:=h_ hB.r.rg
   have HI:=h_ (dc rs (by rw[ers];rfl))
   have HST:Hid (∀(Q:Exit->Act->World->Prop) (ops:Array Oper) (rest:List Oper) (o:Oper) (a:Act),o.guard=none->o.op= .store 56 (.tmp 4) (.tmp 48)->a.eval (.tmp 4)= .pointer (some ⟨W.heap.size+1,0,none⟩)->a.eval (.tmp 48)= .agg rs.toArray->(∀w9,Hid (Row w9 (W.heap.size+1) 56 rs/\StaOw W.heap.size w9 s'/\Below W.heap.size W w9)->wpList Tryz.prog ops Q rest (a.put o.dst undef) w9)->wpList Tryz.prog ops Q (o::rest) a wr):=h_ (by
    intro Q ops rest o a hgd ho hx hy hK
    refine Hk.wpList_store_own hgd 56 (.tmp 4) (.tmp 48) ho _ hx rs hy _ 56 hB.z (by rw[HI.out]) (by rw[ers];rfl) (by rw[ers];exact cB _) ?_
    intro w9 k1 k2 _
    refine hK w9 (h_ ⟨k1, ?_,hB.below.trans (aj k2 (fun g hg=>by injection hg with e;omega) hB.below.size)⟩)
    have hkeep:∀ {T:TypeId} {sz m:Nat} {v:Value} {xs:List Value},wr.ownsRow (W.heap.size+3) T sz v m xs->w9.ownsRow W.heap.size T sz v m xs:=fun h=>ap (owns_keep h fun g hg=>k2.block g (owns_lt h hg).2 (fun e=>by injection e with e;have:=(owns_lt h hg).1;omega)) (by omega)
    rw[es']
    refine⟨hkeep hO.out.1,hkeep hO.out.2.1, ?_⟩
    show w9.ownsRow W.heap.size 66 5 (.slice (some ⟨gm,0,none⟩) (dF s.marks n k).length n) (dF s.marks n k).length ((dF s.marks n k).flatMap ah)
    rw[hlen];exact hkeep hO.out.2.2)
   have HF:Hid (∀w',StaOw W.heap.size w' s'->Below W.heap.size W w'->R (.returned (.agg rs.toArray)) w'):=h_ fun w' h1 h2=>by
    rw[ers];exact FIN.out w' s' (by rw[es']) (by rw[es']) (by rw[es']) (by rw[es'];exact hfe) h1 h2
   clear FIN hB hO hfe hlen es' ers hrs hk1 hk hkl d3
   go_wp2_with (first
    |(refine ae (.tmp 5) ?_;refine wpList_load_mid rfl 56 (.tmp 5) rfl (W.heap.size+1+1) 0 rfl rs _ HML.out Tryz.underlying56 rfl HI.out ?_)
    |(refine ai (.tmp 4) ?_;refine HST.out _ _ _ _ _ rfl rfl rfl rfl ?_;intro w9 H9;simp only[Pt]))
   refine bodyPost_ret (v:= .agg rs.toArray) (Hk.results_cell_row (fn:=Tryz.f93) (p:=4) (ty:=56) rfl _ _ (W.heap.size+1) 56 rs.toArray (0,0) _ rfl H9.out.1 Tryz.underlying56 rfl (by rw[HI.out];simp)) rfl ?_
   exact HF.out _ H9.out.2.1 H9.out.2.2
end Go.Proofs.YtekfoaenomgjgaaGreatDoor
