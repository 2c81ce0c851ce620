/- A map of slices of one's own (any keys, elements of any number of cells). No condition. -/
import Derived.Test.YtkmbmfengcdmoaaGreatDoorA0
import Derived.Maps.RangeWalk
import Derived.WalkKit
import Derived.Below
import Derived.Lib.ItoaNum
import Derived.Test.YtkmbmfengcdmoaaGreatDoorZAA
import Derived.Test.YtkmbmfengcdmoaaGreatDoorZAH
import Derived.Test.YtkmbmfengcdmoaaGreatDoorZAE
import Derived.Lib.ItoaLen
import Derived.Lib.ItoaMem
import Derived.Lib.AppendIntMem
import Derived.Deep.QuietTactic
import Derived.BigQuiet
import Derived.Maps.AppendAt
set_option linter.all false
namespace Go.Mk
open Go Go.RowKit Go.MapKept Go.Maps Go.ChangeMaps
structure Key (P:Program) (k:TypeId) {α:Type} (enc:α->Value) (ok:α->Prop):Prop where
 law:Keyed P k
 lit:∀x,ok x->∃l,keyOf P k (enc x)=some l
 inj:∀x y,ok x->ok y->enc x=enc y->x=y

section
variable {α β:Type} [DecidableEq α]
def get:List (α×β)->α->Option β
 | [],_=>none
 |p::r,x=>if p.1=x then some p.2 else get r x
def put:List (α×β)->α->β->List (α×β)
 | [],x,v=> [(x,v)]
 |p::r,x,v=>if p.1=x then(x,v)::r else p::put r x v

theorem get_none{l:List (α×β)}{x:α}(h:∀p∈l,p.1≠x):get l x=none:=by
 induction l with
 |nil=>rfl
 |cons p r ih=>rw[get,if_neg (h p (by simp))];exact ih λq hq=>h q (by simp[hq])
theorem get_mem{l:List (α×β)}{x:α}{v:β}(h:get l x=some v):(x,v)∈l:=by
 induction l with
 |nil=>cases h
 |cons p r ih=>
  rw[get]at h;by_cases hp:p.1=x
  ·rw[if_pos hp]at h;cases h;subst hp;simp
  ·rw[if_neg hp]at h;exact iB _ (ih h)
theorem wE{l:List (α×β)}{x:α}:get l x=none↔ ∀p∈l,p.1≠x:=by
 constructor
 ·intro h p hp e;induction l with
  |nil=>cases hp
  |cons q r ih=>
   rw[get]at h;by_cases hq:q.1=x
   ·rw[if_pos hq]at h;cases h
   ·rw[if_neg hq]at h;rcases lC.1 hp with rfl|hp
    ·exact hq e
    ·exact ih h hp
 ·exact get_none
theorem get_some{l:List (α×β)}{x:α}{v:β}(hn:(l.map (·.1)).Nodup)(h:(x,v)∈l):get l x=some v:=by
 induction l with
 |nil=>cases h
 |cons p r ih=>
  rw[xJ,NT]at hn;rcases lC.1 h with e|h
  ·subst e;rw[get,if_pos rfl]
  ·rw[get,if_neg (λe=>hn.1 (by rw[e];exact nS.2 ⟨(x,v),h,rfl⟩))];exact ih hn.2 h
theorem JJ{l:List (α×β)}{x:α}{v:β}:(put l x v).map (·.1)=if x∈l.map (·.1)then l.map (·.1)else l.map (·.1)++ [x]:=by
 induction l with
 |nil=>simp[put]
 |cons p r ih=>
  rw[put];by_cases hp:p.1=x
  ·rw[if_pos hp];simp[hp]
  ·rw[if_neg hp,xJ,ih];by_cases hx:x∈r.map (·.1)
   ·rw[if_pos hx,if_pos (by simp only[xJ,lC];exact Or.inr hx)];rfl
   ·rw[if_neg hx,if_neg (by simp only[xJ,lC];rintro(e|e);exact hp e.symm;exact hx e)];rfl
theorem vA{l:List (α×β)}{x:α}{v:β}(h:(l.map (·.1)).Nodup):((put l x v).map (·.1)).Nodup:=by
 rw[JJ];split
 ·exact h
 ·rename_i hx;exact List.nodup_append.2 ⟨h,by simp,λa ha b hb=>by simp at hb;subst hb;rintro rfl;exact hx ha⟩
theorem CU{l:List (α×β)}{x y:α}{v:β}:get (put l x v) y=if y=x then some v else get l y:=by
 induction l with
 |nil=>
  rw[put,get,get];by_cases h:y=x
  ·subst h;simp
  ·rw[if_neg (λe=>h e.symm),if_neg h,get]
 |cons p r ih=>
  rw[put];by_cases hp:p.1=x
  ·rw[if_pos hp,get,get];by_cases h:y=x
   ·subst h;simp
   ·rw[if_neg (λe=>h e.symm),if_neg h,if_neg (by rw[hp];exact λe=>h e.symm)]
  ·rw[if_neg hp,get,ih,get];by_cases h:y=x
   ·subst h;rw[if_neg hp];simp
   ·by_cases hy:p.1=y
    ·rw[if_pos hy,if_pos hy,if_neg h]
    ·rw[if_neg hy,if_neg hy]
theorem Dm{l:List (α×β)}{x:α}{v:β}{p:α×β}(h:p∈put l x v):p=(x,v)\/(p∈l/\(p.1≠x\/ ¬(l.map (·.1)).Nodup)):=by
 by_cases hn:(l.map (·.1)).Nodup
 ·have h1:=get_some (vA (x:=x) (v:=v) hn) (show(p.1,p.2)∈put l x v from h);rw[CU]at h1;by_cases hx:p.1=x
  ·rw[if_pos hx]at h1;left;cases h1;subst hx;rfl
  ·rw[if_neg hx]at h1;exact Or.inr ⟨get_mem h1,Or.inl hx⟩
 ·induction l with
  |nil=>simp at hn
  |cons q r ih=>
   rw[put]at h;by_cases hq:q.1=x
   ·rw[if_pos hq]at h;rcases lC.1 h with e|h
    ·exact Or.inl e
    ·exact Or.inr ⟨by simp[h],Or.inr hn⟩
   ·rw[if_neg hq]at h;rcases lC.1 h with e|h
    ·subst e;exact Or.inr ⟨by simp,Or.inl hq⟩
    ·by_cases hr:(r.map (·.1)).Nodup
     ·have h1:=get_some (vA (x:=x) (v:=v) hr) (show(p.1,p.2)∈put r x v from h);rw[CU]at h1;by_cases hx:p.1=x
      ·rw[if_pos hx]at h1;left;cases h1;subst hx;rfl
      ·rw[if_neg hx]at h1;exact Or.inr ⟨iB _ (get_mem h1),Or.inl hx⟩
     ·rcases ih h hr with e|⟨h1,_⟩
      ·exact Or.inl e
      ·exact Or.inr ⟨by simp[h1],Or.inr hn⟩
end

section
variable {P:Program} {w:World} {t k e:TypeId} {α β:Type} {enc:α->Value} {ok:α->Prop} {encV:β->Value} {b r:Nat} {l left:List (α×β)}
def bL(w:World)(enc:α->Value)(ok:α->Prop)(encV:β->Value)(b:Nat)(l:List (α×β)):Prop:=
 ∃(es:Array MapEntry) (clock:Nat),w.heap[b]? =some (.map es clock)/\Stamped es clock/\es.toList.map (λx=>(x.key,x.val))=l.map (λp=>(enc p.1,encV p.2))/\∀p∈l,ok p.1

theorem bL.lt(h:bL w enc ok encV b l):b<w.heap.size:=by obtain⟨es,c,hb,_⟩:=h;exact(iS.1 hb).1
theorem bL.bD{w':World}(h:bL w enc ok encV b l)(hk:w'.heap[b]? =w.heap[b]?):bL w' enc ok encV b l:=by obtain⟨es,c,hb,rest⟩:=h;exact⟨es,c,hk.trans hb,rest⟩
theorem bL.made(w:World):bL (w.alloc (.map #[] 0)) enc ok encV w.heap.size ([]:List (α×β)):=
 ⟨#[],0,by show(w.heap.push _)[w.heap.size]? =_;simp,stamped_empty 0,rfl,λp hp=>by cases hp⟩
theorem bL.S9(h:bL w enc ok encV b l):∀p∈l,ok p.1:=by obtain⟨_,_,_,_,_,h⟩:=h;exact h
theorem bL.nodup(h:bL w enc ok encV b l):(l.map (·.1)).Nodup:=by
 obtain⟨es,c,hb,hs,hl,ho⟩:=h;have h1:(l.map (λp=>enc p.1)).Nodup:=by
  have:=hs.2.2
  rwa[show es.toList.map (·.key)=(es.toList.map (λx=>(x.key,x.val))).map (·.1) by simp[Function.comp_def],hl,PS]at this
 clear hl hb hs;induction l with
 |nil=>simp
 |cons p r ih=>rw[xJ,NT]at h1⊢;refine⟨λhm=>h1.1 ?_,ih (λq hq=>ho q (by simp[hq])) h1.2⟩;obtain⟨q,hq,hqe⟩:=nS.1 hm;exact nS.2 ⟨q,hq,by rw[hqe]⟩

theorem oB{es:List MapEntry}(hl:es.map (λx=>(x.key,x.val))=l.map (λp=>(enc p.1,encV p.2))){j:Nat}{x:MapEntry}(h:es[j]? =some x):∃p,l[j]? =some p/\x.key=enc p.1/\x.val=encV p.2:=by
 have h1:(es.map (λx=>(x.key,x.val)))[j]? =some (x.key,x.val):=by rw[mx,h];rfl
 rw[hl,mx]at h1;cases hp:l[j]? with
 |none=>rw[hp]at h1;cases h1
 |some p=>rw[hp]at h1;have h2:=PU h1;injection h2 with h3 h4;exact⟨p,rfl,h3.symm,h4.symm⟩
theorem Fj(K:Key P k enc ok){es:List MapEntry}(hl:es.map (λx=>(x.key,x.val))=l.map (λp=>(enc p.1,encV p.2)))(ho:∀p∈l,ok p.1):∀x∈es,∃q,keyOf P k x.key=some q:=λx hx=>by
 obtain⟨j,hj⟩:=NQ.1 hx;obtain⟨p,hp,e1,_⟩:=oB hl hj;rw[e1];exact K.lit _ (ho p (ue hp))
theorem find[DecidableEq α](K:Key P k enc ok){es:List MapEntry}(hl:es.map (λx=>(x.key,x.val))=l.map (λp=>(enc p.1,encV p.2)))(ho:∀p∈l,ok p.1)(hn:(l.map (·.1)).Nodup)(w:World){x:α}(hx:ok x):
  ((Instr.findKey k (enc x) es).run P w= .ok none w/\(∀y∈es,y.key≠enc x)/\(∀p∈l,p.1≠x)/\get l x=none)\/
   ∃j e0 v,(Instr.findKey k (enc x) es).run P w= .ok (some (j,encV v)) w/\es[j]? =some e0/\e0.key=enc x/\l[j]? =some (x,v)/\get l x=some v:=by
 obtain⟨q,hq⟩:=K.lit x hx;rcases K.law.find w hq es (Fj K hl ho)with⟨h1,h2⟩|⟨j,e0,h1,h2,h3⟩
 ·have h4:∀p∈l,p.1≠x:=by
   intro p hp e1
   have:(enc p.1,encV p.2)∈es.map (λx=>(x.key,x.val)):=by rw[hl];exact nS.2 ⟨p,hp,rfl⟩
   obtain⟨y,hy,hye⟩:=nS.1 this;injection hye with e2 _;exact h2 y hy (by rw[e2,e1])
  exact Or.inl ⟨h1,h2,h4,get_none h4⟩
 ·obtain⟨p,hp,e1,e2⟩:=oB hl h2;have hpx:p.1=x:=K.inj _ _ (ho p (ue hp)) hx (by rw[<-e1,h3]);have hp':l[j]? =some (x,p.2):=by rw[hp, <-hpx]
  exact Or.inr ⟨j,e0,p.2,by rw[h1,e2],h2,h3,hp',get_some hn (ue hp')⟩

theorem bL.look[DecidableEq α](K:Key P k enc ok)(h:bL w enc ok encV b l)(ht:P.underlying t=some (.map k e)){z:Value}(hz:(zeroValue e).run P w= .ok z w){x:α}(hx:ok x)(c:Bool):
  (Instr.lookup t (.map (some b)) (enc x) c).run P w= .ok (if c then .tuple #[((get l x).map encV).getD z, .bool (get l x).isSome]else((get l x).map encV).getD z) w:=by
 have hn:=h.nodup;obtain⟨es,ck,hb,hs,hl,ho⟩:=h;obtain⟨q,hq⟩:=K.lit x hx;rcases find K hl ho hn w hx with⟨h1,_,_,h4⟩|⟨j,e0,v,h1,_,_,_,h5⟩
 ·simp[Instr.lookup,run_underlying ht,MapKept.run_getObj_map hb,K.law.check w _ hq,h1,hz,h4,Result.andThen]
 ·simp[Instr.lookup,run_underlying ht,MapKept.run_getObj_map hb,K.law.check w _ hq,h1,h5,Result.andThen]

theorem mf[DecidableEq α]{x:α}{v:β}(h:∀p∈l,p.1≠x):put l x v=l++ [(x,v)]:=by
 induction l with
 |nil=>rfl
 |cons p r ih=>rw[put,if_neg (h p (by simp)),ih λq hq=>h q (by simp[hq])];rfl
theorem Dt[DecidableEq α]{x:α}{v u:β}{j:Nat}(hn:(l.map (·.1)).Nodup)(h:l[j]? =some (x,u)):put l x v=l.set j (x,v):=by
 induction l generalizing j with
 |nil=>simp at h
 |cons p r ih=>
  rw[xJ,NT]at hn;cases j with
  |zero=>simp at h;subst h;rw[put,if_pos rfl];rfl
  |succ j=>
   have h':r[j]? =some (x,u):=by simpa using h
   rw[put,if_neg (λe=>hn.1 (by rw[e];exact nS.2 ⟨_,ue h',rfl⟩)),ih hn.2 h'];rfl
theorem bL.store[DecidableEq α](K:Key P k enc ok)(h:bL w enc ok encV b l)(ht:P.underlying t=some (.map k e)){x:α}(hx:ok x)(v:β):
  ∃w',(Instr.mapUpdate t (.map (some b)) (enc x) (encV v)).run P w= .ok () w'/\bL w' enc ok encV b (put l x v)/\w.grownBy w' (some b)/\w'.heap.size=w.heap.size:=by
 have hlt:=h.lt;have hn:=h.nodup;obtain⟨es,c,hb,hs,hl,ho⟩:=h;obtain⟨q,hq⟩:=K.lit x hx;have hput:∀p∈put l x v,ok p.1:=λp hp=>by
  rcases Dm hp with rfl|⟨h,_⟩
  ·exact hx
  ·exact ho p h
 rcases find K hl ho hn w hx with⟨h1,h2,h3,h4⟩|⟨j,e0,u,h1,h2,h3,h4,h5⟩
 ·refine⟨{w with heap:=w.heap.setIfInBounds b (.map (es.push {key:=enc x,val:=encV v,born:=c}) (c+1))}, ?_,⟨es.push {key:=enc x,val:=encV v,born:=c},c+1,by simp[hlt],stamped_push hs h2, ?_,hput⟩,⟨rfl,rfl,rfl,by simp,λi _ hne=>by
   rw[NM];intro e;exact hne (by rw[e])⟩,by simp⟩
  ·simp[Instr.mapUpdate,run_underlying ht,MapKept.run_getObj_map hb,K.law.check w _ hq,h1,MapKept.run_setObj_map _ hb,Result.andThen]
  ·rw[mf h3,Array.toList_push,uE,uE,hl];rfl
 ·have hj:es[j]? =some e0:=by simpa using h2
  have hkeyf:∀e'∈es.toList,es[j]? =some e'->({e' with key:=enc x,val:=encV v}:MapEntry).key=e'.key:=λe' _ he'=>by rw[hj]at he';cases he';exact h3.symm
  have hlist:(es.modify j (λe'=> {e' with key:=enc x,val:=encV v})).toList=es.toList.set j {e0 with key:=enc x,val:=encV v}:=by
   rw[Array.toList_modify];apply rC;intro i;rw[List.getElem?_modify,Sd];by_cases hij:j=i
   ·subst hij;rw[if_pos rfl,h2,if_pos (jS.1 h2).1];simp
   ·simp[hij]
  refine⟨{w with heap:=w.heap.setIfInBounds b (.map (es.modify j λe'=> {e' with key:=enc x,val:=encV v}) c)}, ?_,⟨es.modify j λe'=> {e' with key:=enc x,val:=encV v},c,by simp[hlt],stamped_modify hs j (λe'=> {e' with key:=enc x,val:=encV v}) (λ_ _=>rfl) hkeyf, ?_,hput⟩,⟨rfl,rfl,rfl,by simp,λi _ hne=>by
   rw[NM];intro e;exact hne (by rw[e])⟩,by simp⟩
  ·simp[Instr.mapUpdate,run_underlying ht,MapKept.run_getObj_map hb,K.law.check w _ hq,h1,hj,h3,K.law.stays w hq,MapKept.run_setObj_map _ hb,Result.andThen]
  ·rw[Dt hn h4,hlist,Py,Py,hl]
def KQ(w:World)(enc:α->Value)(b st:Nat)(x:α):Prop:=∃(es:Array MapEntry) (clock i:Nat) (e0:MapEntry),w.heap[b]? =some (.map es clock)/\es[i]? =some e0/\e0.key=enc x/\e0.born=st
theorem bL.entry[DecidableEq α](K:Key P k enc ok)(h:bL w enc ok encV b l)(ht:P.underlying t=some (.map k e))(zv:β)(hz:(zeroValue e).run P w= .ok (encV zv) w){x:α}(hx:ok x):
  ∃w' st,(Instr.mapEntry t (.map (some b)) (enc x)).run P w= .ok (.tuple #[encV ((get l x).getD zv), .int .i64 ((st:Nat):Int)]) w'/\bL w' enc ok encV b (put l x ((get l x).getD zv))/\KQ w' enc b st x/\w.grownBy w' (some b)/\w'.heap.size=w.heap.size:=by
 have hlt:=h.lt;have hn:=h.nodup;obtain⟨es,c,hb,hs,hl,ho⟩:=h;obtain⟨q,hq⟩:=K.lit x hx;have hput:∀v,∀p∈put l x v,ok p.1:=λv p hp=>by
  rcases Dm hp with rfl|⟨h,_⟩
  ·exact hx
  ·exact ho p h
 rcases find K hl ho hn w hx with⟨h1,h2,h3,h4⟩|⟨j,e0,u,h1,h2,h3,h4,h5⟩
 ·refine⟨{w with heap:=w.heap.setIfInBounds b (.map (es.push {key:=enc x,val:=encV zv,born:=c}) (c+1))},c, ?_,⟨es.push {key:=enc x,val:=encV zv,born:=c},c+1,by simp[hlt],stamped_push hs h2, ?_,hput _⟩,⟨es.push {key:=enc x,val:=encV zv,born:=c},c+1,es.size,{key:=enc x,val:=encV zv,born:=c},by simp[hlt],by simp,rfl,rfl⟩,⟨rfl,rfl,rfl,by simp,λi _ hne=>by
   rw[NM];intro e;exact hne (by rw[e])⟩,by simp⟩
  ·rw[h4];simp[Instr.mapEntry,run_underlying ht,MapKept.run_getObj_map hb,K.law.check w _ hq,h1,hz,MapKept.run_setObj_map _ hb,Result.andThen,goInt]
  ·rw[h4,Option.getD_none,mf h3,Array.toList_push,uE,uE,hl];rfl
 ·have hj:es[j]? =some e0:=by simpa using h2
  have hkeyf:∀e'∈es.toList,es[j]? =some e'->({e' with key:=enc x}:MapEntry).key=e'.key:=λe' _ he'=>by rw[hj]at he';cases he';exact h3.symm
  have hlist:(es.modify j (λe'=> {e' with key:=enc x})).toList=es.toList:=by
   rw[Array.toList_modify];apply rC;intro i;rw[List.getElem?_modify];by_cases hij:j=i
   ·subst hij;rw[h2];simp[<-h3]
   ·simp[hij]
  have hjs:j<es.size:=by have:=(jS.1 h2).1;simpa using this
  refine⟨{w with heap:=w.heap.setIfInBounds b (.map (es.modify j λe'=> {e' with key:=enc x}) c)},e0.born, ?_,⟨es.modify j λe'=> {e' with key:=enc x},c,by simp[hlt],stamped_modify hs j (λe'=> {e' with key:=enc x}) (λ_ _=>rfl) hkeyf, ?_,hput _⟩,
   ⟨es.modify j λe'=> {e' with key:=enc x},c,j,e0,by simp[hlt], ?_,h3,rfl⟩,⟨rfl,rfl,rfl,by simp,λi _ hne=>by
   rw[NM];intro e;exact hne (by rw[e])⟩,by simp⟩
  ·rw[h5];simp[Instr.mapEntry,run_underlying ht,MapKept.run_getObj_map hb,K.law.check w _ hq,h1,hj,h3,K.law.stays w hq,MapKept.run_setObj_map _ hb,Result.andThen,goInt]
  ·rw[h5,Option.getD_some,Dt hn h4,hlist,hl];congr 1;apply rC;intro i;rw[Sd];by_cases hij:j=i
   ·subst hij;rw[if_pos rfl,h4,if_pos (jS.1 h4).1]
   ·simp[hij]
  ·rw[<-Array.getElem?_toList,hlist];exact h2
def db(w:World)(enc:α->Value)(ok:α->Prop)(encV:β->Value)(b r:Nat)(l left:List (α×β)):Prop:=
 ∃es clock since seen c0,w.heap[b]? =some (.map es clock)/\Stamped es clock/\es.toList.map (λx=>(x.key,x.val))=l.map (λp=>(enc p.1,encV p.2))/\(∀p∈l,ok p.1)/\
  w.heap[r]? =some (.mapIter (some b) since seen c0)/\(∀x∈es.toList,x.born<since)/\(leftOf es seen).toList.map (λx=>(x.key,x.val))=left.map (λp=>(enc p.1,encV p.2))/\since<=c0/\since<=clock/\∀p∈left,p∈l

theorem db.map(h:db w enc ok encV b r l left):bL w enc ok encV b l:=by obtain⟨es,clock,since,seen,c0,hb,hs,hl,ho,_⟩:=h;exact⟨es,clock,hb,hs,hl,ho⟩
theorem db.left_eq(h:db w enc ok encV b r l left):w.rangeLeft b r=left.length:=by
 obtain⟨es,clock,since,seen,c0,hb,_,_,_,hr,_,hc,_⟩:=h;simp only[World.rangeLeft,hb,hr]
 have:=congrArg List.length hc;simpa using this
theorem db.ne(h:db w enc ok encV b r l left):r≠b:=by
 obtain⟨es,clock,since,seen,c0,hb,_,_,_,hr,_⟩:=h;intro e;rw[e,hb]at hr;cases hr
theorem db.lt(h:db w enc ok encV b r l left):r<w.heap.size:=by obtain⟨es,clock,since,seen,c0,_,_,_,_,hr,_⟩:=h;exact(iS.1 hr).1
theorem db.bD{w':World}(h:db w enc ok encV b r l left)(hb:w'.heap[b]? =w.heap[b]?)(hr:w'.heap[r]? =w.heap[r]?):db w' enc ok encV b r l left:=by obtain⟨es,clock,since,seen,c0,h1,h2,h3,h4,h5,rest⟩:=h;exact⟨es,clock,since,seen,c0,hb.trans h1,h2,h3,h4,hr.trans h5,rest⟩

theorem bL.range(h:bL w enc ok encV b l)(ht:P.underlying t=some (.map k e)):
  ∃w',(Instr.range t (.map (some b))).run P w= .ok (.pointer (some ⟨w.heap.size,0,none⟩)) w'/\db w' enc ok encV b w.heap.size l l/\w.grownBy w' none/\w'.heap.size=w.heap.size+1:=by
 have hlt:=h.lt;obtain⟨es,clock,hb,hs,hl,ho⟩:=h;refine⟨_,run_range_map w t k e b es clock ht hb,⟨es,clock,clock, #[],clock,((MapKept.heap_alloc w _).2 b hlt).trans hb,hs,hl,ho,(MapKept.heap_alloc w _).1,hs.1, ?_,aL _,aL _,λp hp=>hp⟩,World.grownBy_alloc w _ none,by simp⟩;rw[<-hl];simp only[leftOf,Array.toList_filter];rw[List.filter_eq_self.2 (λa _=>by simp)]

theorem I7{es:Array MapEntry}{seen:Array Nat}(hn:(es.toList.map (·.born)).Nodup){pre post:List MapEntry}{x:MapEntry}(h:(leftOf es seen).toList=pre++x::post):
  (leftOf es (seen.push x.born)).toList=pre++post:=by
 have e1:(leftOf es (seen.push x.born)).toList=((leftOf es seen).toList).filter (λy=> !(y.born==x.born)):=by
  unfold leftOf;rw[Array.toList_filter,Array.toList_filter,List.filter_filter];refine List.filter_congr λy _=> ?_
  rw[contains_push];cases seen.contains y.born<;>cases (y.born==x.born)<;>rfl
 have hn2:((leftOf es seen).toList.map (·.born)).Nodup:=by unfold leftOf;rw[Array.toList_filter];exact hn.sublist (List.filter_sublist.map _)
 rw[h,uE,xJ]at hn2;have hd:=List.nodup_append.1 hn2;rw[e1,h,List.filter_append,List.filter_cons];simp only[beq_self_eq_true,Bool.not_true,GA,B6];rw[List.filter_eq_self.2,List.filter_eq_self.2]
 ·intro y hy
  have:=(NT.1 hd.2.1).1;simp only[Bool.not_eq_true',R7,ne_eq];intro e;exact this (by rw[<-e];exact nS.2 ⟨y,hy,rfl⟩)
 ·intro y hy;simp only[Bool.not_eq_true',R7,ne_eq];intro e;exact hd.2.2 _ (nS.2 ⟨y,hy,rfl⟩) _ (by simp) e
theorem db.next(h:db w enc ok encV b r l left)(ty:TypeId):
  (left= []/\(Instr.next (.pointer (some ⟨r,0,none⟩)) false ty).run P w= .ok (.tuple #[.bool false]) w)\/
  ∃pre p post w',left=pre++p::post/\(Instr.next (.pointer (some ⟨r,0,none⟩)) false ty).run P w= .ok (.tuple #[.bool true,enc p.1,encV p.2]) w'/\
   db w' enc ok encV b r l (pre++post)/\w.grownBy w' (some r)/\w'.heap.size=w.heap.size/\(Instr.entry (.pointer (some ⟨r,0,none⟩))).run P w'= .ok (.tuple #[enc p.1,encV p.2]) w':=by
 have hne:=h.ne;obtain⟨es,clock,since,seen,c0,hb,hs,hl,ho,hr,hold,hle,hsc,hsk,hm⟩:=h;rcases run_next_at (P:=P) w ty r b since c0 seen es clock hr hb hold hsc with⟨h0,hrun⟩|⟨x,hx,w1,hal,hrun⟩
 ·refine Or.inl ⟨?_,hrun⟩
  have:=congrArg List.length hle;simp only[rm,Array.length_toList]at this;exact List.eq_nil_of_length_eq_zero (by omega)
 ·obtain⟨hem,hes⟩:=mem_left hx;obtain⟨pre',post',hsp⟩:=List.append_of_mem hx;have hle2:=hle;rw[hsp,uE,xJ]at hle2;obtain⟨pre,rest,hspl,hpre,hrest⟩:=List.map_eq_append_iff.1 hle2.symm;obtain⟨p,post,hrl,hp,hpost⟩:=List.map_eq_cons_iff.1 hrest;injection hp with hp1 hp2;have hr1:w1.heap[r]? =some (.mapIter (some b) since seen c0):=by rcases hal with rfl|rfl<;>exact hr
  have hb1:w1.heap[b]? =some (.map es clock):=by rcases hal with rfl|rfl<;>exact hb
  have hset:=heap_set (o':= .mapIter (some b) since (seen.push x.born) clock) hr1;have hb':(setBlock w1 r (.mapIter (some b) since (seen.push x.born) clock)).heap[b]? =some (.map es clock):=(hset.2 b (λe1=>hne e1.symm)).trans hb1;have hnb:=((stamped_iff es clock).1 hs).2.1;have hleft:left=pre++p::post:=by rw[hspl,hrl]
  refine Or.inr ⟨pre,p,post,_,hleft,by rw[hrun,hp1,hp2],
   ⟨es,clock,since,seen.push x.born,clock,hb',hs,hl,ho,hset.1,hold, ?_,hsk,hsk,λq hq=>hm q ?_⟩, ?_, ?_,by rw[hp1,hp2];exact run_entry_at _ r b since seen es clock x hset.1 hb' hem hnb⟩
  ·rw[I7 hnb hsp,uE,uE,hpre,hpost]
  ·rw[hleft];rcases zT.1 hq with h|h
   ·simp[h]
   ·simp[h]
  ·rcases hal with rfl|rfl<;>exact⟨rfl,rfl,rfl,by simp[setBlock],λi _ hi=>hset.2 i (λe1=>hi (by rw[e1]))⟩
  ·rcases hal with rfl|rfl<;>simp[setBlock]

section
variable {ops:Array Oper} {rest:List Oper} {o:Oper} {a:Act} {Q:Exit->Act->World->Prop}
theorem xw(hg:o.guard=none)(m:Operand)(hop:o.op=Op.range t m)(h:bL w enc ok encV b l)(ht:P.underlying t=some (.map k e))(hm:a.eval m= .map (some b))
  (hK:∀w',db w' enc ok encV b w.heap.size l l->w.grownBy w' none->w'.heap.size=w.heap.size+1->wpList P ops Q rest (a.put o.dst (.pointer (some ⟨w.heap.size,0,none⟩))) w'):wpList P ops Q (o::rest) a w:=by
 refine wpList_plain hg λK' hK'=> ?_
 obtain⟨w',hrun,r1,r2,r3⟩:=h.range (P:=P) ht;unfold Oper.wp;simp[execOp,hop,hm,hrun,Result.andThen];exact hK' _ _ (hK w' r1 r2 r3)
theorem rl(hg:o.guard=none)(it:Operand)(hop:o.op=Op.next it false)(hit:a.eval it= .pointer (some ⟨r,0,none⟩))(h:db w enc ok encV b r l left)
  (hDone:left= []->wpList P ops Q rest (a.put o.dst (.tuple #[.bool false])) w)
  (hMore:∀pre p post w',left=pre++p::post->db w' enc ok encV b r l (pre++post)->w.grownBy w' (some r)->w'.heap.size=w.heap.size->
   (Instr.entry (.pointer (some ⟨r,0,none⟩))).run P w'= .ok (.tuple #[enc p.1,encV p.2]) w'->wpList P ops Q rest (a.put o.dst (.tuple #[.bool true,enc p.1,encV p.2])) w'):wpList P ops Q (o::rest) a w:=by
 refine wpList_plain hg λK' hK'=> ?_
 unfold Oper.wp;rcases h.next (P:=P) o.type with⟨h0,hrun⟩|⟨pre,p,post,w',h1,hrun,h2,h3,h4,h5⟩
 ·simp[execOp,hop,hit,hrun,Result.andThen];exact hK' _ _ (hDone h0)
 ·simp[execOp,hop,hit,hrun,Result.andThen];exact hK' _ _ (hMore pre p post w' h1 h2 h3 h4 h5)
end
end
end Go.Mk
namespace Go.Cs
open Go Go.Mk

theorem J5{β:Type}{p:List β->Prop}(h0:p [])(h1:∀l x,p l->p (l++ [x]))(l:List β):p l:=by
 rw[<-l.reverse_reverse];induction l.reverse with
 |nil=>exact h0
 |cons x r ih=>rw[List.reverse_cons];exact h1 _ _ ih

/-! ### Grouping -/
section
variable {α β γ:Type} [DecidableEq α]
end

/-! ### The only least one -/
section
variable {β:Type} (v:β->Int)
end

/-! ### Two lists that rise strictly -/
structure mT where
 kind:Int
 role:Int
 act:Int
 eQ:Int
 start:List (Int×Int)
 after:Int
 cY:Int
 PH:Bool
 fin:Bool
 fh:Int
 resume:Int
 num:Int
 den:Int
 unit:Int
 toK:Int
 qx:Bool
structure kv where
 kind:Int
 cl:List Int
 new:mT
 days:Int
structure Let where
 kind:Int
 j8:Int
 number:Int
 na:Int
 day:Int
 patch:kv
 sum:ByteArray
structure Hd where
 A:Option Addr
 c:Nat
 B:Option Addr
 d:Nat

def mT.zero:mT:=⟨0,0,0,0,[],0,0,false,false,0,0,0,0,0,0,false⟩
def kv.zero:kv:=⟨0,[],mT.zero,0⟩
def Eb(b:Bool):Int:=if b then 1 else 0
def mT.front(k:mT):List Int:= [k.kind,k.role,k.act,k.eQ,k.after,k.cY]
def mT.back(k:mT):List Int:= [k.fh,k.resume,k.num,k.den,k.unit,k.toK]
def mT.jc(k:mT):List Int:=k.front++ [Eb k.PH,Eb k.fin]++k.back++ [Eb k.qx,(k.start.length:Int)]++k.start.flatMap (λs=> [s.1,s.2])
def kv.jc(p:kv):List Int:= [p.kind,p.days,(p.cl.length:Int)]++p.cl++p.new.jc
def word(n:Int):List UInt8:=32::Lib.itoa n
def words(l:List Int):List UInt8:=l.flatMap word
def dI:List UInt8:= [112,97,116,99,104]
def kv.small(p:kv):Bool:=decide (p.cl.length<=400)&&decide (p.new.start.length<=8)
def kv.text(p:kv):List UInt8:=if p.small then dI++words p.jc else []
def Let.base(x:Let):Bool:=decide (0<=x.j8/\x.j8<12/\1<=x.number/\x.number<=1000000/\0<=x.na/\x.na<=2000)
structure Pr where
 x:Let
 h:Hd
 sum:ByteArray
 known:Int
section
variable (D:Let->ByteArray) (aj:Int)
end
end Go.Cs
namespace Go.Cs
open Go Go.Opn Go.RowKit

abbrev Rl:=Let×Hd
def encI(n:Int):List Value:= [.int .i64 n]
def fX(s:Int×Int):List Value:= [.int .i64 s.1, .int .i64 s.2]
def SU(p:kv)(h:Hd):Value:= .slice h.A p.cl.length h.c
def Tq(p:kv)(h:Hd):Value:= .slice h.B p.new.start.length h.d
def nA(k:mT)(st:Value):List Value:=
 [.int .i64 k.kind, .int .i64 k.role, .int .i64 k.act, .int .i64 k.eQ,st, .int .i64 k.after, .int .i64 k.cY, .bool k.PH, .bool k.fin, .int .i64 k.fh, .int .i64 k.resume, .int .i64 k.num, .int .i64 k.den, .int .i64 k.unit, .int .i64 k.toK, .bool k.qx]
def jL(p:kv)(h:Hd):List Value:=
 [.int .i64 p.kind,SU p h, .int .i64 p.new.kind, .int .i64 p.new.role, .int .i64 p.new.act, .int .i64 p.new.eQ,Tq p h, .int .i64 p.new.after, .int .i64 p.new.cY, .bool p.new.PH, .bool p.new.fin, .int .i64 p.new.fh, .int .i64 p.new.resume, .int .i64 p.new.num, .int .i64 p.new.den, .int .i64 p.new.unit, .int .i64 p.new.toK, .bool p.new.qx, .int .i64 p.days]
def fq(r:Rl):List Value:=
 [.int .i64 r.1.kind, .int .i64 r.1.j8, .int .i64 r.1.number, .int .i64 r.1.na, .int .i64 r.1.day]++jL r.1.patch r.2++ [.string r.1.sum]
theorem sB(p:kv)(h:Hd):(jL p h).length=19:=rfl
theorem sy(k:mT)(st:Value)(hs:st.oneCell'=true):∀v∈nA k st,v.oneCell'=true:=λv hv=>by
 simp only[nA,lC,DR,DW]at hv
 repeat' (rcases hv with rfl|hv)
 all_goals first|rfl|exact hs|(subst hv;rfl)
def cP(n:Int):Prop:= -9223372036854775808<=n/\n<=9223372036854775807
structure qE (w:World) (p:kv) (h:Hd):Prop where
 cl:SL w 1 encI h.A p.cl
 st:SL w 2 fX h.B p.new.start
structure Cf (p:kv):Prop where
 jc:∀n∈p.jc,cP n
 cl:p.cl.length<=4611686018427387903
 st:p.new.start.length<=4611686018427387903
structure GX (x:Let):Prop where
 jc:cP x.kind/\cP x.j8/\cP x.number/\cP x.na/\cP x.day
 patch:Cf x.patch
 sum:x.sum.size<=4611686018427387903
theorem qE.below{w w':World}{p:kv}{h:Hd}{B:Nat}(hp:qE w p h)(hb:Below B w w')(hB:w.heap.size<=B):qE w' p h:=
 ⟨hp.cl.below hb hB,hp.st.below hb hB⟩
end Go.Cs
namespace Go.Proofs.YtkmbmfengcdmoaaGreatDoor
open Go.RowKit Go.W32 Go.ay Go.Cs
theorem cB.RR{w : World}(h : cB w) : Lib.TabBelow Tryz.prog w.heap.size w "internal/strconv.uint64pow10" .u64 Lib.pow10Tab := λ_ hb => vL h.p hb (aL _)
end Go.Proofs.YtkmbmfengcdmoaaGreatDoor
namespace Go.Mg
open Go Go.RowKit Go.Mk

section
variable {α γ:Type} {enc:α->Value} {ok:α->Prop} {ec:γ->List Value} {w:World} {base:Nat} {T:TypeId} {sz b:Nat} {L:List (α×(Value×List γ))}
structure GS (w:World) (enc:α->Value) (ok:α->Prop) (ec:γ->List Value) (base:Nat) (T:TypeId) (sz b:Nat) (L:List (α×(Value×List γ))):Prop where
 map:bL w enc ok Prod.fst b L
 row:∀p∈L,w.ownsRow base T sz p.2.1 p.2.2.length (p.2.2.flatMap ec)
 apart:L.Pairwise (λp q=> ∀g,p.2.1.ownBlock=some g->q.2.1.ownBlock≠some g)

theorem Ms{v:Value}{n:Nat}{xs:List Value}(h:w.ownsRow base T sz v n xs){g:Nat}(hg:v.ownBlock=some g):base<=g/\g<w.heap.size:=by
 rcases h.2 with⟨rfl,_⟩|⟨g',cap,cur,rfl,h1,h2,_⟩
 ·cases hg
 ·injection hg with e;subst e;exact⟨h1,(iS.1 h2).1⟩
theorem Fy{w':World}{v:Value}{n:Nat}{xs:List Value}(h:w.ownsRow base T sz v n xs)(hk:∀g,v.ownBlock=some g->w'.heap[g]? =w.heap[g]?):w'.ownsRow base T sz v n xs:=by
 rcases h with⟨h0,⟨rfl,h2⟩|⟨g',cap,cur,rfl,h1,h2,h3⟩⟩
 ·exact⟨h0, .inl ⟨rfl,h2⟩⟩
 ·exact⟨h0, .inr ⟨g',cap,cur,rfl,h1,(hk g' rfl).trans h2,h3⟩⟩

variable [DecidableEq α]
theorem GS.at(h:GS w enc ok ec base T sz b L)(x:α):
  ∃v zs,((get L x).map Prod.fst).getD (.slice none 0 0)=v/\((get L x).map Prod.snd).getD []=zs/\w.ownsRow base T sz v zs.length (zs.flatMap ec)/\((v,zs)=(.slice none 0 0,[])/\get L x=none\/get L x=some (v,zs)):=by
 cases hg:get L x with
 |none=>exact⟨_,_,rfl,rfl,World.ownsRow_nil w base T sz, .inl ⟨rfl,rfl⟩⟩
 |some p=>exact⟨p.1,p.2,rfl,rfl,h.row _ (get_mem hg), .inr rfl⟩
end
end Go.Mg
