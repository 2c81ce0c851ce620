/- A map of slices of one's own (any keys, elements of any number of cells). No condition. -/
import Derived.Test.YtkmbmfengcdmoaaGreatDoorA0
import Derived.Maps.RangeWalk
import Derived.WalkKit
import Derived.Below
import Derived.Lib.ItoaNum
import Derived.Test.YtkmbmfengcdmoaaGreatDoorZAA
import Derived.Test.YtkmbmfengcdmoaaGreatDoorZAH
import Derived.Test.YtkmbmfengcdmoaaGreatDoorZAE
import Derived.Lib.ItoaLen
import Derived.Lib.ItoaMem
import Derived.Lib.AppendIntMem
import Derived.Deep.QuietTactic
import Derived.BigQuiet
import Derived.Maps.AppendAt
set_option linter.all false
namespace Go.Mk
open Go Go.RowKit Go.MapKept Go.Maps Go.ChangeMaps
structure Key (P:Program) (k:TypeId) {α:Type} (enc:α->Value) (ok:α->Prop):Prop where
 law:Keyed P k
 lit:∀x,ok x->∃l,keyOf P k (enc x)=some l
 inj:∀x y,ok x->ok y->enc x=enc y->x=y

section
variable {α β:Type} [DecidableEq α]
def get:List (α×β)->α->Option β
 | [],_=>none
 |p::r,x=>if p.1=x then some p.2 else get r x
def put:List (α×β)->α->β->List (α×β)
 | [],x,v=> [(x,v)]
 |p::r,x,v=>if p.1=x then(x,v)::r else p::put r x v

theorem get_none{l:List (α×β)}{x:α}(h:∀p∈l,p.1≠x):get l x=none:=by
 induction l with
 |nil=>rfl
 |cons p r ih=>rw[get,if_neg (h p (by simp))];exact ih λq c=>h q (by simp[c])
theorem get_mem{l:List (α×β)}{x:α}{v:β}(h:get l x=some v):(x,v)∈l:=by
 induction l with
 |nil=>cases h
 |cons p r ih=>
  rw[get]at h;by_cases c:p.1=x
  ·rw[if_pos c]at h;cases h;subst c;simp
  ·rw[if_neg c]at h;exact iB _ (ih h)
theorem wE{l:List (α×β)}{x:α}:get l x=none↔ ∀p∈l,p.1≠x:=by
 constructor
 ·intro h p c e;induction l with
  |nil=>cases c
  |cons q r ih=>
   rw[get]at h;by_cases d:q.1=x
   ·rw[if_pos d]at h;cases h
   ·rw[if_neg d]at h;rcases lC.1 c with rfl|c
    ·exact d e
    ·exact ih h c
 ·exact get_none
theorem get_some{l:List (α×β)}{x:α}{v:β}(c:(l.map (·.1)).Nodup)(h:(x,v)∈l):get l x=some v:=by
 induction l with
 |nil=>cases h
 |cons p r ih=>
  rw[xJ,NT]at c;rcases lC.1 h with e|h
  ·subst e;rw[get,if_pos rfl]
  ·rw[get,if_neg (λe=>c.1 (by rw[e];exact nS.2 ⟨(x,v),h,rfl⟩))];exact ih c.2 h
theorem JJ{l:List (α×β)}{x:α}{v:β}:(put l x v).map (·.1)=if x∈l.map (·.1)then l.map (·.1)else l.map (·.1)++ [x]:=by
 induction l with
 |nil=>simp[put]
 |cons p r ih=>
  rw[put];by_cases c:p.1=x
  ·rw[if_pos c];simp[c]
  ·rw[if_neg c,xJ,ih];by_cases d:x∈r.map (·.1)
   ·rw[if_pos d,if_pos (by simp only[xJ,lC];exact Or.inr d)];rfl
   ·rw[if_neg d,if_neg (by simp only[xJ,lC];rintro(e|e);exact c e.symm;exact d e)];rfl
theorem vA{l:List (α×β)}{x:α}{v:β}(h:(l.map (·.1)).Nodup):((put l x v).map (·.1)).Nodup:=by
 rw[JJ];split
 ·exact h
 ·rename_i f;exact List.nodup_append.2 ⟨h,by simp,λa d b c=>by simp at c;subst c;rintro rfl;exact f d⟩
theorem CU{l:List (α×β)}{x y:α}{v:β}:get (put l x v) y=if y=x then some v else get l y:=by
 induction l with
 |nil=>
  rw[put,get,get];by_cases h:y=x
  ·subst h;simp
  ·rw[if_neg (λe=>h e.symm),if_neg h,get]
 |cons p r ih=>
  rw[put];by_cases c:p.1=x
  ·rw[if_pos c,get,get];by_cases h:y=x
   ·subst h;simp
   ·rw[if_neg (λe=>h e.symm),if_neg h,if_neg (by rw[c];exact λe=>h e.symm)]
  ·rw[if_neg c,get,ih,get];by_cases h:y=x
   ·subst h;rw[if_neg c];simp
   ·by_cases d:p.1=y
    ·rw[if_pos d,if_pos d,if_neg h]
    ·rw[if_neg d,if_neg d]
theorem Dm{l:List (α×β)}{x:α}{v:β}{p:α×β}(h:p∈put l x v):p=(x,v)\/(p∈l/\(p.1≠x\/ ¬(l.map (·.1)).Nodup)):=by
 by_cases f:(l.map (·.1)).Nodup
 ·have c:=get_some (vA (x:=x) (v:=v) f) (show(p.1,p.2)∈put l x v from h);rw[CU]at c;by_cases d:p.1=x
  ·rw[if_pos d]at c;left;cases c;subst d;rfl
  ·rw[if_neg d]at c;exact Or.inr ⟨get_mem c,Or.inl d⟩
 ·induction l with
  |nil=>simp at f
  |cons q r ih=>
   rw[put]at h;by_cases g:q.1=x
   ·rw[if_pos g]at h;rcases lC.1 h with e|h
    ·exact Or.inl e
    ·exact Or.inr ⟨by simp[h],Or.inr f⟩
   ·rw[if_neg g]at h;rcases lC.1 h with e|h
    ·subst e;exact Or.inr ⟨by simp,Or.inl g⟩
    ·by_cases i:(r.map (·.1)).Nodup
     ·have c:=get_some (vA (x:=x) (v:=v) i) (show(p.1,p.2)∈put r x v from h);rw[CU]at c;by_cases d:p.1=x
      ·rw[if_pos d]at c;left;cases c;subst d;rfl
      ·rw[if_neg d]at c;exact Or.inr ⟨iB _ (get_mem c),Or.inl d⟩
     ·rcases ih h i with e|⟨c,_⟩
      ·exact Or.inl e
      ·exact Or.inr ⟨by simp[c],Or.inr f⟩
end

section
variable {P:Program} {w:World} {t k e:TypeId} {α β:Type} {enc:α->Value} {ok:α->Prop} {encV:β->Value} {b r:Nat} {l left:List (α×β)}
def bL(w:World)(enc:α->Value)(ok:α->Prop)(encV:β->Value)(b:Nat)(l:List (α×β)):Prop:=
 ∃(es:Array MapEntry) (clock:Nat),w.heap[b]? =some (.map es clock)/\Stamped es clock/\es.toList.map (λx=>(x.key,x.val))=l.map (λp=>(enc p.1,encV p.2))/\∀p∈l,ok p.1

theorem bL.lt(h:bL w enc ok encV b l):b<w.heap.size:=by obtain⟨f,c,d,_⟩:=h;exact(iS.1 d).1
theorem bL.bD{w':World}(h:bL w enc ok encV b l)(g:w'.heap[b]? =w.heap[b]?):bL w' enc ok encV b l:=by obtain⟨d,c,f,rest⟩:=h;exact⟨d,c,g.trans f,rest⟩
theorem bL.made(w:World):bL (w.alloc (.map #[] 0)) enc ok encV w.heap.size ([]:List (α×β)):=
 ⟨#[],0,by show(w.heap.push _)[w.heap.size]? =_;simp,stamped_empty 0,rfl,λp c=>by cases c⟩
theorem bL.S9(h:bL w enc ok encV b l):∀p∈l,ok p.1:=by obtain⟨_,_,_,_,_,h⟩:=h;exact h
theorem bL.nodup(h:bL w enc ok encV b l):(l.map (·.1)).Nodup:=by
 obtain⟨i,c,n,m,j,s⟩:=h;have d:(l.map (λp=>enc p.1)).Nodup:=by
  have:=m.2.2
  rwa[show i.toList.map (·.key)=(i.toList.map (λx=>(x.key,x.val))).map (·.1) by simp[Function.comp_def],j,PS]at this
 clear j n m;induction l with
 |nil=>simp
 |cons p r ih=>rw[xJ,NT]at d⊢;refine⟨λhm=>d.1 ?_,ih (λq f=>s q (by simp[f])) d.2⟩;obtain⟨q,f,g⟩:=nS.1 hm;exact nS.2 ⟨q,f,by rw[g]⟩

theorem oB{es:List MapEntry}(i:es.map (λx=>(x.key,x.val))=l.map (λp=>(enc p.1,encV p.2))){j:Nat}{x:MapEntry}(h:es[j]? =some x):∃p,l[j]? =some p/\x.key=enc p.1/\x.val=encV p.2:=by
 have c:(es.map (λx=>(x.key,x.val)))[j]? =some (x.key,x.val):=by rw[mx,h];rfl
 rw[i,mx]at c;cases hp:l[j]? with
 |none=>rw[hp]at c;cases c
 |some p=>rw[hp]at c;have d:=PU c;injection d with f g;exact⟨p,rfl,f.symm,g.symm⟩
theorem Fj(K:Key P k enc ok){es:List MapEntry}(f:es.map (λx=>(x.key,x.val))=l.map (λp=>(enc p.1,encV p.2)))(g:∀p∈l,ok p.1):∀x∈es,∃q,keyOf P k x.key=some q:=λx i=>by
 obtain⟨j,d⟩:=NQ.1 i;obtain⟨p,h,c,_⟩:=oB f d;rw[c];exact K.lit _ (g p (ue h))
theorem find[DecidableEq α](K:Key P k enc ok){es:List MapEntry}(n:es.map (λx=>(x.key,x.val))=l.map (λp=>(enc p.1,encV p.2)))(B:∀p∈l,ok p.1)(E:(l.map (·.1)).Nodup)(w:World){x:α}(C:ok x):
  ((Instr.findKey k (enc x) es).run P w= .ok none w/\(∀y∈es,y.key≠enc x)/\(∀p∈l,p.1≠x)/\get l x=none)\/
   ∃j f v,(Instr.findKey k (enc x) es).run P w= .ok (some (j,encV v)) w/\es[j]? =some f/\f.key=enc x/\l[j]? =some (x,v)/\get l x=some v:=by
 obtain⟨q,F⟩:=K.lit x C;rcases K.law.find w F es (Fj K n B)with⟨m,c⟩|⟨j,f,m,c,z⟩
 ·have A:∀p∈l,p.1≠x:=by
   intro p g h
   have:(enc p.1,encV p.2)∈es.map (λx=>(x.key,x.val)):=by rw[n];exact nS.2 ⟨p,g,rfl⟩
   obtain⟨y,G,u⟩:=nS.1 this;injection u with i _;exact c y G (by rw[i,h])
  exact Or.inl ⟨m,c,A,get_none A⟩
 ·obtain⟨p,g,h,i⟩:=oB n c;have s:p.1=x:=K.inj _ _ (B p (ue g)) C (by rw[<-h,z]);have d:l[j]? =some (x,p.2):=by rw[g, <-s]
  exact Or.inr ⟨j,f,p.2,by rw[m,i],c,z,d,get_some E (ue d)⟩

theorem bL.look[DecidableEq α](K:Key P k enc ok)(h:bL w enc ok encV b l)(i:P.underlying t=some (.map k e)){z:Value}(hz:(zeroValue e).run P w= .ok z w){x:α}(m:ok x)(c:Bool):
  (Instr.lookup t (.map (some b)) (enc x) c).run P w= .ok (if c then .tuple #[((get l x).map encV).getD z, .bool (get l x).isSome]else((get l x).map encV).getD z) w:=by
 have u:=h.nodup;obtain⟨C,A,f,E,s,y⟩:=h;obtain⟨q,g⟩:=K.lit x m;rcases find K s y u w m with⟨d,_,_,n⟩|⟨j,B,v,d,_,_,_,p⟩
 ·simp[Instr.lookup,run_underlying i,MapKept.run_getObj_map f,K.law.check w _ g,d,hz,n,Result.andThen]
 ·simp[Instr.lookup,run_underlying i,MapKept.run_getObj_map f,K.law.check w _ g,d,p,Result.andThen]

theorem mf[DecidableEq α]{x:α}{v:β}(h:∀p∈l,p.1≠x):put l x v=l++ [(x,v)]:=by
 induction l with
 |nil=>rfl
 |cons p r ih=>rw[put,if_neg (h p (by simp)),ih λq c=>h q (by simp[c])];rfl
theorem Dt[DecidableEq α]{x:α}{v u:β}{j:Nat}(c:(l.map (·.1)).Nodup)(h:l[j]? =some (x,u)):put l x v=l.set j (x,v):=by
 induction l generalizing j with
 |nil=>simp at h
 |cons p r ih=>
  rw[xJ,NT]at c;cases j with
  |zero=>simp at h;subst h;rw[put,if_pos rfl];rfl
  |succ j=>
   have d:r[j]? =some (x,u):=by simpa using h
   rw[put,if_neg (λe=>c.1 (by rw[e];exact nS.2 ⟨_,ue d,rfl⟩)),ih c.2 d];rfl
theorem bL.store[DecidableEq α](K:Key P k enc ok)(h:bL w enc ok encV b l)(U:P.underlying t=some (.map k e)){x:α}(I:ok x)(v:β):
  ∃w',(Instr.mapUpdate t (.map (some b)) (enc x) (encV v)).run P w= .ok () w'/\bL w' enc ok encV b (put l x v)/\w.grownBy w' (some b)/\w'.heap.size=w.heap.size:=by
 have B:=h.lt;have O:=h.nodup;obtain⟨f,c,E,S,G,R⟩:=h;obtain⟨q,H⟩:=K.lit x I;have g:∀p∈put l x v,ok p.1:=λp V=>by
  rcases Dm V with rfl|⟨h,_⟩
  ·exact I
  ·exact R p h
 rcases find K G R O w I with⟨F,y,C,M⟩|⟨j,J,u,F,y,C,M,W⟩
 ·refine⟨{w with heap:=w.heap.setIfInBounds b (.map (f.push {key:=enc x,val:=encV v,born:=c}) (c+1))}, ?_,⟨f.push {key:=enc x,val:=encV v,born:=c},c+1,by simp[B],stamped_push S y, ?_,g⟩,⟨rfl,rfl,rfl,by simp,λi _ s=>by
   rw[NM];intro e;exact s (by rw[e])⟩,by simp⟩
  ·simp[Instr.mapUpdate,run_underlying U,MapKept.run_getObj_map E,K.law.check w _ H,F,MapKept.run_setObj_map _ E,Result.andThen]
  ·rw[mf C,Array.toList_push,uE,uE,G];rfl
 ·have N:f[j]? =some J:=by simpa using y
  have m:∀d∈f.toList,f[j]? =some d->({d with key:=enc x,val:=encV v}:MapEntry).key=d.key:=λd _ z=>by rw[N]at z;cases z;exact C.symm
  have n:(f.modify j (λd=> {d with key:=enc x,val:=encV v})).toList=f.toList.set j {J with key:=enc x,val:=encV v}:=by
   rw[Array.toList_modify];apply rC;intro i;rw[List.getElem?_modify,Sd];by_cases A:j=i
   ·subst A;rw[if_pos rfl,y,if_pos (jS.1 y).1];simp
   ·simp[A]
  refine⟨{w with heap:=w.heap.setIfInBounds b (.map (f.modify j λd=> {d with key:=enc x,val:=encV v}) c)}, ?_,⟨f.modify j λd=> {d with key:=enc x,val:=encV v},c,by simp[B],stamped_modify S j (λd=> {d with key:=enc x,val:=encV v}) (λ_ _=>rfl) m, ?_,g⟩,⟨rfl,rfl,rfl,by simp,λi _ s=>by
   rw[NM];intro e;exact s (by rw[e])⟩,by simp⟩
  ·simp[Instr.mapUpdate,run_underlying U,MapKept.run_getObj_map E,K.law.check w _ H,F,N,C,K.law.stays w H,MapKept.run_setObj_map _ E,Result.andThen]
  ·rw[Dt O M,n,Py,Py,G]
def KQ(w:World)(enc:α->Value)(b st:Nat)(x:α):Prop:=∃(es:Array MapEntry) (clock i:Nat) (e0:MapEntry),w.heap[b]? =some (.map es clock)/\es[i]? =some e0/\e0.key=enc x/\e0.born=st
theorem bL.entry[DecidableEq α](K:Key P k enc ok)(h:bL w enc ok encV b l)(W:P.underlying t=some (.map k e))(A:β)(hz:(zeroValue e).run P w= .ok (encV A) w){x:α}(N:ok x):
  ∃w' st,(Instr.mapEntry t (.map (some b)) (enc x)).run P w= .ok (.tuple #[encV ((get l x).getD A), .int .i64 ((st:Nat):Int)]) w'/\bL w' enc ok encV b (put l x ((get l x).getD A))/\KQ w' enc b st x/\w.grownBy w' (some b)/\w'.heap.size=w.heap.size:=by
 have n:=h.lt;have S:=h.nodup;obtain⟨f,c,G,V,J,U⟩:=h;obtain⟨q,M⟩:=K.lit x N;have s:∀v,∀p∈put l x v,ok p.1:=λv p Y=>by
  rcases Dm Y with rfl|⟨h,_⟩
  ·exact N
  ·exact U p h
 rcases find K J U S w N with⟨I,B,C,E⟩|⟨j,H,u,I,B,C,E,O⟩
 ·refine⟨{w with heap:=w.heap.setIfInBounds b (.map (f.push {key:=enc x,val:=encV A,born:=c}) (c+1))},c, ?_,⟨f.push {key:=enc x,val:=encV A,born:=c},c+1,by simp[n],stamped_push V B, ?_,s _⟩,⟨f.push {key:=enc x,val:=encV A,born:=c},c+1,f.size,{key:=enc x,val:=encV A,born:=c},by simp[n],by simp,rfl,rfl⟩,⟨rfl,rfl,rfl,by simp,λi _ z=>by
   rw[NM];intro e;exact z (by rw[e])⟩,by simp⟩
  ·rw[E];simp[Instr.mapEntry,run_underlying W,MapKept.run_getObj_map G,K.law.check w _ M,I,hz,MapKept.run_setObj_map _ G,Result.andThen,goInt]
  ·rw[E,Option.getD_none,mf C,Array.toList_push,uE,uE,J];rfl
 ·have R:f[j]? =some H:=by simpa using B
  have y:∀d∈f.toList,f[j]? =some d->({d with key:=enc x}:MapEntry).key=d.key:=λd _ F=>by rw[R]at F;cases F;exact C.symm
  have m:(f.modify j (λd=> {d with key:=enc x})).toList=f.toList:=by
   rw[Array.toList_modify];apply rC;intro i;rw[List.getElem?_modify];by_cases g:j=i
   ·subst g;rw[B];simp[<-C]
   ·simp[g]
  have X:j<f.size:=by have:=(jS.1 B).1;simpa using this
  refine⟨{w with heap:=w.heap.setIfInBounds b (.map (f.modify j λd=> {d with key:=enc x}) c)},H.born, ?_,⟨f.modify j λd=> {d with key:=enc x},c,by simp[n],stamped_modify V j (λd=> {d with key:=enc x}) (λ_ _=>rfl) y, ?_,s _⟩,
   ⟨f.modify j λd=> {d with key:=enc x},c,j,H,by simp[n], ?_,C,rfl⟩,⟨rfl,rfl,rfl,by simp,λi _ z=>by
   rw[NM];intro e;exact z (by rw[e])⟩,by simp⟩
  ·rw[O];simp[Instr.mapEntry,run_underlying W,MapKept.run_getObj_map G,K.law.check w _ M,I,R,C,K.law.stays w M,MapKept.run_setObj_map _ G,Result.andThen,goInt]
  ·rw[O,Option.getD_some,Dt S E,m,J];congr 1;apply rC;intro i;rw[Sd];by_cases g:j=i
   ·subst g;rw[if_pos rfl,E,if_pos (jS.1 E).1]
   ·simp[g]
  ·rw[<-Array.getElem?_toList,m];exact B
def db(w:World)(enc:α->Value)(ok:α->Prop)(encV:β->Value)(b r:Nat)(l left:List (α×β)):Prop:=
 ∃es clock since seen c0,w.heap[b]? =some (.map es clock)/\Stamped es clock/\es.toList.map (λx=>(x.key,x.val))=l.map (λp=>(enc p.1,encV p.2))/\(∀p∈l,ok p.1)/\
  w.heap[r]? =some (.mapIter (some b) since seen c0)/\(∀x∈es.toList,x.born<since)/\(leftOf es seen).toList.map (λx=>(x.key,x.val))=left.map (λp=>(enc p.1,encV p.2))/\since<=c0/\since<=clock/\∀p∈left,p∈l

theorem db.map(h:db w enc ok encV b r l left):bL w enc ok encV b l:=by obtain⟨g,c,d,f,p,i,n,j,m,_⟩:=h;exact⟨g,c,i,n,j,m⟩
theorem db.left_eq(h:db w enc ok encV b r l left):w.rangeLeft b r=left.length:=by
 obtain⟨n,c,d,f,m,g,_,_,_,j,_,i,_⟩:=h;simp only[World.rangeLeft,g,j]
 have:=congrArg List.length i;simpa using this
theorem db.ne(h:db w enc ok encV b r l left):r≠b:=by
 obtain⟨m,c,d,g,j,i,_,_,_,f,_⟩:=h;intro e;rw[e,i]at f;cases f
theorem db.lt(h:db w enc ok encV b r l left):r<w.heap.size:=by obtain⟨j,c,d,f,i,_,_,_,_,g,_⟩:=h;exact(iS.1 g).1
theorem db.bD{w':World}(h:db w enc ok encV b r l left)(s:w'.heap[b]? =w.heap[b]?)(u:w'.heap[r]? =w.heap[r]?):db w' enc ok encV b r l left:=by obtain⟨i,c,d,f,g,j,m,n,p,q,rest⟩:=h;exact⟨i,c,d,f,g,s.trans j,m,n,p,u.trans q,rest⟩

theorem bL.range(h:bL w enc ok encV b l)(q:P.underlying t=some (.map k e)):
  ∃w',(Instr.range t (.map (some b))).run P w= .ok (.pointer (some ⟨w.heap.size,0,none⟩)) w'/\db w' enc ok encV b w.heap.size l l/\w.grownBy w' none/\w'.heap.size=w.heap.size+1:=by
 have d:=h.lt;obtain⟨f,c,g,j,i,m⟩:=h;refine⟨_,run_range_map w t k e b f c q g,⟨f,c,c, #[],c,((MapKept.heap_alloc w _).2 b d).trans g,j,i,m,(MapKept.heap_alloc w _).1,j.1, ?_,aL _,aL _,λp n=>n⟩,World.grownBy_alloc w _ none,by simp⟩;rw[<-i];simp only[leftOf,Array.toList_filter];rw[List.filter_eq_self.2 (λa _=>by simp)]

theorem I7{es:Array MapEntry}{c:Array Nat}(n:(es.toList.map (·.born)).Nodup){g d:List MapEntry}{x:MapEntry}(h:(leftOf es c).toList=g++x::d):
  (leftOf es (c.push x.born)).toList=g++d:=by
 have m:(leftOf es (c.push x.born)).toList=((leftOf es c).toList).filter (λy=> !(y.born==x.born)):=by
  unfold leftOf;rw[Array.toList_filter,Array.toList_filter,List.filter_filter];refine List.filter_congr λy _=> ?_
  rw[contains_push];cases c.contains y.born<;>cases (y.born==x.born)<;>rfl
 have f:((leftOf es c).toList.map (·.born)).Nodup:=by unfold leftOf;rw[Array.toList_filter];exact n.sublist (List.filter_sublist.map _)
 rw[h,uE,xJ]at f;have j:=List.nodup_append.1 f;rw[m,h,List.filter_append,List.filter_cons];simp only[beq_self_eq_true,Bool.not_true,GA,B6];rw[List.filter_eq_self.2,List.filter_eq_self.2]
 ·intro y i
  have:=(NT.1 j.2.1).1;simp only[Bool.not_eq_true',R7,ne_eq];intro e;exact this (by rw[<-e];exact nS.2 ⟨y,i,rfl⟩)
 ·intro y i;simp only[Bool.not_eq_true',R7,ne_eq];intro e;exact j.2.2 _ (nS.2 ⟨y,i,rfl⟩) _ (by simp) e
theorem db.next(h:db w enc ok encV b r l left)(ty:TypeId):
  (left= []/\(Instr.next (.pointer (some ⟨r,0,none⟩)) false ty).run P w= .ok (.tuple #[.bool false]) w)\/
  ∃s p g w',left=s++p::g/\(Instr.next (.pointer (some ⟨r,0,none⟩)) false ty).run P w= .ok (.tuple #[.bool true,enc p.1,encV p.2]) w'/\
   db w' enc ok encV b r l (s++g)/\w.grownBy w' (some r)/\w'.heap.size=w.heap.size/\(Instr.entry (.pointer (some ⟨r,0,none⟩))).run P w'= .ok (.tuple #[enc p.1,encV p.2]) w':=by
 have U:=h.ne;obtain⟨C,c,d,f,c0,hb,hs,hl,ho,hr,z,F,X,K,hm⟩:=h;rcases run_next_at (P:=P) w ty r b d c0 f C c hr hb z X with⟨h0,n⟩|⟨x,hx,Z,u,n⟩
 ·refine Or.inl ⟨?_,n⟩
  have:=congrArg List.length F;simp only[rm,Array.length_toList]at this;exact List.eq_nil_of_length_eq_zero (by omega)
 ·obtain⟨S,bi⟩:=mem_left hx;obtain⟨an,Y,M⟩:=List.append_of_mem hx;have y:=F;rw[M,uE,xJ]at y;obtain⟨s,rest,N,J,B⟩:=List.map_eq_append_iff.1 y.symm;obtain⟨p,g,W,hp,A⟩:=List.map_eq_cons_iff.1 B;injection hp with H I;have V:Z.heap[r]? =some (.mapIter (some b) d f c0):=by rcases u with rfl|rfl<;>exact hr
  have R:Z.heap[b]? =some (.map C c):=by rcases u with rfl|rfl<;>exact hb
  have j:=heap_set (o':= .mapIter (some b) d (f.push x.born) c) V;have E:(setBlock Z r (.mapIter (some b) d (f.push x.born) c)).heap[b]? =some (.map C c):=(j.2 b (λO=>U O.symm)).trans R;have G:=((stamped_iff C c).1 hs).2.1;have m:left=s++p::g:=by rw[N,W]
  refine Or.inr ⟨s,p,g,_,m,by rw[n,H,I],
   ⟨C,c,d,f.push x.born,c,E,hs,hl,ho,j.1,z, ?_,K,K,λq hq=>hm q ?_⟩, ?_, ?_,by rw[H,I];exact run_entry_at _ r b d f C c x j.1 E S G⟩
  ·rw[I7 G M,uE,uE,J,A]
  ·rw[m];rcases zT.1 hq with h|h
   ·simp[h]
   ·simp[h]
  ·rcases u with rfl|rfl<;>exact⟨rfl,rfl,rfl,by simp[setBlock],λi _ hi=>j.2 i (λO=>hi (by rw[O]))⟩
  ·rcases u with rfl|rfl<;>simp[setBlock]

section
variable {ops:Array Oper} {rest:List Oper} {o:Oper} {a:Act} {Q:Exit->Act->World->Prop}
theorem xw(i:o.guard=none)(m:Operand)(f:o.op=Op.range t m)(h:bL w enc ok encV b l)(j:P.underlying t=some (.map k e))(hm:a.eval m= .map (some b))
  (g:∀w',db w' enc ok encV b w.heap.size l l->w.grownBy w' none->w'.heap.size=w.heap.size+1->wpList P ops Q rest (a.put o.dst (.pointer (some ⟨w.heap.size,0,none⟩))) w'):wpList P ops Q (o::rest) a w:=by
 refine wpList_plain i λs d=> ?_
 obtain⟨w',c,n,p,q⟩:=h.range (P:=P) j;unfold Oper.wp;simp[execOp,f,hm,c,Result.andThen];exact d _ _ (g w' n p q)
theorem rl(B:o.guard=none)(q:Operand)(n:o.op=Op.next q false)(m:a.eval q= .pointer (some ⟨r,0,none⟩))(h:db w enc ok encV b r l left)
  (g:left= []->wpList P ops Q rest (a.put o.dst (.tuple #[.bool false])) w)
  (i:∀f p c w',left=f++p::c->db w' enc ok encV b r l (f++c)->w.grownBy w' (some r)->w'.heap.size=w.heap.size->
   (Instr.entry (.pointer (some ⟨r,0,none⟩))).run P w'= .ok (.tuple #[enc p.1,encV p.2]) w'->wpList P ops Q rest (a.put o.dst (.tuple #[.bool true,enc p.1,encV p.2])) w'):wpList P ops Q (o::rest) a w:=by
 refine wpList_plain B λC j=> ?_
 unfold Oper.wp;rcases h.next (P:=P) o.type with⟨s,d⟩|⟨f,p,c,w',u,d,x,y,z,A⟩
 ·simp[execOp,n,m,d,Result.andThen];exact j _ _ (g s)
 ·simp[execOp,n,m,d,Result.andThen];exact j _ _ (i f p c w' u x y z A)
end
end
end Go.Mk
namespace Go.Cs
open Go Go.Mk

/-! ### Grouping -/
section
variable {α β γ:Type} [DecidableEq α]
end

/-! ### The only least one -/
section
variable {β:Type} (v:β->Int)
end

/-! ### Two lists that rise strictly -/
structure mT where
 kind:Int
 role:Int
 act:Int
 eQ:Int
 start:List (Int×Int)
 after:Int
 cY:Int
 PH:Bool
 fin:Bool
 fh:Int
 resume:Int
 num:Int
 den:Int
 unit:Int
 toK:Int
 qx:Bool
structure kv where
 kind:Int
 cl:List Int
 new:mT
 days:Int
structure Let where
 kind:Int
 j8:Int
 number:Int
 na:Int
 day:Int
 patch:kv
 sum:ByteArray
structure Hd where
 A:Option Addr
 c:Nat
 B:Option Addr
 d:Nat

def mT.zero:mT:=⟨0,0,0,0,[],0,0,false,false,0,0,0,0,0,0,false⟩
def kv.zero:kv:=⟨0,[],mT.zero,0⟩
def Eb(b:Bool):Int:=if b then 1 else 0
def mT.front(k:mT):List Int:= [k.kind,k.role,k.act,k.eQ,k.after,k.cY]
def mT.back(k:mT):List Int:= [k.fh,k.resume,k.num,k.den,k.unit,k.toK]
def mT.jc(k:mT):List Int:=k.front++ [Eb k.PH,Eb k.fin]++k.back++ [Eb k.qx,(k.start.length:Int)]++k.start.flatMap (λs=> [s.1,s.2])
def kv.jc(p:kv):List Int:= [p.kind,p.days,(p.cl.length:Int)]++p.cl++p.new.jc
def word(n:Int):List UInt8:=32::Lib.itoa n
def words(l:List Int):List UInt8:=l.flatMap word
def dI:List UInt8:= [112,97,116,99,104]
def kv.small(p:kv):Bool:=decide (p.cl.length<=400)&&decide (p.new.start.length<=8)
def kv.text(p:kv):List UInt8:=if p.small then dI++words p.jc else []
section
variable (D:Let->ByteArray) (aj:Int)
end
end Go.Cs
namespace Go.Cs
open Go Go.Opn Go.RowKit

abbrev Rl:=Let×Hd
def encI(n:Int):List Value:= [.int .i64 n]
def fX(s:Int×Int):List Value:= [.int .i64 s.1, .int .i64 s.2]
def SU(p:kv)(h:Hd):Value:= .slice h.A p.cl.length h.c
def Tq(p:kv)(h:Hd):Value:= .slice h.B p.new.start.length h.d
def nA(k:mT)(st:Value):List Value:=
 [.int .i64 k.kind, .int .i64 k.role, .int .i64 k.act, .int .i64 k.eQ,st, .int .i64 k.after, .int .i64 k.cY, .bool k.PH, .bool k.fin, .int .i64 k.fh, .int .i64 k.resume, .int .i64 k.num, .int .i64 k.den, .int .i64 k.unit, .int .i64 k.toK, .bool k.qx]
def jL(p:kv)(h:Hd):List Value:=
 [.int .i64 p.kind,SU p h, .int .i64 p.new.kind, .int .i64 p.new.role, .int .i64 p.new.act, .int .i64 p.new.eQ,Tq p h, .int .i64 p.new.after, .int .i64 p.new.cY, .bool p.new.PH, .bool p.new.fin, .int .i64 p.new.fh, .int .i64 p.new.resume, .int .i64 p.new.num, .int .i64 p.new.den, .int .i64 p.new.unit, .int .i64 p.new.toK, .bool p.new.qx, .int .i64 p.days]
def fq(r:Rl):List Value:=
 [.int .i64 r.1.kind, .int .i64 r.1.j8, .int .i64 r.1.number, .int .i64 r.1.na, .int .i64 r.1.day]++jL r.1.patch r.2++ [.string r.1.sum]
theorem sB(p:kv)(h:Hd):(jL p h).length=19:=rfl
theorem sy(k:mT)(st:Value)(c:st.oneCell'=true):∀v∈nA k st,v.oneCell'=true:=λv hv=>by
 simp only[nA,lC,DR,DW]at hv
 repeat' (rcases hv with rfl|hv)
 all_goals first|rfl|exact c|(subst hv;rfl)
def cP(n:Int):Prop:= -9223372036854775808<=n/\n<=9223372036854775807
structure qE (w:World) (p:kv) (h:Hd):Prop where
 cl:SL w 1 encI h.A p.cl
 st:SL w 2 fX h.B p.new.start
structure Cf (p:kv):Prop where
 jc:∀n∈p.jc,cP n
 cl:p.cl.length<=4611686018427387903
 st:p.new.start.length<=4611686018427387903
structure GX (x:Let):Prop where
 jc:cP x.kind/\cP x.j8/\cP x.number/\cP x.na/\cP x.day
 patch:Cf x.patch
 sum:x.sum.size<=4611686018427387903
theorem qE.below{w w':World}{p:kv}{h:Hd}{B:Nat}(f:qE w p h)(d:Below B w w')(c:w.heap.size<=B):qE w' p h:=
 ⟨f.cl.below d c,f.st.below d c⟩
end Go.Cs
namespace Go.Proofs.YtkmbmfengcdmoaaGreatDoor
open Go.RowKit Go.W32 Go.ay Go.Cs
theorem cB.RR{w : World}(h : cB w) : Lib.TabBelow Tryz.prog w.heap.size w "internal/strconv.uint64pow10" .u64 Lib.pow10Tab := λ_ c => vL h.p c (aL _)
end Go.Proofs.YtkmbmfengcdmoaaGreatDoor
namespace Go.Mg
open Go Go.RowKit Go.Mk

section
variable {α γ:Type} {enc:α->Value} {ok:α->Prop} {ec:γ->List Value} {w:World} {base:Nat} {T:TypeId} {sz b:Nat} {L:List (α×(Value×List γ))}

theorem Ms{v:Value}{n:Nat}{m:List Value}(h:w.ownsRow base T sz v n m){g:Nat}(c:v.ownBlock=some g):base<=g/\g<w.heap.size:=by
 rcases h.2 with⟨rfl,_⟩|⟨p,d,f,rfl,i,j,_⟩
 ·cases c
 ·injection c with e;subst e;exact⟨i,(iS.1 j).1⟩
theorem Fy{w':World}{v:Value}{n:Nat}{m:List Value}(h:w.ownsRow base T sz v n m)(s:∀g,v.ownBlock=some g->w'.heap[g]? =w.heap[g]?):w'.ownsRow base T sz v n m:=by
 rcases h with⟨j,⟨rfl,f⟩|⟨i,c,d,rfl,p,f,q⟩⟩
 ·exact⟨j, .inl ⟨rfl,f⟩⟩
 ·exact⟨j, .inr ⟨i,c,d,rfl,p,(s i rfl).trans f,q⟩⟩

variable [DecidableEq α]
end
end Go.Mg
