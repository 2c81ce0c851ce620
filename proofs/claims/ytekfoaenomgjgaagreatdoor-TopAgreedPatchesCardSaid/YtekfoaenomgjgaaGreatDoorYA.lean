/- Maps with keys of any kind and any values, as lists of pairs: look-up, store, range. No condition. What package consent computes, in plain words: grouping and choosing. No condition. Letters, patches and what is agreed on, as plain data. No condition. Arguments opened: structs and slices of structs whose parts are one cell each; a slice that reads as a list. No condition. Letters, patches, proposals and amendments in memory. No condition. A map of slices of one's own (any keys, elements of any number of cells). No condition. Plain law of ConsentAll: what is agreed on needs all others' acceptances. No condition. The pairs of letters that contradict each other, as plain lists. No condition. The head of law 30, as plain data. No condition. -/
import Derived.Maps.RangeWalk
import Derived.WalkKit
import Derived.Below
import Derived.Lib.ItoaNum
import Derived.Deep.Slices
import Derived.ChangeSame
import Derived.WideShapes
import Derived.OpenShut
import Derived.Laws.AppendOwn
import Derived.Maps.AppendAt
set_option linter.all false
namespace Go.Mk
open Go Go.RowKit Go.MapKept Go.Maps Go.ChangeMaps
structure Key (P:Program) (k:TypeId) {α:Type} (enc:α->Value) (ok:α->Prop):Prop where
 law:Keyed P k
 lit:∀x,ok x->∃l,keyOf P k (enc x)=some l
 inj:∀x y,ok x->ok y->enc x=enc y->x=y

section
variable {α β:Type} [DecidableEq α]
def get:List (α×β)->α->Option β
 | [],_=>none
 |p::r,x=>if p.1=x then some p.2 else get r x
def put:List (α×β)->α->β->List (α×β)
 | [],x,v=> [(x,v)]
 |p::r,x,v=>if p.1=x then(x,v)::r else p::put r x v

theorem get_none{l:List (α×β)}{x:α}(h:∀p∈l,p.1≠x):get l x=none:=by
 induction l with
 |nil=>rfl
 |cons p r ih=>rw[get,if_neg (h p (by simp))];exact ih fun q hq=>h q (by simp[hq])
theorem get_mem{l:List (α×β)}{x:α}{v:β}(h:get l x=some v):(x,v)∈l:=by
 induction l with
 |nil=>cases h
 |cons p r ih=>
  rw[get]at h
  by_cases hp:p.1=x
  ·rw[if_pos hp]at h
   cases h;subst hp;simp
  ·rw[if_neg hp]at h
   exact List.mem_cons_of_mem _ (ih h)
theorem gA{l:List (α×β)}{x:α}{v:β}(hn:(l.map (·.1)).Nodup)(h:(x,v)∈l):get l x=some v:=by
 induction l with
 |nil=>cases h
 |cons p r ih=>
  rw[List.map_cons,List.nodup_cons]at hn
  rcases List.mem_cons.1 h with e|h
  ·subst e;rw[get,if_pos rfl]
  ·rw[get,if_neg (fun e=>hn.1 (by rw[e];exact List.mem_map.2 ⟨(x,v),h,rfl⟩))]
   exact ih hn.2 h
theorem put_keys{l:List (α×β)}{x:α}{v:β}:(put l x v).map (·.1)=if x∈l.map (·.1)then l.map (·.1)else l.map (·.1)++ [x]:=by
 induction l with
 |nil=>simp[put]
 |cons p r ih=>
  rw[put]
  by_cases hp:p.1=x
  ·rw[if_pos hp];simp[hp]
  ·rw[if_neg hp,List.map_cons,ih]
   by_cases hx:x∈r.map (·.1)
   ·rw[if_pos hx,if_pos (by simp only[List.map_cons,List.mem_cons];exact Or.inr hx)];rfl
   ·rw[if_neg hx,if_neg (by simp only[List.map_cons,List.mem_cons];rintro(e|e);exact hp e.symm;exact hx e)];rfl
theorem fI{l:List (α×β)}{x:α}{v:β}(h:(l.map (·.1)).Nodup):((put l x v).map (·.1)).Nodup:=by
 rw[put_keys]
 split
 ·exact h
 ·rename_i hx
  exact List.nodup_append.2 ⟨h,by simp,fun a ha b hb=>by simp at hb;subst hb;rintro rfl;exact hx ha⟩
theorem get_put{l:List (α×β)}{x y:α}{v:β}:get (put l x v) y=if y=x then some v else get l y:=by
 induction l with
 |nil=>
  rw[put,get,get]
  by_cases h:y=x
  ·subst h;simp
  ·rw[if_neg (fun e=>h e.symm),if_neg h,get]
 |cons p r ih=>
  rw[put]
  by_cases hp:p.1=x
  ·rw[if_pos hp,get,get]
   by_cases h:y=x
   ·subst h;simp
   ·rw[if_neg (fun e=>h e.symm),if_neg h,if_neg (by rw[hp];exact fun e=>h e.symm)]
  ·rw[if_neg hp,get,ih,get]
   by_cases h:y=x
   ·subst h;rw[if_neg hp];simp
   ·by_cases hy:p.1=y
    ·rw[if_pos hy,if_pos hy,if_neg h]
    ·rw[if_neg hy,if_neg hy]
theorem put_put{l:List (α×β)}{x:α}{u v:β}:put (put l x u) x v=put l x v:=by
 induction l with
 |nil=>simp[put]
 |cons p r ih=>
  rw[put,put]
  by_cases hp:p.1=x
  ·rw[if_pos hp,if_pos hp,put,if_pos rfl]
  ·rw[if_neg hp,if_neg hp,put,if_neg hp,ih]
theorem dN{l:List (α×β)}{x:α}{v:β}{p:α×β}(h:p∈put l x v):p=(x,v)\/(p∈l/\(p.1≠x\/ ¬(l.map (·.1)).Nodup)):=by
 by_cases hn:(l.map (·.1)).Nodup
 ·have h1:=gA (fI (x:=x) (v:=v) hn) (show(p.1,p.2)∈put l x v from h)
  rw[get_put]at h1
  by_cases hx:p.1=x
  ·rw[if_pos hx]at h1
   left;cases h1;subst hx;rfl
  ·rw[if_neg hx]at h1
   exact Or.inr ⟨get_mem h1,Or.inl hx⟩
 ·induction l with
  |nil=>simp at hn
  |cons q r ih=>
   rw[put]at h
   by_cases hq:q.1=x
   ·rw[if_pos hq]at h
    rcases List.mem_cons.1 h with e|h
    ·exact Or.inl e
    ·exact Or.inr ⟨by simp[h],Or.inr hn⟩
   ·rw[if_neg hq]at h
    rcases List.mem_cons.1 h with e|h
    ·subst e;exact Or.inr ⟨by simp,Or.inl hq⟩
    ·by_cases hr:(r.map (·.1)).Nodup
     ·have h1:=gA (fI (x:=x) (v:=v) hr) (show(p.1,p.2)∈put r x v from h)
      rw[get_put]at h1
      by_cases hx:p.1=x
      ·rw[if_pos hx]at h1
       left;cases h1;subst hx;rfl
      ·rw[if_neg hx]at h1
       exact Or.inr ⟨List.mem_cons_of_mem _ (get_mem h1),Or.inl hx⟩
     ·rcases ih h hr with e|⟨h1,_⟩
      ·exact Or.inl e
      ·exact Or.inr ⟨by simp[h1],Or.inr hn⟩
end

section
variable {P:Program} {w:World} {t k e:TypeId} {α β:Type} {enc:α->Value} {ok:α->Prop} {encV:β->Value} {b r:Nat} {l left:List (α×β)}
def MapIs(w:World)(enc:α->Value)(ok:α->Prop)(encV:β->Value)(b:Nat)(l:List (α×β)):Prop:=
 ∃(es:Array MapEntry) (clock:Nat),w.heap[b]? =some (.map es clock)/\Stamped es clock/\es.toList.map (fun x=>(x.key,x.val))=l.map (fun p=>(enc p.1,encV p.2))/\∀p∈l,ok p.1

theorem MapIs.lt(h:MapIs w enc ok encV b l):b<w.heap.size:=by
 obtain⟨es,c,hb,_⟩:=h;exact(Array.getElem?_eq_some_iff.1 hb).1
theorem MapIs.keep{w':World}(h:MapIs w enc ok encV b l)(hk:w'.heap[b]? =w.heap[b]?):MapIs w' enc ok encV b l:=by
 obtain⟨es,c,hb,rest⟩:=h;exact⟨es,c,hk.trans hb,rest⟩
theorem MapIs.made(w:World):MapIs (w.alloc (.map #[] 0)) enc ok encV w.heap.size ([]:List (α×β)):=
 ⟨#[],0,by show(w.heap.push _)[w.heap.size]? =_;simp,stamped_empty 0,rfl,fun p hp=>by cases hp⟩
theorem MapIs.good(h:MapIs w enc ok encV b l):∀p∈l,ok p.1:=by obtain⟨_,_,_,_,_,h⟩:=h;exact h
theorem MapIs.nodup(h:MapIs w enc ok encV b l):(l.map (·.1)).Nodup:=by
 obtain⟨es,c,hb,hs,hl,ho⟩:=h
 have h1:(l.map (fun p=>enc p.1)).Nodup:=by
  have:=hs.2.2
  rwa[show es.toList.map (·.key)=(es.toList.map (fun x=>(x.key,x.val))).map (·.1) by simp[Function.comp_def],hl,List.map_map]at this
 clear hl hb hs
 induction l with
 |nil=>simp
 |cons p r ih=>
  rw[List.map_cons,List.nodup_cons]at h1⊢
  refine⟨fun hm=>h1.1 ?_,ih (fun q hq=>ho q (by simp[hq])) h1.2⟩
  obtain⟨q,hq,hqe⟩:=List.mem_map.1 hm
  exact List.mem_map.2 ⟨q,hq,by rw[hqe]⟩

theorem entry_of{es:List MapEntry}(hl:es.map (fun x=>(x.key,x.val))=l.map (fun p=>(enc p.1,encV p.2))){j:Nat}{x:MapEntry}(h:es[j]? =some x):∃p,l[j]? =some p/\x.key=enc p.1/\x.val=encV p.2:=by
 have h1:(es.map (fun x=>(x.key,x.val)))[j]? =some (x.key,x.val):=by rw[List.getElem?_map,h];rfl
 rw[hl,List.getElem?_map]at h1
 cases hp:l[j]? with
 |none=>rw[hp]at h1;cases h1
 |some p=>
  rw[hp]at h1
  have h2:=Option.some.inj h1
  injection h2 with h3 h4
  exact⟨p,rfl,h3.symm,h4.symm⟩
theorem keys_read(K:Key P k enc ok){es:List MapEntry}(hl:es.map (fun x=>(x.key,x.val))=l.map (fun p=>(enc p.1,encV p.2)))(ho:∀p∈l,ok p.1):∀x∈es,∃q,keyOf P k x.key=some q:=fun x hx=>by
 obtain⟨j,hj⟩:=List.mem_iff_getElem?.1 hx
 obtain⟨p,hp,e1,_⟩:=entry_of hl hj
 rw[e1]
 exact K.lit _ (ho p (List.mem_of_getElem? hp))
theorem find[DecidableEq α](K:Key P k enc ok){es:List MapEntry}(hl:es.map (fun x=>(x.key,x.val))=l.map (fun p=>(enc p.1,encV p.2)))(ho:∀p∈l,ok p.1)(hn:(l.map (·.1)).Nodup)(w:World){x:α}(hx:ok x):
  ((Instr.findKey k (enc x) es).run P w= .ok none w/\(∀y∈es,y.key≠enc x)/\(∀p∈l,p.1≠x)/\get l x=none)\/
   ∃j e0 v,(Instr.findKey k (enc x) es).run P w= .ok (some (j,encV v)) w/\es[j]? =some e0/\e0.key=enc x/\l[j]? =some (x,v)/\get l x=some v:=by
 obtain⟨q,hq⟩:=K.lit x hx
 rcases K.law.find w hq es (keys_read K hl ho)with⟨h1,h2⟩|⟨j,e0,h1,h2,h3⟩
 ·have h4:∀p∈l,p.1≠x:=by
   intro p hp e1
   have:(enc p.1,encV p.2)∈es.map (fun x=>(x.key,x.val)):=by rw[hl];exact List.mem_map.2 ⟨p,hp,rfl⟩
   obtain⟨y,hy,hye⟩:=List.mem_map.1 this
   injection hye with e2 _
   exact h2 y hy (by rw[e2,e1])
  exact Or.inl ⟨h1,h2,h4,get_none h4⟩
 ·obtain⟨p,hp,e1,e2⟩:=entry_of hl h2
  have hpx:p.1=x:=K.inj _ _ (ho p (List.mem_of_getElem? hp)) hx (by rw[<-e1,h3])
  have hp':l[j]? =some (x,p.2):=by rw[hp, <-hpx]
  exact Or.inr ⟨j,e0,p.2,by rw[h1,e2],h2,h3,hp',gA hn (List.mem_of_getElem? hp')⟩

theorem MapIs.look[DecidableEq α](K:Key P k enc ok)(h:MapIs w enc ok encV b l)(ht:P.underlying t=some (.map k e)){z:Value}(hz:(zeroValue e).run P w= .ok z w){x:α}(hx:ok x)(c:Bool):
  (Instr.lookup t (.map (some b)) (enc x) c).run P w= .ok (if c then .tuple #[((get l x).map encV).getD z, .bool (get l x).isSome]else((get l x).map encV).getD z) w:=by
 have hn:=h.nodup
 obtain⟨es,ck,hb,hs,hl,ho⟩:=h
 obtain⟨q,hq⟩:=K.lit x hx
 rcases find K hl ho hn w hx with⟨h1,_,_,h4⟩|⟨j,e0,v,h1,_,_,_,h5⟩
 ·simp[Instr.lookup,run_underlying ht,MapKept.run_getObj_map hb,K.law.check w _ hq,h1,hz,h4,Result.andThen]
 ·simp[Instr.lookup,run_underlying ht,MapKept.run_getObj_map hb,K.law.check w _ hq,h1,h5,Result.andThen]

theorem put_push[DecidableEq α]{x:α}{v:β}(h:∀p∈l,p.1≠x):put l x v=l++ [(x,v)]:=by
 induction l with
 |nil=>rfl
 |cons p r ih=>rw[put,if_neg (h p (by simp)),ih fun q hq=>h q (by simp[hq])];rfl
theorem put_set[DecidableEq α]{x:α}{v u:β}{j:Nat}(hn:(l.map (·.1)).Nodup)(h:l[j]? =some (x,u)):put l x v=l.set j (x,v):=by
 induction l generalizing j with
 |nil=>simp at h
 |cons p r ih=>
  rw[List.map_cons,List.nodup_cons]at hn
  cases j with
  |zero=>simp at h;subst h;rw[put,if_pos rfl];rfl
  |succ j=>
   have h':r[j]? =some (x,u):=by simpa using h
   rw[put,if_neg (fun e=>hn.1 (by rw[e];exact List.mem_map.2 ⟨_,List.mem_of_getElem? h',rfl⟩)),ih hn.2 h'];rfl
theorem MapIs.store[DecidableEq α](K:Key P k enc ok)(h:MapIs w enc ok encV b l)(ht:P.underlying t=some (.map k e)){x:α}(hx:ok x)(v:β):
  ∃w',(Instr.mapUpdate t (.map (some b)) (enc x) (encV v)).run P w= .ok () w'/\MapIs w' enc ok encV b (put l x v)/\w.grownBy w' (some b)/\w'.heap.size=w.heap.size:=by
 have hlt:=h.lt
 have hn:=h.nodup
 obtain⟨es,c,hb,hs,hl,ho⟩:=h
 obtain⟨q,hq⟩:=K.lit x hx
 have hput:∀p∈put l x v,ok p.1:=fun p hp=>by
  rcases dN hp with rfl|⟨h,_⟩
  ·exact hx
  ·exact ho p h
 rcases find K hl ho hn w hx with⟨h1,h2,h3,h4⟩|⟨j,e0,u,h1,h2,h3,h4,h5⟩
 ·refine⟨{w with heap:=w.heap.setIfInBounds b (.map (es.push {key:=enc x,val:=encV v,born:=c}) (c+1))}, ?_,⟨es.push {key:=enc x,val:=encV v,born:=c},c+1,by simp[hlt],stamped_push hs h2, ?_,hput⟩,⟨rfl,rfl,rfl,by simp,fun i _ hne=>by
   rw[Array.getElem?_setIfInBounds_ne];intro e;exact hne (by rw[e])⟩,by simp⟩
  ·simp[Instr.mapUpdate,run_underlying ht,MapKept.run_getObj_map hb,K.law.check w _ hq,h1,MapKept.run_setObj_map _ hb,Result.andThen]
  ·rw[put_push h3,Array.toList_push,List.map_append,List.map_append,hl];rfl
 ·have hj:es[j]? =some e0:=by simpa using h2
  have hkeyf:∀e'∈es.toList,es[j]? =some e'->({e' with key:=enc x,val:=encV v}:MapEntry).key=e'.key:=fun e' _ he'=>by rw[hj]at he';cases he';exact h3.symm
  have hlist:(es.modify j (fun e'=> {e' with key:=enc x,val:=encV v})).toList=es.toList.set j {e0 with key:=enc x,val:=encV v}:=by
   rw[Array.toList_modify]
   apply List.ext_getElem?
   intro i
   rw[List.getElem?_modify,List.getElem?_set]
   by_cases hij:j=i
   ·subst hij
    rw[if_pos rfl,h2,if_pos (List.getElem?_eq_some_iff.1 h2).1]
    simp
   ·simp[hij]
  refine⟨{w with heap:=w.heap.setIfInBounds b (.map (es.modify j fun e'=> {e' with key:=enc x,val:=encV v}) c)}, ?_,⟨es.modify j fun e'=> {e' with key:=enc x,val:=encV v},c,by simp[hlt],stamped_modify hs j (fun e'=> {e' with key:=enc x,val:=encV v}) (fun _ _=>rfl) hkeyf, ?_,hput⟩,⟨rfl,rfl,rfl,by simp,fun i _ hne=>by
   rw[Array.getElem?_setIfInBounds_ne];intro e;exact hne (by rw[e])⟩,by simp⟩
  ·simp[Instr.mapUpdate,run_underlying ht,MapKept.run_getObj_map hb,K.law.check w _ hq,h1,hj,h3,K.law.stays w hq,MapKept.run_setObj_map _ hb,Result.andThen]
  ·rw[put_set hn h4,hlist,List.map_set,List.map_set,hl]
def EntryAt(w:World)(enc:α->Value)(b st:Nat)(x:α):Prop:=∃(es:Array MapEntry) (clock i:Nat) (e0:MapEntry),w.heap[b]? =some (.map es clock)/\es[i]? =some e0/\e0.key=enc x/\e0.born=st
theorem EntryAt.keep{w':World}{st:Nat}{x:α}(h:EntryAt w enc b st x)(hk:w'.heap[b]? =w.heap[b]?):EntryAt w' enc b st x:=by
 obtain⟨es,c,i,e0,hb,rest⟩:=h;exact⟨es,c,i,e0,hk.trans hb,rest⟩
theorem MapIs.entry[DecidableEq α](K:Key P k enc ok)(h:MapIs w enc ok encV b l)(ht:P.underlying t=some (.map k e))(zv:β)(hz:(zeroValue e).run P w= .ok (encV zv) w){x:α}(hx:ok x):
  ∃w' st,(Instr.mapEntry t (.map (some b)) (enc x)).run P w= .ok (.tuple #[encV ((get l x).getD zv), .int .i64 ((st:Nat):Int)]) w'/\MapIs w' enc ok encV b (put l x ((get l x).getD zv))/\EntryAt w' enc b st x/\w.grownBy w' (some b)/\w'.heap.size=w.heap.size:=by
 have hlt:=h.lt
 have hn:=h.nodup
 obtain⟨es,c,hb,hs,hl,ho⟩:=h
 obtain⟨q,hq⟩:=K.lit x hx
 have hput:∀v,∀p∈put l x v,ok p.1:=fun v p hp=>by
  rcases dN hp with rfl|⟨h,_⟩
  ·exact hx
  ·exact ho p h
 rcases find K hl ho hn w hx with⟨h1,h2,h3,h4⟩|⟨j,e0,u,h1,h2,h3,h4,h5⟩
 ·refine⟨{w with heap:=w.heap.setIfInBounds b (.map (es.push {key:=enc x,val:=encV zv,born:=c}) (c+1))},c, ?_,⟨es.push {key:=enc x,val:=encV zv,born:=c},c+1,by simp[hlt],stamped_push hs h2, ?_,hput _⟩,⟨es.push {key:=enc x,val:=encV zv,born:=c},c+1,es.size,{key:=enc x,val:=encV zv,born:=c},by simp[hlt],by simp,rfl,rfl⟩,⟨rfl,rfl,rfl,by simp,fun i _ hne=>by
   rw[Array.getElem?_setIfInBounds_ne];intro e;exact hne (by rw[e])⟩,by simp⟩
  ·rw[h4]
   simp[Instr.mapEntry,run_underlying ht,MapKept.run_getObj_map hb,K.law.check w _ hq,h1,hz,MapKept.run_setObj_map _ hb,Result.andThen,goInt]
  ·rw[h4,Option.getD_none,put_push h3,Array.toList_push,List.map_append,List.map_append,hl];rfl
 ·have hj:es[j]? =some e0:=by simpa using h2
  have hkeyf:∀e'∈es.toList,es[j]? =some e'->({e' with key:=enc x}:MapEntry).key=e'.key:=fun e' _ he'=>by rw[hj]at he';cases he';exact h3.symm
  have hlist:(es.modify j (fun e'=> {e' with key:=enc x})).toList=es.toList:=by
   rw[Array.toList_modify]
   apply List.ext_getElem?
   intro i
   rw[List.getElem?_modify]
   by_cases hij:j=i
   ·subst hij
    rw[h2]
    simp[<-h3]
   ·simp[hij]
  have hjs:j<es.size:=by have:=(List.getElem?_eq_some_iff.1 h2).1;simpa using this
  refine⟨{w with heap:=w.heap.setIfInBounds b (.map (es.modify j fun e'=> {e' with key:=enc x}) c)},e0.born, ?_,⟨es.modify j fun e'=> {e' with key:=enc x},c,by simp[hlt],stamped_modify hs j (fun e'=> {e' with key:=enc x}) (fun _ _=>rfl) hkeyf, ?_,hput _⟩,
   ⟨es.modify j fun e'=> {e' with key:=enc x},c,j,e0,by simp[hlt], ?_,h3,rfl⟩,⟨rfl,rfl,rfl,by simp,fun i _ hne=>by
   rw[Array.getElem?_setIfInBounds_ne];intro e;exact hne (by rw[e])⟩,by simp⟩
  ·rw[h5]
   simp[Instr.mapEntry,run_underlying ht,MapKept.run_getObj_map hb,K.law.check w _ hq,h1,hj,h3,K.law.stays w hq,MapKept.run_setObj_map _ hb,Result.andThen,goInt]
  ·rw[h5,Option.getD_some,put_set hn h4,hlist,hl]
   congr 1
   apply List.ext_getElem?
   intro i
   rw[List.getElem?_set]
   by_cases hij:j=i
   ·subst hij
    rw[if_pos rfl,h4,if_pos (List.getElem?_eq_some_iff.1 h4).1]
   ·simp[hij]
  ·rw[<-Array.getElem?_toList,hlist];exact h2
theorem findIdx_born{es:Array MapEntry}(hn:(es.toList.map (·.born)).Nodup){i:Nat}{e0:MapEntry}(h:es[i]? =some e0):es.findIdx? (fun e=>((e.born:Nat):Int)==((e0.born:Nat):Int))=some i:=by
 have hi:i<es.size:=(Array.getElem?_eq_some_iff.1 h).1
 have he:es[i]=e0:=(Array.getElem?_eq_some_iff.1 h).2
 rw[Array.findIdx?_eq_some_iff_getElem]
 refine⟨hi,by rw[he];simp,fun j hj=> ?_⟩
 simp only[Bool.not_eq_true,beq_eq_false_iff_ne,ne_eq]
 intro e
 have e2:es[j].born=es[i].born:=by rw[he];omega
 have h1:=List.nodup_iff_pairwise_ne.1 hn
 rw[List.pairwise_map,List.pairwise_iff_getElem]at h1
 exact h1 j i (by simpa using Nat.lt_trans hj hi) (by simpa using hi) hj (by simpa using e2)
theorem MapIs.entryStore[DecidableEq α](K:Key P k enc ok)(h:MapIs w enc ok encV b l){x:α}(hx:ok x){st:Nat}(he:EntryAt w enc b st x)(v:β):
  ∃w',(Instr.entryStore t (.map (some b)) (.int .i64 (st:Int)) (encV v)).run P w= .ok () w'/\MapIs w' enc ok encV b (put l x v)/\w.grownBy w' (some b)/\w'.heap.size=w.heap.size:=by
 have hlt:=h.lt
 have hn:=h.nodup
 obtain⟨es,c,hb,hs,hl,ho⟩:=h
 obtain⟨es',c',i,e0,hb',hi,hk,hst⟩:=he
 rw[hb]at hb'
 cases hb'
 have hi':es.toList[i]? =some e0:=by simpa using hi
 obtain⟨p,hp,e1,_⟩:=entry_of hl hi'
 have hpx:p.1=x:=K.inj _ _ (ho p (List.mem_of_getElem? hp)) hx (by rw[<-e1,hk])
 have hp':l[i]? =some (x,p.2):=by rw[hp, <-hpx]
 have hput:∀p∈put l x v,ok p.1:=fun p hp=>by
  rcases dN hp with rfl|⟨h,_⟩
  ·exact hx
  ·exact ho p h
 have hlist:(es.modify i (fun e'=> {e' with val:=encV v})).toList=es.toList.set i {e0 with val:=encV v}:=by
  rw[Array.toList_modify]
  apply List.ext_getElem?
  intro j
  rw[List.getElem?_modify,List.getElem?_set]
  by_cases hij:i=j
  ·subst hij
   rw[if_pos rfl,hi',if_pos (List.getElem?_eq_some_iff.1 hi').1]
   simp
  ·simp[hij]
 have hf:=findIdx_born hs.2.1 hi
 rw[hst]at hf
 refine⟨{w with heap:=w.heap.setIfInBounds b (.map (es.modify i fun e'=> {e' with val:=encV v}) c)}, ?_,⟨es.modify i fun e'=> {e' with val:=encV v},c,by simp[hlt],stamped_modify hs i (fun e'=> {e' with val:=encV v}) (fun _ _=>rfl) (fun _ _ _=>rfl), ?_,hput⟩,⟨rfl,rfl,rfl,by simp,fun j _ hne=>by
  rw[Array.getElem?_setIfInBounds_ne];intro e;exact hne (by rw[e])⟩,by simp⟩
 ·simp[Instr.entryStore,MapKept.run_getObj_map hb,asInt,asIntOf,hf,MapKept.run_setObj_map _ hb,Result.andThen]
 ·rw[put_set hn hp',hlist,List.map_set,List.map_set,hl, <-hk]
def RangeIs(w:World)(enc:α->Value)(ok:α->Prop)(encV:β->Value)(b r:Nat)(l left:List (α×β)):Prop:=
 ∃es clock since seen c0,w.heap[b]? =some (.map es clock)/\Stamped es clock/\es.toList.map (fun x=>(x.key,x.val))=l.map (fun p=>(enc p.1,encV p.2))/\(∀p∈l,ok p.1)/\
  w.heap[r]? =some (.mapIter (some b) since seen c0)/\(∀x∈es.toList,x.born<since)/\(leftOf es seen).toList.map (fun x=>(x.key,x.val))=left.map (fun p=>(enc p.1,encV p.2))/\since<=c0/\since<=clock/\∀p∈left,p∈l

theorem RangeIs.map(h:RangeIs w enc ok encV b r l left):MapIs w enc ok encV b l:=by
 obtain⟨es,clock,since,seen,c0,hb,hs,hl,ho,_⟩:=h
 exact⟨es,clock,hb,hs,hl,ho⟩
theorem RangeIs.mem(h:RangeIs w enc ok encV b r l left):∀p∈left,p∈l:=by
 obtain⟨es,clock,since,seen,c0,_,_,_,_,_,_,_,_,_,h⟩:=h
 exact h
theorem RangeIs.left_eq(h:RangeIs w enc ok encV b r l left):w.rangeLeft b r=left.length:=by
 obtain⟨es,clock,since,seen,c0,hb,_,_,_,hr,_,hc,_⟩:=h
 simp only[World.rangeLeft,hb,hr]
 have:=congrArg List.length hc
 simpa using this
theorem RangeIs.ne(h:RangeIs w enc ok encV b r l left):r≠b:=by
 obtain⟨es,clock,since,seen,c0,hb,_,_,_,hr,_⟩:=h
 intro e
 rw[e,hb]at hr
 cases hr
theorem RangeIs.lt(h:RangeIs w enc ok encV b r l left):r<w.heap.size:=by
 obtain⟨es,clock,since,seen,c0,_,_,_,_,hr,_⟩:=h
 exact(Array.getElem?_eq_some_iff.1 hr).1
theorem RangeIs.keep{w':World}(h:RangeIs w enc ok encV b r l left)(hb:w'.heap[b]? =w.heap[b]?)(hr:w'.heap[r]? =w.heap[r]?):RangeIs w' enc ok encV b r l left:=by
 obtain⟨es,clock,since,seen,c0,h1,h2,h3,h4,h5,rest⟩:=h
 exact⟨es,clock,since,seen,c0,hb.trans h1,h2,h3,h4,hr.trans h5,rest⟩

theorem MapIs.range(h:MapIs w enc ok encV b l)(ht:P.underlying t=some (.map k e)):
  ∃w',(Instr.range t (.map (some b))).run P w= .ok (.pointer (some ⟨w.heap.size,0,none⟩)) w'/\RangeIs w' enc ok encV b w.heap.size l l/\w.grownBy w' none/\w'.heap.size=w.heap.size+1:=by
 have hlt:=h.lt
 obtain⟨es,clock,hb,hs,hl,ho⟩:=h
 refine⟨_,run_range_map w t k e b es clock ht hb,⟨es,clock,clock, #[],clock,((MapKept.heap_alloc w _).2 b hlt).trans hb,hs,hl,ho,(MapKept.heap_alloc w _).1,hs.1, ?_,Nat.le_refl _,Nat.le_refl _,fun p hp=>hp⟩,World.grownBy_alloc w _ none,by simp⟩
 rw[<-hl]
 simp only[leftOf,Array.toList_filter]
 rw[List.filter_eq_self.2 (fun a _=>by simp)]

theorem left_cut{es:Array MapEntry}{seen:Array Nat}(hn:(es.toList.map (·.born)).Nodup){pre post:List MapEntry}{x:MapEntry}(h:(leftOf es seen).toList=pre++x::post):
  (leftOf es (seen.push x.born)).toList=pre++post:=by
 have e1:(leftOf es (seen.push x.born)).toList=((leftOf es seen).toList).filter (fun y=> !(y.born==x.born)):=by
  unfold leftOf
  rw[Array.toList_filter,Array.toList_filter,List.filter_filter]
  refine List.filter_congr fun y _=> ?_
  rw[contains_push]
  cases seen.contains y.born<;>cases (y.born==x.born)<;>rfl
 have hn2:((leftOf es seen).toList.map (·.born)).Nodup:=by
  unfold leftOf
  rw[Array.toList_filter]
  exact hn.sublist (List.filter_sublist.map _)
 rw[h,List.map_append,List.map_cons]at hn2
 have hd:=List.nodup_append.1 hn2
 rw[e1,h,List.filter_append,List.filter_cons]
 simp only[beq_self_eq_true,Bool.not_true,Bool.false_eq_true,if_false]
 rw[List.filter_eq_self.2,List.filter_eq_self.2]
 ·intro y hy
  have:=(List.nodup_cons.1 hd.2.1).1
  simp only[Bool.not_eq_true',beq_eq_false_iff_ne,ne_eq]
  intro e
  exact this (by rw[<-e];exact List.mem_map.2 ⟨y,hy,rfl⟩)
 ·intro y hy
  simp only[Bool.not_eq_true',beq_eq_false_iff_ne,ne_eq]
  intro e
  exact hd.2.2 _ (List.mem_map.2 ⟨y,hy,rfl⟩) _ (by simp) e
theorem RangeIs.next(h:RangeIs w enc ok encV b r l left)(ty:TypeId):
  (left= []/\(Instr.next (.pointer (some ⟨r,0,none⟩)) false ty).run P w= .ok (.tuple #[.bool false]) w)\/
  ∃pre p post w',left=pre++p::post/\(Instr.next (.pointer (some ⟨r,0,none⟩)) false ty).run P w= .ok (.tuple #[.bool true,enc p.1,encV p.2]) w'/\
   RangeIs w' enc ok encV b r l (pre++post)/\w.grownBy w' (some r)/\w'.heap.size=w.heap.size/\(Instr.entry (.pointer (some ⟨r,0,none⟩))).run P w'= .ok (.tuple #[enc p.1,encV p.2]) w':=by
 have hne:=h.ne
 obtain⟨es,clock,since,seen,c0,hb,hs,hl,ho,hr,hold,hle,hsc,hsk,hm⟩:=h
 rcases run_next_at (P:=P) w ty r b since c0 seen es clock hr hb hold hsc with⟨h0,hrun⟩|⟨x,hx,w1,hal,hrun⟩
 ·refine Or.inl ⟨?_,hrun⟩
  have:=congrArg List.length hle
  simp only[List.length_map,Array.length_toList]at this
  exact List.eq_nil_of_length_eq_zero (by omega)
 ·obtain⟨hem,hes⟩:=mem_left hx
  obtain⟨pre',post',hsp⟩:=List.append_of_mem hx
  have hle2:=hle
  rw[hsp,List.map_append,List.map_cons]at hle2
  obtain⟨pre,rest,hspl,hpre,hrest⟩:=List.map_eq_append_iff.1 hle2.symm
  obtain⟨p,post,hrl,hp,hpost⟩:=List.map_eq_cons_iff.1 hrest
  injection hp with hp1 hp2
  have hr1:w1.heap[r]? =some (.mapIter (some b) since seen c0):=by rcases hal with rfl|rfl<;>exact hr
  have hb1:w1.heap[b]? =some (.map es clock):=by rcases hal with rfl|rfl<;>exact hb
  have hset:=heap_set (o':= .mapIter (some b) since (seen.push x.born) clock) hr1
  have hb':(setBlock w1 r (.mapIter (some b) since (seen.push x.born) clock)).heap[b]? =some (.map es clock):=(hset.2 b (fun e1=>hne e1.symm)).trans hb1
  have hnb:=((stamped_iff es clock).1 hs).2.1
  have hleft:left=pre++p::post:=by rw[hspl,hrl]
  refine Or.inr ⟨pre,p,post,_,hleft,by rw[hrun,hp1,hp2],
   ⟨es,clock,since,seen.push x.born,clock,hb',hs,hl,ho,hset.1,hold, ?_,hsk,hsk,fun q hq=>hm q ?_⟩, ?_, ?_,by rw[hp1,hp2];exact run_entry_at _ r b since seen es clock x hset.1 hb' hem hnb⟩
  ·rw[left_cut hnb hsp,List.map_append,List.map_append,hpre,hpost]
  ·rw[hleft]
   rcases List.mem_append.1 hq with h|h
   ·simp[h]
   ·simp[h]
  ·rcases hal with rfl|rfl<;>exact⟨rfl,rfl,rfl,by simp[setBlock],fun i _ hi=>hset.2 i (fun e1=>hi (by rw[e1]))⟩
  ·rcases hal with rfl|rfl<;>simp[setBlock]

section
variable {ops:Array Oper} {rest:List Oper} {o:Oper} {a:Act} {Q:Exit->Act->World->Prop}
theorem wpList_look[DecidableEq α](hg:o.guard=none)(m x:Operand)(c:Bool)(hop:o.op=Op.lookup t m x c)(K:Key P k enc ok)(h:MapIs w enc ok encV b l)(ht:P.underlying t=some (.map k e))(z:Value)(hz:(zeroValue e).run P w= .ok z w)
  (xi:α) (hx:ok xi) (hm:a.eval m= .map (some b)) (hxe:a.eval x=enc xi)
  (hK:wpList P ops Q rest (a.put o.dst (if c then .tuple #[((get l xi).map encV).getD z, .bool (get l xi).isSome]else((get l xi).map encV).getD z)) w):wpList P ops Q (o::rest) a w:=by
 refine wpList_plain hg fun K' hK'=> ?_
 have hrun:=h.look K ht hz hx c
 unfold Oper.wp
 simp only[execOp,hop,hm,hxe]
 cases c<;>simp[hrun,Result.andThen]at hK⊢ <;>exact hK' _ _ hK
theorem wpList_store[DecidableEq α](hg:o.guard=none)(m x v:Operand)(hop:o.op=Op.mapUpdate t m x v)(K:Key P k enc ok)(h:MapIs w enc ok encV b l)(ht:P.underlying t=some (.map k e))(xi:α)(hx:ok xi)(vi:β)
  (hm:a.eval m= .map (some b)) (hxe:a.eval x=enc xi) (hve:a.eval v=encV vi)
  (hK:∀w',MapIs w' enc ok encV b (put l xi vi)->w.grownBy w' (some b)->w'.heap.size=w.heap.size->wpList P ops Q rest (a.put o.dst undef) w'):wpList P ops Q (o::rest) a w:=by
 refine wpList_plain hg fun K' hK'=> ?_
 obtain⟨w',hrun,r1,r2,r3⟩:=h.store K ht hx vi
 unfold Oper.wp
 simp[execOp,hop,hm,hxe,hve,hrun,Result.andThen]
 exact hK' _ _ (hK w' r1 r2 r3)
theorem wpList_entry[DecidableEq α](hg:o.guard=none)(m x:Operand)(hop:o.op=Op.mapEntry t m x)(K:Key P k enc ok)(h:MapIs w enc ok encV b l)(ht:P.underlying t=some (.map k e))(zv:β)(hz:(zeroValue e).run P w= .ok (encV zv) w)(xi:α)(hx:ok xi)
  (hm:a.eval m= .map (some b)) (hxe:a.eval x=enc xi)
  (hK:∀w' st,MapIs w' enc ok encV b (put l xi ((get l xi).getD zv))->EntryAt w' enc b st xi->w.grownBy w' (some b)->w'.heap.size=w.heap.size->wpList P ops Q rest (a.put o.dst (.tuple #[encV ((get l xi).getD zv), .int .i64 ((st:Nat):Int)])) w'):wpList P ops Q (o::rest) a w:=by
 refine wpList_plain hg fun K' hK'=> ?_
 obtain⟨w',st,hrun,r1,r2,r3,r4⟩:=h.entry K ht zv hz hx
 unfold Oper.wp
 simp[execOp,hop,hm,hxe,hrun,Result.andThen]
 exact hK' _ _ (hK w' st r1 r2 r3 r4)
theorem fT[DecidableEq α](hg:o.guard=none)(m s v:Operand)(hop:o.op=Op.entryStore t m s v)(K:Key P k enc ok)(h:MapIs w enc ok encV b l)(xi:α)(hx:ok xi)(st:Nat)(he:EntryAt w enc b st xi)(vi:β)
  (hm:a.eval m= .map (some b)) (hse:a.eval s= .int .i64 (st:Int)) (hve:a.eval v=encV vi)
  (hK:∀w',MapIs w' enc ok encV b (put l xi vi)->w.grownBy w' (some b)->w'.heap.size=w.heap.size->wpList P ops Q rest (a.put o.dst undef) w'):wpList P ops Q (o::rest) a w:=by
 refine wpList_plain hg fun K' hK'=> ?_
 obtain⟨w',hrun,r1,r2,r3⟩:=h.entryStore (P:=P) (t:=t) K hx he vi
 unfold Oper.wp
 simp[execOp,hop,hm,hse,hve,hrun,Result.andThen]
 exact hK' _ _ (hK w' r1 r2 r3)
theorem wpList_range(hg:o.guard=none)(m:Operand)(hop:o.op=Op.range t m)(h:MapIs w enc ok encV b l)(ht:P.underlying t=some (.map k e))(hm:a.eval m= .map (some b))
  (hK:∀w',RangeIs w' enc ok encV b w.heap.size l l->w.grownBy w' none->w'.heap.size=w.heap.size+1->wpList P ops Q rest (a.put o.dst (.pointer (some ⟨w.heap.size,0,none⟩))) w'):wpList P ops Q (o::rest) a w:=by
 refine wpList_plain hg fun K' hK'=> ?_
 obtain⟨w',hrun,r1,r2,r3⟩:=h.range (P:=P) ht
 unfold Oper.wp
 simp[execOp,hop,hm,hrun,Result.andThen]
 exact hK' _ _ (hK w' r1 r2 r3)
theorem wpList_next(hg:o.guard=none)(it:Operand)(hop:o.op=Op.next it false)(hit:a.eval it= .pointer (some ⟨r,0,none⟩))(h:RangeIs w enc ok encV b r l left)
  (hDone:left= []->wpList P ops Q rest (a.put o.dst (.tuple #[.bool false])) w)
  (hMore:∀pre p post w',left=pre++p::post->RangeIs w' enc ok encV b r l (pre++post)->w.grownBy w' (some r)->w'.heap.size=w.heap.size->
   (Instr.entry (.pointer (some ⟨r,0,none⟩))).run P w'= .ok (.tuple #[enc p.1,encV p.2]) w'->wpList P ops Q rest (a.put o.dst (.tuple #[.bool true,enc p.1,encV p.2])) w'):wpList P ops Q (o::rest) a w:=by
 refine wpList_plain hg fun K' hK'=> ?_
 unfold Oper.wp
 rcases h.next (P:=P) o.type with⟨h0,hrun⟩|⟨pre,p,post,w',h1,hrun,h2,h3,h4,h5⟩
 ·simp[execOp,hop,hit,hrun,Result.andThen]
  exact hK' _ _ (hDone h0)
 ·simp[execOp,hop,hit,hrun,Result.andThen]
  exact hK' _ _ (hMore pre p post w' h1 h2 h3 h4 h5)
end
end
end Go.Mk

namespace Go.Cs
open Go Go.Mk

theorem cS{β:Type}{p:List β->Prop}(h0:p [])(h1:∀l x,p l->p (l++ [x]))(l:List β):p l:=by
 rw[<-l.reverse_reverse]
 induction l.reverse with
 |nil=>exact h0
 |cons x r ih=>rw[List.reverse_cons];exact h1 _ _ ih

/-! ### Grouping -/
section
variable {α β γ:Type} [DecidableEq α]
def grp(f:β->α)(v:β->γ)(m:List (α×List γ))(x:β):List (α×List γ):=put m (f x) ((get m (f x)).getD []++ [v x])
def aN(f:β->α)(v:β->γ)(l:List β):List (α×List γ):=l.foldl (grp f v) []
theorem bN(f:β->α)(v:β->γ)(l:List β)(x:β):aN f v (l++ [x])=grp f v (aN f v l) x:=by simp[aN]
theorem groups_get(f:β->α)(v:β->γ)(l:List β)(k:α):(get (aN f v l) k).getD []=(l.filter (fun x=>f x=k)).map v/\(get (aN f v l) k=none↔l.filter (fun x=>f x=k)= []):=by
 induction l using cS with
 |h0=>exact⟨rfl,by simp[aN,Mk.get]⟩
 |h1 l x ih=>
  rw[bN,grp,get_put,List.filter_append]
  by_cases hk:k=f x
  ·subst hk
   simp[(ih).1]
  ·have hk': ¬f x=k:=fun e=>hk e.symm
   rw[if_neg hk]
   simp[hk',ih]
theorem eJ(f:β->α)(v:β->γ)(l:List β):((aN f v l).map (·.1)).Nodup:=by
 induction l using cS with
 |h0=>simp[aN]
 |h1 l x ih=>rw[bN];exact fI ih
theorem cg(f:β->α)(v:β->γ)(l:List β){k:α}{g:List γ}:(k,g)∈aN f v l↔g=(l.filter (fun x=>f x=k)).map v/\g≠ []:=by
 have h:=groups_get f v l k
 constructor
 ·intro hm
  have:=gA (eJ f v l) hm
  rw[this]at h
  simp at h
  exact⟨h.1,by rw[h.1];intro e;simp at e;exact absurd e (by simpa using h.2)⟩
 ·rintro⟨h1,h2⟩
  cases hg:get (aN f v l) k with
  |none=>exact absurd (h1.trans (by rw[h.2.1 hg];rfl)) h2
  |some g'=>
   rw[hg]at h
   have:g'=g:=by rw[h1];exact h.1
   subst this
   exact get_mem hg
end

/-! ### The only least one -/
section
variable {β:Type} (v:β->Int)
def fp:(Option β×Bool)->β->(Option β×Bool)
 |(none,_),p=>(some p,true)
 |(some r,b),p=>if v p<v r then(some p,true)else if v p=v r then(some r,false)else(some r,b)
def bD(l:List β):Option β:=match l.foldl (fp v) (none,false)with|(some r,true)=>some r|_=>none
theorem fst_inv(l:List β):(l= []/\l.foldl (fp v) (none,false)=(none,false))\/∃r b pre post,l=pre++r::post/\l.foldl (fp v) (none,false)=(some r,b)/\(∀q∈pre,v r<v q)/\(∀q∈post,v r<=v q)/\(b=true↔ ∀q∈post,v r<v q):=by
 induction l using cS with
 |h0=>exact .inl ⟨rfl,rfl⟩
 |h1 l p ih=>
  right
  rw[List.foldl_append,List.foldl_cons,List.foldl_nil]
  rcases ih with⟨rfl,_⟩|⟨r,b,pre,post,h1,h2,h3,h4,h5⟩
  ·exact⟨p,true,[],[],rfl,rfl,by simp,by simp,by simp⟩
  ·rw[h2]
   by_cases hlt:v p<v r
   ·refine⟨p,true,l,[],by simp,by simp[fp,hlt],fun q hq=> ?_,by simp,by simp⟩
    rw[h1]at hq
    rcases List.mem_append.1 hq with hq|hq
    ·have:=h3 q hq;omega
    ·rcases List.mem_cons.1 hq with rfl|hq
     ·exact hlt
     ·have:=h4 q hq;omega
   ·by_cases heq:v p=v r
    ·refine⟨r,false,pre,post++ [p],by rw[h1];simp,by simp[fp,heq],h3,fun q hq=> ?_, ?_⟩
     ·rcases List.mem_append.1 hq with hq|hq
      ·exact h4 q hq
      ·simp at hq;subst hq;omega
     ·simp only[Bool.false_eq_true,false_iff]
      intro h
      have:=h p (by simp)
      omega
    ·refine⟨r,b,pre,post++ [p],by rw[h1];simp,by simp[fp,hlt,heq],h3,fun q hq=> ?_, ?_⟩
     ·rcases List.mem_append.1 hq with hq|hq
      ·exact h4 q hq
      ·simp at hq;subst hq;omega
     ·rw[h5]
      constructor
      ·intro h q hq
       rcases List.mem_append.1 hq with hq|hq
       ·exact h q hq
       ·simp at hq;subst hq;omega
      ·intro h q hq
       exact h q (by simp[hq])
theorem fY{l:List β}(hn:l.Nodup)(p:β):bD v l=some p↔p∈l/\∀q∈l,q≠p->v p<v q:=by
 rcases fst_inv v l with⟨rfl,h⟩|⟨r,b,pre,post,h1,h2,h3,h4,h5⟩
 ·simp[bD,h]
 ·have hn':=hn
  rw[h1]at hn'
  have hd:=List.nodup_append.1 hn'
  have hpost:r∉post:=(List.nodup_cons.1 hd.2.1).1
  constructor
  ·intro h
   have hb:b=true/\r=p:=by
    unfold bD at h
    rw[h2]at h
    cases b
    ·cases h
    ·exact⟨rfl,by injection h⟩
   obtain⟨hb,rfl⟩:=hb
   refine⟨by rw[h1];simp,fun q hq hne=> ?_⟩
   rw[h1]at hq
   rcases List.mem_append.1 hq with hq|hq
   ·exact h3 q hq
   ·rcases List.mem_cons.1 hq with rfl|hq
    ·exact absurd rfl hne
    ·exact(h5.1 hb) q hq
  ·rintro⟨hp,hall⟩
   have hpr:p=r:=by
    by_cases hpr:r=p
    ·exact hpr.symm
    ·have hlt:=hall r (by rw[h1];simp) hpr
     rw[h1]at hp
     rcases List.mem_append.1 hp with hp|hp
     ·have:=h3 p hp;omega
     ·rcases List.mem_cons.1 hp with rfl|hp
      ·rfl
      ·have:=h4 p hp;omega
   subst hpr
   have hb:b=true:=h5.2 fun q hq=>hall q (by rw[h1];simp[hq]) (fun e=>hpost (e▸hq))
   unfold bD
   rw[h2,hb]
end

/-! ### Two lists that rise strictly -/
theorem rising_ext{β:Type}(num:β->Int):∀ {l l':List β},l.Pairwise (fun a b=>num a<num b)->l'.Pairwise (fun a b=>num a<num b)->(∀x,x∈l↔x∈l')->l=l'
 | [],[],_,_,_=>rfl
 | [],y::r,_,_,h=>absurd ((h y).2 (by simp)) (by simp)
 |x::r,[],_,_,h=>absurd ((h x).1 (by simp)) (by simp)
 |x::r,y::s,h1,h2,h=>by
  rw[List.pairwise_cons]at h1 h2
  have hxy:x=y:=by
   rcases List.mem_cons.1 ((h x).1 (by simp))with e|e
   ·exact e
   ·rcases List.mem_cons.1 ((h y).2 (by simp))with e'|e'
    ·exact e'.symm
    ·have a1:=h2.1 x e
     have a2:=h1.1 y e'
     omega
  subst hxy
  rw[rising_ext num h1.2 h2.2 fun z=> ?_]
  constructor
  ·intro hz
   rcases List.mem_cons.1 ((h z).1 (by simp[hz]))with e|e
   ·subst e;exact absurd (h1.1 z hz) (by omega)
   ·exact e
  ·intro hz
   rcases List.mem_cons.1 ((h z).2 (by simp[hz]))with e|e
   ·subst e;exact absurd (h2.1 z hz) (by omega)
   ·exact e
def ins{β:Type}(num:β->Int)(x:β):List β->List β
 | []=> [x]
 |y::r=>if num x<num y then x::y::r else y::ins num x r
def isort{β:Type}(num:β->Int):List β->List β
 | []=> []
 |x::r=>ins num x (isort num r)
theorem mem_ins{β:Type}{num:β->Int}{x z:β}:∀ {l:List β},z∈ins num x l↔z=x\/z∈l
 | []=>by simp[ins]
 |y::r=>by
  rw[ins]
  split
  ·simp
  ·rw[List.mem_cons,mem_ins,List.mem_cons]
   constructor<;>(rintro(h|h|h)<;>simp[h])
theorem mem_isort{β:Type}{num:β->Int}{z:β}:∀ {l:List β},z∈isort num l↔z∈l
 | []=>by simp[isort]
 |x::r=>by rw[isort,mem_ins,mem_isort,List.mem_cons]
theorem ins_rising{β:Type}{num:β->Int}{x:β}:∀ {l:List β},l.Pairwise (fun a b=>num a<num b)->(∀y∈l,num y≠num x)->(ins num x l).Pairwise (fun a b=>num a<num b)
 | [],_,_=>by simp[ins]
 |y::r,h,hx=>by
  rw[List.pairwise_cons]at h
  rw[ins]
  split
  ·rename_i hlt
   rw[List.pairwise_cons,List.pairwise_cons]
   refine⟨fun z hz=> ?_,h⟩
   rcases List.mem_cons.1 hz with rfl|hz
   ·exact hlt
   ·have:=h.1 z hz;omega
  ·rename_i hlt
   rw[List.pairwise_cons]
   refine⟨fun z hz=> ?_,ins_rising h.2 fun y hy=>hx y (by simp[hy])⟩
   rcases mem_ins.1 hz with rfl|hz
   ·have:=hx y (by simp);omega
   ·exact h.1 z hz
theorem gl{β:Type}{num:β->Int}:∀ {l:List β},l.Pairwise (fun a b=>num a≠num b)->(isort num l).Pairwise (fun a b=>num a<num b)
 | [],_=>List.Pairwise.nil
 |x::r,h=>by
  rw[List.pairwise_cons]at h
  exact ins_rising (gl h.2) fun y hy=>(h.1 y (mem_isort.1 hy)).symm
end Go.Cs

namespace Go.Cs
open Go Go.Mk

structure Cls where
 kind:Int
 role:Int
 act:Int
 need:Int
 start:List (Int×Int)
 after:Int
 grace:Int
 bus:Bool
 fin:Bool
 pause:Int
 resume:Int
 num:Int
 den:Int
 unit:Int
 to:Int
 waived:Bool
structure Pat where
 kind:Int
 cl:List Int
 new:Cls
 days:Int
structure Let where
 kind:Int
 party:Int
 number:Int
 sent:Int
 day:Int
 patch:Pat
 sum:ByteArray
structure Hd where
 A:Option Addr
 c:Nat
 B:Option Addr
 d:Nat

def Cls.same(a b:Cls):Bool:=decide (a.kind=b.kind/\a.role=b.role/\a.act=b.act/\a.need=b.need/\a.start=b.start/\a.after=b.after/\a.grace=b.grace/\a.bus=b.bus/\a.fin=b.fin/\a.pause=b.pause/\a.resume=b.resume/\a.num=b.num/\a.den=b.den/\a.unit=b.unit/\a.to=b.to/\a.waived=b.waived)
theorem Cls.same_iff{a b:Cls}:a.same b=true↔a=b:=by
 cases a;cases b
 simp only[Cls.same,decide_eq_true_eq,Cls.mk.injEq]
def Pat.same(a b:Pat):Bool:=decide (a.kind=b.kind/\a.days=b.days/\a.cl=b.cl)&&a.new.same b.new
theorem Pat.same_iff{a b:Pat}:a.same b=true↔a=b:=by
 cases a;cases b
 simp only[Pat.same,Bool.and_eq_true,decide_eq_true_eq,Cls.same_iff,Pat.mk.injEq]
 constructor
 ·rintro⟨⟨h1,h2,h3⟩,h4⟩;exact⟨h1,h3,h4,h2⟩
 ·rintro⟨h1,h3,h4,h2⟩;exact⟨⟨h1,h2,h3⟩,h4⟩

def Cls.zero:Cls:=⟨0,0,0,0,[],0,0,false,false,0,0,0,0,0,0,false⟩
def Pat.zero:Pat:=⟨0,[],Cls.zero,0⟩
def b2i(b:Bool):Int:=if b then 1 else 0
def Cls.front(k:Cls):List Int:= [k.kind,k.role,k.act,k.need,k.after,k.grace]
def Cls.back(k:Cls):List Int:= [k.pause,k.resume,k.num,k.den,k.unit,k.to]
def Cls.nums(k:Cls):List Int:=k.front++ [b2i k.bus,b2i k.fin]++k.back++ [b2i k.waived,(k.start.length:Int)]++k.start.flatMap (fun s=> [s.1,s.2])
def Pat.nums(p:Pat):List Int:= [p.kind,p.days,(p.cl.length:Int)]++p.cl++p.new.nums
def word(n:Int):List UInt8:=32::Lib.itoa n
def dr(l:List Int):List UInt8:=l.flatMap word
def patchT:List UInt8:= [112,97,116,99,104]
def proposeT:List UInt8:= [112,114,111,112,111,115,101]
def Pat.small(p:Pat):Bool:=decide (p.cl.length<=400)&&decide (p.new.start.length<=8)
def Pat.text(p:Pat):List UInt8:=if p.small then patchT++dr p.nums else []
def Let.text(x:Let):List UInt8:=proposeT++dr [x.party,x.number,x.day]++32::x.patch.text
def Let.base(x:Let):Bool:=decide (0<=x.party/\x.party<12/\1<=x.number/\x.number<=1000000/\0<=x.sent/\x.sent<=2000)
def Let.formed(x:Let):Bool:=x.base&&(if x.kind=1 then decide (0<=x.day/\x.day<=2000/\x.sum=ByteArray.empty)&&x.patch.small else if x.kind=2 then decide (x.day=0)&&x.patch.same Pat.zero else if x.kind=3 then decide (x.day=0)&&x.patch.same Pat.zero&&decide (x.sum=ByteArray.empty)else false)
def aQ(kind parties:Int)(x:Let):Bool:=decide (x.kind=kind/\x.party<parties)&&x.formed
def dig(S:ByteArray->ByteArray)(x:Let):ByteArray:=if aQ 1 12 x then S ⟨x.text.toArray⟩else ByteArray.empty
structure Pr where
 x:Let
 h:Hd
 sum:ByteArray
 known:Int
abbrev dy:=Int×Int
def Let.slot(x:Let):dy:=(x.party,x.number)
def Pr.slot(p:Pr):dy:=p.x.slot
def Pr.num(p:Pr):Int:=p.x.number

section
variable (D:Let->ByteArray) (parties:Int)
def cX(m:List (ByteArray×Pr))(r:Let×Hd):List (ByteArray×Pr):=
 if aQ 1 parties r.1 then
  match get m (D r.1)with
  |some o=>if r.1.sent<o.x.sent then put m (D r.1) ⟨r.1,r.2,D r.1,0⟩else m
  |none=>put m (D r.1) ⟨r.1,r.2,D r.1,0⟩
 else m
def bl(l:List (Let×Hd)):List (ByteArray×Pr):=l.foldl (cX D parties) []
def dU(m:List ((dy×ByteArray)×Int))(r:Let×Hd):List ((dy×ByteArray)×Int):=
 if aQ 2 parties r.1 then
  match get m (r.1.slot,r.1.sum)with
  |some d=>if r.1.sent<d then put m (r.1.slot,r.1.sum) r.1.sent else m
  |none=>put m (r.1.slot,r.1.sum) r.1.sent
 else m
def dH(l:List (Let×Hd)):List ((dy×ByteArray)×Int):=l.foldl (dU parties) []
def wds(l:List (Let×Hd)):List (dy×List Int):=aN (fun r:Let×Hd=>r.1.slot) (fun r=>r.1.sent) (l.filter fun r=>aQ 3 parties r.1)
def knStep(acc:List ((dy×ByteArray)×Int))(p:Pr)(o:Option Int)(i:Nat):Option Int:=
 match o with
 |none=>none
 |some k=>if(i:Int)=p.x.party then some k else(get acc (((i:Int),p.x.number),p.sum)).map (fun d=>max k d)
def db(acc:List ((dy×ByteArray)×Int))(p:Pr)(n:Nat):Option Int:=(List.range n).foldl (knStep acc p) (some p.x.sent)
def cJ(acc:List ((dy×ByteArray)×Int))(p:Pr):Int:=(db acc p parties.toNat).getD (-1)
def bS(acc:List ((dy×ByteArray)×Int))(p:Pr):Pr:= {p with known:=cJ parties acc p}
def cm(p:Pr)(g:List Pr)(wd:List Int):Bool:=
 decide (0<=p.known)&& !(g.any fun o=>decide (o.sum≠p.sum)&&decide (o.x.sent<=p.known))&& !(wd.any fun d=>decide (p.x.sent<=d)&&decide (d<p.known))

def bz(l:List (Let×Hd)):Bool:=decide (1<=parties/\parties<=12/\l.length<=4000)
def prs(l:List (Let×Hd)):List Pr:=(bl D parties l).map fun e=>bS parties (dH parties l) e.2
def cands(l:List (Let×Hd)):List Pr:=(prs D parties l).filter fun p=>cm p ((prs D parties l).filter fun q=>q.slot=p.slot) ((get (wds parties l) p.slot).getD [])
def isBest(c:List Pr)(p:Pr):Bool:=c.all fun q=>decide (q.num≠p.num)||decide (q.sum=p.sum)||decide (p.known<q.known)
def best(l:List (Let×Hd)):List Pr:=(cands D parties l).filter (isBest (cands D parties l))
def df(l:List (Let×Hd)):List Pr:=if bz parties l then isort Pr.num (best D parties l)else []
def AgreedR(l:List (Let×Hd))(out:List Pr):Prop:=
 ∃(σ:List (ByteArray×Pr)) (τ:List (dy×List Pr)) (υ:List (Int×List Pr)),σ.Perm (bl D parties l)/\τ.Perm (aN Pr.slot id (σ.map fun e=>bS parties (dH parties l) e.2))/\
  υ.Perm (aN Pr.num id (τ.flatMap fun e=>e.2.filter fun p=>cm p e.2 ((get (wds parties l) e.1).getD [])))/\
  out.Perm (υ.filterMap fun e=>bD Pr.known e.2)/\out.Pairwise (fun a b=>a.num<=b.num)

theorem props_good(l:List (Let×Hd)):((bl D parties l).map (·.1)).Nodup/\∀e∈bl D parties l,e.2.sum=e.1:=by
 induction l using cS with
 |h0=>simp[bl]
 |h1 l r ih=>
  have e:bl D parties (l++ [r])=cX D parties (bl D parties l) r:=by simp[bl]
  rw[e]
  obtain⟨h1,h2⟩:=ih
  have hput:((put (bl D parties l) (D r.1) ⟨r.1,r.2,D r.1,0⟩).map (·.1)).Nodup/\∀e∈put (bl D parties l) (D r.1) ⟨r.1,r.2,D r.1,0⟩,e.2.sum=e.1:=by
   refine⟨fI h1,fun e he=> ?_⟩
   rcases dN he with rfl|⟨he,_⟩
   ·rfl
   ·exact h2 e he
  unfold cX
  split
  ·split
   ·split
    ·exact hput
    ·exact⟨h1,h2⟩
   ·exact hput
  ·exact⟨h1,h2⟩
theorem d8{α β:Type}{f:α->β}:∀ {l:List α},(l.map f).Nodup->l.Nodup
 | [],_=>List.nodup_nil
 |x::r,h=>by
  rw[List.map_cons,List.nodup_cons]at h
  exact List.nodup_cons.2 ⟨fun hx=>h.1 (List.mem_map.2 ⟨x,hx,rfl⟩),d8 h.2⟩
theorem gn{α β:Type}{f:α->β}:∀ {l:List α},(l.map f).Nodup->∀ {x y:α},x∈l->y∈l->f x=f y->x=y
 | [],_,_,_,hx,_,_=>by cases hx
 |z::r,h,x,y,hx,hy,e=>by
  rw[List.map_cons,List.nodup_cons]at h
  rcases List.mem_cons.1 hx with ex|hx1
  ·rcases List.mem_cons.1 hy with ey|hy1
   ·rw[ex,ey]
   ·exact absurd (List.mem_map.2 ⟨y,hy1,by rw[<-ex,e]⟩) h.1
  ·rcases List.mem_cons.1 hy with ey|hy1
   ·exact absurd (List.mem_map.2 ⟨x,hx1,by rw[<-ey,e]⟩) h.1
   ·exact gn h.2 hx1 hy1 e
theorem prs_sums(l:List (Let×Hd)):((prs D parties l).map Pr.sum).Nodup:=by
 have⟨h1,h2⟩:=props_good D parties l
 have:(prs D parties l).map Pr.sum=(bl D parties l).map (·.1):=by
  rw[prs,List.map_map]
  exact List.map_congr_left fun e he=>h2 e he
 rw[this];exact h1

theorem valid_perm{p:Pr}{g g':List Pr}{wd:List Int}(h:g.Perm g'):cm p g wd=cm p g' wd:=by
 unfold cm
 rw[Bool.eq_iff_iff]
 simp only[Bool.and_eq_true,Bool.not_eq_true',List.any_eq_false]
 constructor
 ·rintro⟨⟨h1,h2⟩,h3⟩;exact⟨⟨h1,fun x hx=>h2 x (h.mem_iff.2 hx)⟩,h3⟩
 ·rintro⟨⟨h1,h2⟩,h3⟩;exact⟨⟨h1,fun x hx=>h2 x (h.mem_iff.1 hx)⟩,h3⟩

theorem agreed_of_run{l:List (Let×Hd)}{out:List Pr}(hp:bz parties l=true)(h:AgreedR D parties l out):out=df D parties l:=by
 obtain⟨σ,τ,υ,hσ,hτ,hυ,ho,hs⟩:=h
 -- the proposals in the order of the first range
 let ps:=σ.map fun e=>bS parties (dH parties l) e.2
 have hps:ps.Perm (prs D parties l):=hσ.map _
 have hsum:(ps.map Pr.sum).Nodup:=((hps.map Pr.sum).nodup_iff).2 (prs_sums D parties l)
 -- those that are cm,in the order of the second range
 let cs:=τ.flatMap fun e=>e.2.filter fun p=>cm p e.2 ((get (wds parties l) e.1).getD [])
 have hmemτ:∀e,e∈τ↔e.2=(ps.filter fun x=>x.slot=e.1)/\e.2≠ []:=fun e=>by
  rw[hτ.mem_iff]
  have:=cg Pr.slot id ps (k:=e.1) (g:=e.2)
  rw[List.map_id]at this
  exact this
 have hcs:∀p,p∈cs↔p∈cands D parties l:=fun p=>by
  simp only[cs,List.mem_flatMap,List.mem_filter,cands]
  constructor
  ·rintro⟨e,he,hpe,hv⟩
   obtain⟨h1,h2⟩:=(hmemτ e).1 he
   rw[h1,List.mem_filter]at hpe
   have hslot:p.slot=e.1:=by simpa using hpe.2
   refine⟨hps.mem_iff.1 hpe.1, ?_⟩
   rw[hslot, <-hv,h1]
   exact valid_perm (hps.symm.filter _)
  ·rintro⟨hp,hv⟩
   have hp':p∈ps:=hps.mem_iff.2 hp
   have hin:p∈ps.filter fun x=>x.slot=p.slot:=List.mem_filter.2 ⟨hp',by simp⟩
   refine⟨(p.slot,ps.filter fun x=>x.slot=p.slot),(hmemτ _).2 ⟨rfl,fun e=>by rw[show(p.slot,ps.filter fun x=>x.slot=p.slot).2=ps.filter fun x=>x.slot=p.slot from rfl]at e;rw[e]at hin;cases hin⟩,hin, ?_⟩
   show cm p (ps.filter fun x=>x.slot=p.slot) _=true
   rw[<-hv]
   exact valid_perm (hps.filter _)
 have hτn:(τ.map (·.1)).Nodup:=((hτ.map (·.1)).nodup_iff).2 (eJ Pr.slot id ps)
 have hcn:cs.Nodup:=by
  have hpn:ps.Nodup:=d8 hsum
  have:∀t:List (dy×List Pr),(t.map (·.1)).Nodup->(∀e∈t,e.2=ps.filter fun x=>x.slot=e.1)->(t.flatMap fun e=>e.2.filter fun p=>cm p e.2 ((get (wds parties l) e.1).getD [])).Nodup:=by
   intro t
   induction t with
   |nil=>intro _ _;simp
   |cons e t ih=>
    intro hn he
    rw[List.map_cons,List.nodup_cons]at hn
    rw[List.flatMap_cons,List.nodup_append]
    refine⟨?_,ih hn.2 fun e' he'=>he e' (by simp[he']),fun a ha b hb hab=> ?_⟩
    ·rw[he e (by simp)]
     exact(hpn.filter _).filter _
    ·subst hab
     obtain⟨e',he',hb⟩:=List.mem_flatMap.1 hb
     have h1:=(List.mem_filter.1 ha).1
     have h2:=(List.mem_filter.1 hb).1
     rw[he e (by simp),List.mem_filter]at h1
     rw[he e' (by simp[he']),List.mem_filter]at h2
     have e1:a.slot=e.1:=by simpa using h1.2
     have e2:a.slot=e'.1:=by simpa using h2.2
     exact hn.1 (List.mem_map.2 ⟨e',he',by rw[<-e2,e1]⟩)
  exact this τ hτn fun e he=>((hmemτ e).1 he).1
 have hsumc:∀p∈cs,∀q∈cs,p.sum=q.sum->p=q:=fun p hp q hq e=>by
  have h1:∀p,p∈cs->p∈prs D parties l:=fun p hp=>(List.mem_filter.1 ((hcs p).1 hp)).1
  exact gn (prs_sums D parties l) (h1 p hp) (h1 q hq) e
 have hmemυ:∀e,e∈υ↔e.2=(cs.filter fun x=>x.num=e.1)/\e.2≠ []:=fun e=>by
  rw[hυ.mem_iff]
  have:=cg Pr.num id cs (k:=e.1) (g:=e.2)
  rw[List.map_id]at this
  exact this
 have hbest:∀p,p∈best D parties l↔p∈cs/\∀q∈cs,q.num=p.num->q≠p->p.known<q.known:=fun p=>by
  simp only[best,List.mem_filter,isBest,List.all_eq_true]
  rw[hcs p]
  constructor
  ·rintro⟨hp,h⟩
   refine⟨hp,fun q hq hn hne=> ?_⟩
   have:=h q ((hcs q).1 hq)
   simp only[Bool.or_eq_true,decide_eq_true_eq]at this
   rcases this with(h|h)|h
   ·exact absurd hn h
   ·exact absurd (hsumc q hq p ((hcs p).2 hp) h) hne
   ·exact h
  ·rintro⟨hp,h⟩
   refine⟨hp,fun q hq=> ?_⟩
   simp only[Bool.or_eq_true,decide_eq_true_eq]
   by_cases hn:q.num=p.num
   ·by_cases hne:q=p
    ·subst hne;exact .inl (.inr rfl)
    ·exact .inr (h q ((hcs q).2 hq) hn hne)
   ·exact .inl (.inl hn)
 have hout:∀p,p∈out↔p∈best D parties l:=fun p=>by
  rw[ho.mem_iff,hbest,List.mem_filterMap]
  constructor
  ·rintro⟨e,he,hf⟩
   obtain⟨h1,_⟩:=(hmemυ e).1 he
   rw[h1]at hf
   obtain⟨h2,h3⟩:=(fY Pr.known (hcn.filter _) p).1 hf
   rw[List.mem_filter]at h2
   have hn:p.num=e.1:=by simpa using h2.2
   exact⟨h2.1,fun q hq hnq hne=>h3 q (List.mem_filter.2 ⟨hq,by simp[hnq,hn]⟩) hne⟩
  ·rintro⟨hp,h⟩
   have hin:p∈cs.filter fun x=>x.num=p.num:=List.mem_filter.2 ⟨hp,by simp⟩
   refine⟨(p.num,cs.filter fun x=>x.num=p.num),(hmemυ _).2 ⟨rfl,fun e=>by rw[show(p.num,cs.filter fun x=>x.num=p.num).2=cs.filter fun x=>x.num=p.num from rfl]at e;rw[e]at hin;cases hin⟩, ?_⟩
   exact(fY Pr.known (hcn.filter _) p).2 ⟨hin,fun q hq hne=>by
    rw[List.mem_filter]at hq
    exact h q hq.1 (by simpa using hq.2) hne⟩
 -- the numbers differ
 have hυn:(υ.map (·.1)).Nodup:=((hυ.map (·.1)).nodup_iff).2 (eJ Pr.num id cs)
 have hne:(υ.filterMap fun e=>bD Pr.known e.2).Pairwise (fun a b=>a.num≠b.num):=by
  have hnum:∀e∈υ,∀p,bD Pr.known e.2=some p->p.num=e.1:=fun e he p hf=>by
   obtain⟨h1,_⟩:=(hmemυ e).1 he
   rw[h1]at hf
   have:=((fY Pr.known (hcn.filter _) p).1 hf).1
   rw[List.mem_filter]at this
   simpa using this.2
  rw[List.pairwise_filterMap]
  have hυp:υ.Pairwise (fun a b=>a.1≠b.1):=by
   rw[List.nodup_iff_pairwise_ne,List.pairwise_map]at hυn
   exact hυn
  exact hυp.imp_of_mem fun {a b} ha hb hab p hp q hq e=>hab (by rw[<-hnum a ha p hp, <-hnum b hb q hq,e])
 have hon:out.Pairwise (fun a b=>a.num≠b.num):=(ho.symm.pairwise_iff (fun {a b} (h:a.num≠b.num)=>h.symm)).1 hne
 have hor:out.Pairwise (fun a b=>a.num<b.num):=(hs.and hon).imp fun⟨h1,h2⟩=>by omega
 have hbn:(best D parties l).Pairwise (fun a b=>a.num≠b.num):=by
  have hnd:(best D parties l).Nodup:=by
   unfold best cands
   exact(((d8 (prs_sums D parties l)).filter _).filter _)
  rw[List.nodup_iff_pairwise_ne]at hnd
  refine hnd.imp_of_mem fun {a b} ha hb hab e=> ?_
  have h1:=((hbest a).1 ha).2 b ((hbest b).1 hb).1 e.symm (Ne.symm hab)
  have h2:=((hbest b).1 hb).2 a ((hbest a).1 ha).1 e hab
  omega
 unfold df
 rw[if_pos hp]
 exact rising_ext Pr.num hor (gl hbn) fun x=>by rw[hout,mem_isort]
end
end Go.Cs

namespace Go.Opn
open Go Go.RowKit Go.ChangeShapes Go.WideShapes Go.Deep
def gj(P:Program):Nat->TypeId->Nat->Option TypeId
 |0,_,_=>none
 |f+1,t,p=>
  match P.underlying t with
  |some (.struct fs)=>fs.toList.findSome? fun fl=>if fl.offset<=p/\p<fl.offset+P.cellsOf fl.type then gj P f fl.type (p-fl.offset)else none
  |some (.int _)=>if p=0 then some t else none
  |some .bool=>if p=0 then some t else none
  |some .string=>if p=0 then some t else none
  |some (.slice _)=>if p=0 then some t else none
  |_=>none

section
variable {H:Type} {enc:TypeId×Value->H} {P:Program} {w:World} {base:Nat} {spare:Nat->Bool} {held:Bool}

theorem leaf:∀(f:Nat) {t t':TypeId} {p fuel:Nat} {cs:List Value} {x:DataW H×List MemPlace},gj P f t p=some t'->DataW.trod enc P w base spare held fuel t cs=some x->
  ∃v m y,cs[p]? =some v/\DataW.trod enc P w base spare held m t' [v]=some y
 |0,_,_,_,_,_,_,h,_=>by simp[gj]at h
 |f+1,t,t',p,fuel,cs,x,h,hx=>by
  unfold gj at h
  split at h
  ·rename_i fs ht
   obtain⟨fl,hm,hfl⟩:=List.exists_of_findSome?_eq_some h
   split at hfl
   ·rename_i hp
    obtain⟨xs,n,_,_,_,hxl,hg⟩:=DataW.trod_struct ht hx
    obtain⟨i,hi⟩:=List.mem_iff_getElem?.1 hm
    have hi':fs[i]? =some fl:=by simpa using hi
    have h1:=hg i fl hi'
    have hil:i<xs.length:=by rw[hxl];exact(Array.getElem?_eq_some_iff.1 hi').1
    rw[List.getElem?_eq_getElem hil]at h1
    obtain⟨v,m,y,hv,hy⟩:=leaf f hfl h1
    refine⟨v,m,y, ?_,hy⟩
    rw[List.getElem?_take_of_lt (by omega),List.getElem?_drop]at hv
    rw[<-hv];congr 1;omega
   ·cases hfl
  all_goals first|cases h|skip
  all_goals
   rename_i ht
   split at h
   ·rename_i hp
    subst hp
    cases h
    first
     |(obtain⟨n,rfl,rfl,_⟩:=DataW.trod_int ht hx;exact⟨_,_,_,rfl,hx⟩)
     |(obtain⟨n,rfl,rfl⟩:=DataW.trod_bool ht hx;exact⟨_,_,_,rfl,hx⟩)
     |(obtain⟨n,rfl,rfl,_⟩:=DataW.trod_string ht hx;exact⟨_,_,_,rfl,hx⟩)
     |(rcases DataW.trod_slice ht hx with⟨rfl,rfl⟩|⟨a,len,cap,el,rs,n,_,rfl,_⟩<;>exact⟨_,_,_,rfl,hx⟩)
   ·cases h
theorem al{f:Nat}{t t':TypeId}{p fuel:Nat}{cs:List Value}{x:DataW H×List MemPlace}{k:IntKind}(ht:P.underlying t'=some (.int k))(h:gj P f t p=some t')(hx:DataW.trod enc P w base spare held fuel t cs=some x):
  ∃n,cs[p]? =some (.int k n)/\(Lit.int k n).wf=true:=by
 obtain⟨v,m,y,hv,hy⟩:=leaf f h hx
 obtain⟨n,hn,_,hw⟩:=DataW.trod_int ht hy
 cases hn
 exact⟨n,hv,hw⟩
theorem da{f:Nat}{t t':TypeId}{p fuel:Nat}{cs:List Value}{x:DataW H×List MemPlace}(ht:P.underlying t'=some .bool)(h:gj P f t p=some t')(hx:DataW.trod enc P w base spare held fuel t cs=some x):
  ∃b,cs[p]? =some (.bool b):=by
 obtain⟨v,m,y,hv,hy⟩:=leaf f h hx
 obtain⟨n,hn,_⟩:=DataW.trod_bool ht hy
 cases hn
 exact⟨n,hv⟩
theorem gO{f:Nat}{t t':TypeId}{p fuel:Nat}{cs:List Value}{x:DataW H×List MemPlace}(ht:P.underlying t'=some .string)(h:gj P f t p=some t')(hx:DataW.trod enc P w base spare held fuel t cs=some x):
  ∃s:ByteArray,cs[p]? =some (.string s)/\s.size<=maxLen:=by
 obtain⟨v,m,y,hv,hy⟩:=leaf f h hx
 obtain⟨n,hn,_,hs⟩:=DataW.trod_string ht hy
 cases hn
 exact⟨n,hv,hs⟩
end
structure SL {α:Type} (w:World) (sz:Nat) (enc:α->List Value) (A:Option Addr) (es:List α):Prop where
 cells:es≠ []->∃b off,A=some ⟨b,off,none⟩/\∀i e,es[i]? =some e->∀p u,(enc e)[p]? =some u->w.cell? ⟨b,off+(i*sz+p),none⟩=some u

section
variable {α:Type} {w w':World} {sz:Nat} {ec:α->List Value} {A:Option Addr} {es:List α}
theorem SL.nil:SL w sz ec A ([]:List α):=⟨fun h=>absurd rfl h⟩
theorem SL.at_(h:SL w sz ec A es){i:Nat}{e:α}(hi:es[i]? =some e):∃b off,A=some ⟨b,off,none⟩/\∀p u,(ec e)[p]? =some u->w.cell? ⟨b,off+(i*sz+p),none⟩=some u:=by
 obtain⟨b,off,hA,hc⟩:=h.cells (by rintro rfl;simp at hi)
 exact⟨b,off,hA,fun p u hu=>hc i e hi p u hu⟩
theorem SL.keep(h:SL w sz ec A es)(hk:∀p v,w.cell? p=some v->w'.cell? p=some v):SL w' sz ec A es:=
 ⟨fun hn=>by
  obtain⟨b,off,hA,hc⟩:=h.cells hn
  exact⟨b,off,hA,fun i e hi p u hu=>hk _ _ (hc i e hi p u hu)⟩⟩
theorem SL.below{B:Nat}(h:SL w sz ec A es)(hb:Below B w w')(hB:w.heap.size<=B):SL w' sz ec A es:=
 h.keep fun p v hv=>by rw[hb.cell (p:=p) (Nat.lt_of_lt_of_le (World.block_lt_of_cell? w _ hv) hB)];exact hv
theorem SL.alloc(h:SL w sz ec A es)(o:Obj):SL (w.alloc o) sz ec A es:=h.below ((Below.refl _ _).alloc (Nat.le_refl _) o) (Nat.le_refl _)
theorem SL.drew(h:SL w sz ec A es):SL w.drew sz ec A es:=⟨h.cells⟩
theorem SL.take(h:SL w sz ec A es)(k:Nat):SL w sz ec A (es.take k):=
 ⟨fun hn=>by
  obtain⟨b,off,hA,hc⟩:=h.cells (by rintro rfl;simp at hn)
  refine⟨b,off,hA,fun i e hi p u hu=>hc i e ?_ p u hu⟩
  rw[List.getElem?_take]at hi
  split at hi
  ·exact hi
  ·cases hi⟩
theorem SL.drop(h:SL w sz ec A es){k cap:Nat}(hc:es.length<=cap):SL w sz ec (if cap=k then A else A.map (·.add (k*sz))) (es.drop k):=
 ⟨fun hn=>by
  have hk:k<es.length:=Nat.lt_of_not_le fun hl=>hn (List.drop_eq_nil_iff.2 hl)
  obtain⟨b,off,rfl,hcl⟩:=h.cells (by rintro rfl;simp at hn)
  rw[if_neg (by omega)]
  refine⟨b,off+k*sz, ?_,fun i e hi p u hu=> ?_⟩
  ·simp only[Option.map_some,Addr.add]
   split
   ·rename_i h0;rw[h0];rfl
   ·rfl
  ·rw[List.getElem?_drop]at hi
   have:=hcl _ e hi p u hu
   rw[<-this];congr 2
   rw[Nat.add_mul];omega⟩
end

section
variable {H:Type} {enc:TypeId×Value->H} {P:Program} {w:World} {base:Nat} {spare:Nat->Bool} {held:Bool}
end
end Go.Opn

namespace Go.Cs
open Go Go.Opn Go.RowKit

abbrev Rl:=Let×Hd
def encI(n:Int):List Value:= [.int .i64 n]
def ar(s:Int×Int):List Value:= [.int .i64 s.1, .int .i64 s.2]
def clV(p:Pat)(h:Hd):Value:= .slice h.A p.cl.length h.c
def stV(p:Pat)(h:Hd):Value:= .slice h.B p.new.start.length h.d
def fN(k:Cls)(st:Value):List Value:=
 [.int .i64 k.kind, .int .i64 k.role, .int .i64 k.act, .int .i64 k.need,st, .int .i64 k.after, .int .i64 k.grace, .bool k.bus, .bool k.fin, .int .i64 k.pause, .int .i64 k.resume, .int .i64 k.num, .int .i64 k.den, .int .i64 k.unit, .int .i64 k.to, .bool k.waived]
def aw(p:Pat)(h:Hd):List Value:=
 [.int .i64 p.kind,clV p h, .int .i64 p.new.kind, .int .i64 p.new.role, .int .i64 p.new.act, .int .i64 p.new.need,stV p h, .int .i64 p.new.after, .int .i64 p.new.grace, .bool p.new.bus, .bool p.new.fin, .int .i64 p.new.pause, .int .i64 p.new.resume, .int .i64 p.new.num, .int .i64 p.new.den, .int .i64 p.new.unit, .int .i64 p.new.to, .bool p.new.waived, .int .i64 p.days]
def ay(r:Rl):List Value:=
 [.int .i64 r.1.kind, .int .i64 r.1.party, .int .i64 r.1.number, .int .i64 r.1.sent, .int .i64 r.1.day]++aw r.1.patch r.2++ [.string r.1.sum]
def bd(p:Pr):List Value:=ay (p.x,p.h)++ [.string p.sum, .int .i64 p.known]
def bH(p:Pr×Hd):List Value:= [.int .i64 p.1.x.number, .int .i64 p.1.x.day, .int .i64 p.1.known]++aw p.1.x.patch p.2
theorem fZ(p:Pat)(h:Hd):(aw p h).length=19:=rfl
theorem encLet_len(r:Rl):(ay r).length=25:=rfl
theorem ga(k:Cls)(st:Value)(hs:st.oneCell'=true):∀v∈fN k st,v.oneCell'=true:=fun v hv=>by
 simp only[fN,List.mem_cons,List.not_mem_nil,or_false]at hv
 repeat' (rcases hv with rfl|hv)
 all_goals first|rfl|exact hs|(subst hv;rfl)
theorem encPat_one(p:Pat)(h:Hd):∀v∈aw p h,v.oneCell'=true:=fun v hv=>by
 simp only[aw,List.mem_cons,List.not_mem_nil,or_false]at hv
 repeat' (rcases hv with rfl|hv)
 all_goals first|rfl|(subst hv;rfl)
theorem cC(r:Rl):∀v∈ay r,v.oneCell'=true:=fun v hv=>by
 simp only[ay,List.mem_append,List.mem_cons,List.not_mem_nil,or_false]at hv
 rcases hv with(hv|hv)|hv
 ·repeat' (rcases hv with rfl|hv)
  all_goals first|rfl|(subst hv;rfl)
 ·exact encPat_one _ _ v hv
 ·subst hv;rfl
theorem bX(p:Pr):∀v∈bd p,v.oneCell'=true:=fun v hv=>by
 simp only[bd,List.mem_append,List.mem_cons,List.not_mem_nil,or_false]at hv
 rcases hv with hv|hv|hv
 ·exact cC _ v hv
 ·subst hv;rfl
 ·subst hv;rfl
theorem dG(p:Pr×Hd):∀v∈bH p,v.oneCell'=true:=fun v hv=>by
 simp only[bH,List.mem_append,List.mem_cons,List.not_mem_nil,or_false]at hv
 rcases hv with(hv|hv|hv)|hv
 ·subst hv;rfl
 ·subst hv;rfl
 ·subst hv;rfl
 ·exact encPat_one _ _ v hv

def bn(n:Int):Prop:= -9223372036854775808<=n/\n<=9223372036854775807
structure PatAt (w:World) (p:Pat) (h:Hd):Prop where
 cl:SL w 1 encI h.A p.cl
 st:SL w 2 ar h.B p.new.start
structure PatOk (p:Pat):Prop where
 nums:∀n∈p.nums,bn n
 cl:p.cl.length<=4611686018427387903
 st:p.new.start.length<=4611686018427387903
structure LetOk (x:Let):Prop where
 nums:bn x.kind/\bn x.party/\bn x.number/\bn x.sent/\bn x.day
 patch:PatOk x.patch
 sum:x.sum.size<=4611686018427387903
theorem PatAt.below{w w':World}{p:Pat}{h:Hd}{B:Nat}(hp:PatAt w p h)(hb:Below B w w')(hB:w.heap.size<=B):PatAt w' p h:=
 ⟨hp.cl.below hb hB,hp.st.below hb hB⟩
end Go.Cs

namespace Go.Mg
open Go Go.RowKit Go.Mk

section
variable {α γ:Type} {enc:α->Value} {ok:α->Prop} {ec:γ->List Value} {w:World} {base:Nat} {T:TypeId} {sz b:Nat} {L:List (α×(Value×List γ))}
structure Groups (w:World) (enc:α->Value) (ok:α->Prop) (ec:γ->List Value) (base:Nat) (T:TypeId) (sz b:Nat) (L:List (α×(Value×List γ))):Prop where
 map:MapIs w enc ok Prod.fst b L
 row:∀p∈L,w.ownsRow base T sz p.2.1 p.2.2.length (p.2.2.flatMap ec)
 apart:L.Pairwise (fun p q=> ∀g,p.2.1.ownBlock=some g->q.2.1.ownBlock≠some g)

theorem owns_lt{v:Value}{n:Nat}{xs:List Value}(h:w.ownsRow base T sz v n xs){g:Nat}(hg:v.ownBlock=some g):base<=g/\g<w.heap.size:=by
 rcases h.2 with⟨rfl,_⟩|⟨g',cap,cur,rfl,h1,h2,_⟩
 ·cases hg
 ·injection hg with e
  subst e
  exact⟨h1,(Array.getElem?_eq_some_iff.1 h2).1⟩
theorem owns_keep{w':World}{v:Value}{n:Nat}{xs:List Value}(h:w.ownsRow base T sz v n xs)(hk:∀g,v.ownBlock=some g->w'.heap[g]? =w.heap[g]?):w'.ownsRow base T sz v n xs:=by
 rcases h with⟨h0,⟨rfl,h2⟩|⟨g',cap,cur,rfl,h1,h2,h3⟩⟩
 ·exact⟨h0, .inl ⟨rfl,h2⟩⟩
 ·exact⟨h0, .inr ⟨g',cap,cur,rfl,h1,(hk g' rfl).trans h2,h3⟩⟩

theorem Groups.made(w:World):Groups (w.alloc (.map #[] 0)) enc ok ec base T sz w.heap.size ([]:List (α×(Value×List γ))):=
 ⟨MapIs.made w,fun p hp=>(by cases hp),List.Pairwise.nil⟩
theorem Groups.keep{w':World}(h:Groups w enc ok ec base T sz b L)(hb:w'.heap[b]? =w.heap[b]?)(hk:∀g,base<=g->g<w.heap.size->w'.heap[g]? =w.heap[g]?):Groups w' enc ok ec base T sz b L:=
 ⟨h.map.keep hb,fun p hp=>owns_keep (h.row p hp) fun g hg=>hk g (owns_lt (h.row p hp) hg).1 (owns_lt (h.row p hp) hg).2,h.apart⟩

variable [DecidableEq α]
theorem Groups.at(h:Groups w enc ok ec base T sz b L)(x:α):
  ∃v zs,((get L x).map Prod.fst).getD (.slice none 0 0)=v/\((get L x).map Prod.snd).getD []=zs/\w.ownsRow base T sz v zs.length (zs.flatMap ec)/\((v,zs)=(.slice none 0 0,[])/\get L x=none\/get L x=some (v,zs)):=by
 cases hg:get L x with
 |none=>exact⟨_,_,rfl,rfl,World.ownsRow_nil w base T sz, .inl ⟨rfl,rfl⟩⟩
 |some p=>exact⟨p.1,p.2,rfl,rfl,h.row _ (get_mem hg), .inr rfl⟩
theorem apart_put{x:α}{v:Value}{zs:List γ}(hn:(L.map (·.1)).Nodup)(h:L.Pairwise (fun p q=> ∀g,p.2.1.ownBlock=some g->q.2.1.ownBlock≠some g))
  (hx:∀p∈L,p.1≠x->∀g,p.2.1.ownBlock=some g->v.ownBlock≠some g):(put L x (v,zs)).Pairwise (fun p q=> ∀g,p.2.1.ownBlock=some g->q.2.1.ownBlock≠some g):=by
 induction L with
 |nil=>exact List.pairwise_singleton _ _
 |cons p r ih=>
  rw[List.pairwise_cons]at h
  rw[List.map_cons,List.nodup_cons]at hn
  rw[put]
  by_cases hp:p.1=x
  ·rw[if_pos hp,List.pairwise_cons]
   refine⟨fun q hq g hg hg'=>hx q (by simp[hq]) (fun e=>hn.1 ?_) g hg' hg,h.2⟩
   rw[hp, <-e];exact List.mem_map.2 ⟨q,hq,rfl⟩
  ·rw[if_neg hp,List.pairwise_cons]
   refine⟨fun q hq g hg=> ?_,ih hn.2 h.2 fun q hq=>hx q (by simp[hq])⟩
   rcases dN hq with rfl|⟨hq,_⟩
   ·exact hx p (by simp) hp g hg
   ·exact h.1 q hq g hg
theorem Groups.store{w1 w2:World}(h:Groups w enc ok ec base T sz b L)(hbb:b<base){x:α}{v v':Value}{zs zs':List γ}(hat:(v,zs)=(.slice none 0 0,[])/\get L x=none\/get L x=some (v,zs))
  (hk1:∀g,g<w.heap.size->v.ownBlock≠some g->w1.heap[g]? =w.heap[g]?) (hs1:w.heap.size<=w1.heap.size)
  (hr1:w1.ownsRow base T sz v' zs'.length (zs'.flatMap ec)) (hv':v'.ownBlock=v.ownBlock\/∃g,v'.ownBlock=some g/\w.heap.size<=g)
  (hm:MapIs w2 enc ok Prod.fst b (put L x (v',zs'))) (hg:w1.grownBy w2 (some b)):Groups w2 enc ok ec base T sz b (put L x (v',zs')):=by
 have hn:=h.map.nodup
 have hoff:∀p∈L,p.1≠x->∀g,p.2.1.ownBlock=some g->v.ownBlock≠some g:=by
  intro p hp hpx g hg hv
  rcases hat with⟨e,_⟩|hx
  ·injection e with e _;rw[e]at hv;cases hv
  ·have hm:=get_mem hx
   obtain⟨i,hi,ei⟩:=List.getElem_of_mem hp
   obtain⟨j,hj,ej⟩:=List.getElem_of_mem hm
   have hap:=List.pairwise_iff_getElem.1 h.apart
   rcases Nat.lt_trichotomy i j with hij|hij|hij
   ·have:=hap i j hi hj hij g (by rw[ei];exact hg)
    rw[ej]at this
    exact this hv
   ·subst hij
    rw[ei]at ej
    exact hpx (by rw[ej])
   ·have:=hap j i hj hi hij g (by rw[ej];exact hv)
    rw[ei]at this
    exact this hg
 refine⟨hm,fun p hp=> ?_,apart_put hn h.apart fun p hp hpx g hg1 hg2=> ?_⟩
 ·rcases dN hp with rfl|⟨hp,hpx⟩
  ·exact owns_keep hr1 fun g hgo=>hg.block g (owns_lt hr1 hgo).2 (fun e=>by injection e with e;have:=(owns_lt hr1 hgo).1;omega)
  ·have hpx:p.1≠x:=hpx.elim id fun h1=>absurd hn h1
   refine owns_keep (h.row p hp) fun g hgo=> ?_
   have hl:=owns_lt (h.row p hp) hgo
   rw[hg.block g (by omega) (fun e=>by injection e with e;omega)]
   exact hk1 g hl.2 (hoff p hp hpx g hgo)
 ·rcases hv' with e|⟨g',e,hge⟩
  ·rw[e]at hg2;exact hoff p hp hpx g hg1 hg2
  ·rw[e]at hg2;injection hg2 with hg2
   have:=(owns_lt (h.row p hp) hg1).2
   omega
end
end Go.Mg

namespace Go.Cs
open Go Go.Mk

section
variable (D:Let->ByteArray) (parties:Int)
theorem props_from(l:List (Let×Hd)):∀e∈bl D parties l,∃r∈l,aQ 1 parties r.1=true/\e.2.x=r.1/\e.2.h=r.2/\e.1=D r.1:=by
 induction l using cS with
 |h0=>intro e he;simp[bl]at he
 |h1 l r ih=>
  have e1:bl D parties (l++ [r])=cX D parties (bl D parties l) r:=by simp[bl]
  rw[e1]
  have old:∀e∈bl D parties l,∃r'∈l++ [r],aQ 1 parties r'.1=true/\e.2.x=r'.1/\e.2.h=r'.2/\e.1=D r'.1:=fun e he=>by
   obtain⟨r',hr,h⟩:=ih e he
   exact⟨r',by simp[hr],h⟩
  intro e he
  unfold cX at he
  by_cases hc:aQ 1 parties r.1=true
  ·rw[if_pos hc]at he
   have new:∀e∈put (bl D parties l) (D r.1) ⟨r.1,r.2,D r.1,0⟩,∃r'∈l++ [r],aQ 1 parties r'.1=true/\e.2.x=r'.1/\e.2.h=r'.2/\e.1=D r'.1:=fun e he=>by
    rcases dN he with rfl|⟨he,_⟩
    ·exact⟨r,by simp,hc,rfl,rfl,rfl⟩
    ·exact old e he
   split at he
   ·split at he
    ·exact new e he
    ·exact old e he
   ·exact new e he
  ·rw[if_neg hc]at he
   exact old e he
theorem accs_from(l:List (Let×Hd)):∀e∈dH parties l,∃r∈l,aQ 2 parties r.1=true/\e.1=(r.1.slot,r.1.sum):=by
 induction l using cS with
 |h0=>intro e he;simp[dH]at he
 |h1 l r ih=>
  have e1:dH parties (l++ [r])=dU parties (dH parties l) r:=by simp[dH]
  rw[e1]
  have old:∀e∈dH parties l,∃r'∈l++ [r],aQ 2 parties r'.1=true/\e.1=(r'.1.slot,r'.1.sum):=fun e he=>by
   obtain⟨r',hr,h⟩:=ih e he
   exact⟨r',by simp[hr],h⟩
  intro e he
  unfold dU at he
  by_cases hc:aQ 2 parties r.1=true
  ·rw[if_pos hc]at he
   have new:∀e∈put (dH parties l) (r.1.slot,r.1.sum) r.1.sent,∃r'∈l++ [r],aQ 2 parties r'.1=true/\e.1=(r'.1.slot,r'.1.sum):=fun e he=>by
    rcases dN he with rfl|⟨he,_⟩
    ·exact⟨r,by simp,hc,rfl⟩
    ·exact old e he
   split at he
   ·split at he
    ·exact new e he
    ·exact old e he
   ·exact new e he
  ·rw[if_neg hc]at he
   exact old e he
theorem kn_some(acc:List ((dy×ByteArray)×Int))(p:Pr){n:Nat}{k:Int}(h:db acc p n=some k):∀i,i<n->(i:Int)≠p.x.party->(get acc (((i:Int),p.x.number),p.sum)).isSome=true:=by
 unfold db at h
 induction n generalizing k with
 |zero=>intro i hi;omega
 |succ n ih=>
  rw[List.range_succ,List.foldl_append,List.foldl_cons,List.foldl_nil]at h
  intro i hi hne
  cases hf:(List.range n).foldl (knStep acc p) (some p.x.sent)with
  |none=>rw[hf]at h;cases h
  |some k0=>
   rw[hf]at h
   rcases Nat.lt_or_eq_of_le (Nat.le_of_lt_succ hi)with h1|h1
   ·exact ih hf i h1 hne
   ·subst h1
    unfold knStep at h
    simp only at h
    rw[if_neg hne]at h
    cases hg:get acc (((i:Int),p.x.number),p.sum)with
    |none=>rw[hg]at h;cases h
    |some d=>rfl
theorem agreed_mem{l:List (Let×Hd)}{q:Pr}(h:q∈df D parties l):
  bz parties l=true/\(∃r∈l,aQ 1 parties r.1=true/\q.x=r.1/\q.h=r.2)/\∀i:Int,0<=i->i<parties->i≠q.x.party->∃r∈l,aQ 2 parties r.1=true/\r.1.party=i/\r.1.number=q.x.number/\r.1.sum=q.sum:=by
 unfold df at h
 by_cases hp:bz parties l=true
 ·rw[if_pos hp,mem_isort]at h
  have hc:q∈cands D parties l:=(List.mem_filter.1 h).1
  obtain⟨h1,h2⟩:=List.mem_filter.1 hc
  obtain⟨e,he,hq⟩:=List.mem_map.1 h1
  refine⟨hp, ?_,fun i hi0 hi hne=> ?_⟩
  ·obtain⟨r,hr,k1,k2,k3,_⟩:=props_from D parties l e he
   refine⟨r,hr,k1, ?_, ?_⟩
   ·rw[<-hq];exact k2
   ·rw[<-hq];exact k3
  ·have hv:0<=q.known:=by
    unfold cm at h2
    simp only[Bool.and_eq_true,decide_eq_true_eq]at h2
    exact h2.1.1
   have hk:q.known=cJ parties (dH parties l) e.2:=by rw[<-hq];rfl
   have hx:q.x=e.2.x/\q.sum=e.2.sum:=by rw[<-hq];exact⟨rfl,rfl⟩
   rw[hk]at hv
   unfold cJ at hv
   cases hu:db (dH parties l) e.2 parties.toNat with
   |none=>rw[hu]at hv;simp at hv
   |some k=>
    have:=kn_some (dH parties l) e.2 hu i.toNat (by omega) (by rw[Int.toNat_of_nonneg hi0, <-hx.1];exact hne)
    rw[Int.toNat_of_nonneg hi0]at this
    cases hg:get (dH parties l) ((i,e.2.x.number),e.2.sum)with
    |none=>rw[hg]at this;cases this
    |some d=>
     obtain⟨r,hr,k1,k2⟩:=accs_from parties l _ (get_mem hg)
     injection k2 with k3 k4
     injection k3 with k5 k6
     exact⟨r,hr,k1,k5.symm,by rw[hx.1,k6],by rw[hx.2,k4]⟩
 ·rw[if_neg hp]at h;cases h
end
end Go.Cs

namespace Go.Cs
open Go Go.Mk

theorem from_step(q:Nat->Bool)(i:Nat):∀n,i<n->(List.range n).filter (fun j=>decide (i<=j)&&q j)=(if q i then [i]else [])++(List.range n).filter (fun j=>decide (i+1<=j)&&q j)
 |0,h=>by omega
 |n+1,h=>by
  rw[List.range_succ,List.filter_append,List.filter_append]
  rcases Nat.lt_or_ge i n with hi|hi
  ·rw[from_step q i n hi,List.append_assoc]
   congr 2
   simp only[List.filter_cons,List.filter_nil]
   rw[decide_eq_true (show i<=n by omega),decide_eq_true (show i+1<=n by omega)]
  ·have e:i=n:=by omega
   subst e
   have h1:∀d,i<=d->(List.range i).filter (fun j=>decide (d<=j)&&q j)= []:=fun d hd=>List.filter_eq_nil_iff.2 fun j hj=>by
    have:=List.mem_range.1 hj
    simp;intro;omega
   rw[h1 i (Nat.le_refl _),h1 (i+1) (by omega)]
   simp[List.filter_cons]
   intro h;omega

section
variable (D:Let->ByteArray) (l:List (Let×Hd))
def cR(i:Nat):dy:=(l[i]?.map fun r=>r.1.slot).getD (0,0)
def fU(i:Nat):ByteArray:=(l[i]?.map fun r=>D r.1).getD ByteArray.empty
def bM(i:Nat)(s:dy):List Nat:=(List.range l.length).filter fun j=>decide (i<=j)&&(decide (fU D l j≠ByteArray.empty)&&decide (cR l j=s))
def eI(k:Nat):List Nat:=(List.range k).filter fun j=>decide (fU D l j≠ByteArray.empty)
theorem later_else{i:Nat}(hi:i<l.length){s:dy}(h:fU D l i=ByteArray.empty\/cR l i≠s):bM D l i s=bM D l (i+1) s:=by
 unfold bM
 rw[from_step _ i _ hi]
 rcases h with h|h<;>simp[h]
theorem later_zero(s:dy):((get (aN (cR l) id (eI D l l.length)) s).getD [])=bM D l 0 s:=by
 rw[(groups_get (cR l) id _ s).1,List.map_id,eI,List.filter_filter]
 unfold bM
 refine List.filter_congr fun j _=> ?_
 simp[Bool.and_comm]
theorem have_succ{k:Nat}:eI D l (k+1)=if fU D l k=ByteArray.empty then eI D l k else eI D l k++ [k]:=by
 unfold eI
 rw[List.range_succ,List.filter_append]
 by_cases h:fU D l k=ByteArray.empty<;>simp[h]
end
end Go.Cs

namespace Go.Cs
open Go Go.Mk

def waiveP(i:Int):Pat:=⟨3,[i],Cls.zero,0⟩
def hdW(g:Nat):Hd:=⟨some ⟨g,0,none⟩,1,none,0⟩
def hd0:Hd:=⟨none,0,none,0⟩
def propL(s d i:Int):Let:=⟨1,0,1,s,d,waiveP i,⟨#[]⟩⟩
theorem empty_eq:(⟨#[]⟩:ByteArray)=ByteArray.empty:=rfl
section
variable (D:Let->ByteArray) (g:Nat)
abbrev p0:Let:=propL 3 4 0
end
end Go.Cs
