/- Decimal digits: the number that they write. No condition. -/
import Derived.Test.YtkmbmfengcdmoaaGreatDoorFree
import Derived.Test.YtkmbmfengcdmoaaGreatDoorA0
import Derived.Deep.Slices
import Derived.ChangeSame
import Derived.WideShapes
import Derived.OpenShut
import Derived.Below
import Derived.WalkKit
import Derived.Laws.AppendOwn
import Derived.Test.YtkmbmfengcdmoaaGreatDoorApk
import Derived.Test.YtkmbmfengcdmoaaGreatDoorBlk
import Derived.Shelf.Strings.Builder1
import Derived.Shelf.Strings.Builder2
import Derived.Shelf.Small.Bits
import Derived.Shelf.Small.Strs
import Derived.Shelf.Strings.BuilderF
import Derived.Shelf.Strings.BuilderK
import Derived.Shelf.Strconv.Atoi
import Derived.Shelf.Strconv.Itoa0
import Derived.Shelf.Strconv.Itoa1
import Derived.Shelf.LaysM
import Derived.Shelf.Strconv.Itoa2
import Derived.Shelf.Strconv.Itoa3
import Derived.Shelf.Strconv.AtoiErrFast
import Derived.Shelf.Strconv.ParseIntEmpty
import Derived.Shelf.Strconv.AtoiFail
import Derived.Shelf.Strconv.Clone
import Derived.Shelf.Strconv.SyntaxError
import Derived.Shelf.LaysC
import Derived.Shelf.Strconv.ToError
import Derived.Shelf.Strconv.Lower
import Derived.Shelf.Strconv.ParseUint10
import Derived.Shelf.Strconv.ParseUint10Empty
import Derived.Shelf.Strconv.ParseUint10Any
import Derived.Shelf.Strconv.ParseInt10
import Derived.Shelf.Strconv.AtoiLong
import Derived.Shelf.Strconv.AtoiInnerAll
import Derived.Shelf.Strconv.RangeError
import Derived.Shelf.Strconv.ToErrorRange
import Derived.Shelf.Strconv.AtoiAll
import Derived.Shelf.Strconv.ErrVarAll
import Derived.Shelf.Strings.Search1
import Derived.Shelf.Strings.Search2
import Derived.Shelf.Strings.Cut
import Derived.Shelf.Strings.Shaped
import Derived.Shelf.Strconv.AppendUint10
import Derived.Shelf.Strconv.AppendInt10
import Derived.Shelf.Strconv.AppendIntPublic10
import Derived.Shelf.Strings.Prefix
import Derived.Shelf.Bits.Mul64
import Derived.Shelf.Strings.Repeat
import Derived.Ground.Names2Prog
import Derived.Shelf.Slices.Clone
import Derived.Ground.SlgnProg
import Derived.Shelf.SlicesE.Clone
import Derived.Ground.SlgfProg
import Derived.Shelf.SlicesE.IndexFunc
import Derived.Ground.SlsfProg
import Derived.Shelf.SlSortCmp.Insertion
import Derived.Test.YtkmbmfengcdmoaaGreatDoorProg
import Derived.Lib.ItoaNum
set_option linter.all false

namespace Go.Opn
open Go Go.RowKit Go.ChangeShapes Go.WideShapes Go.Deep
def lY(P:Program):Nat->TypeId->Nat->Option TypeId
 |0,_,_=>none
 |f+1,t,p=>
  match P.underlying t with
  |some (.struct fs)=>fs.toList.findSome? λfl=>if fl.offset<=p/\p<fl.offset+P.cellsOf fl.type then lY P f fl.type (p-fl.offset)else none
  |some (.int _)=>if p=0 then some t else none
  |some .bool=>if p=0 then some t else none
  |some .string=>if p=0 then some t else none
  |some (.slice _)=>if p=0 then some t else none
  |_=>none

section
variable {H:Type} {enc:TypeId×Value->H} {P:Program} {w:World} {base:Nat} {spare:Nat->Bool} {held:Bool}

theorem leaf:∀(f:Nat) {t l:TypeId} {p b:Nat} {cs:List Value} {x:DataW H×List MemPlace},lY P f t p=some l->DataW.trod enc P w base spare held b t cs=some x->
  ∃v m y,cs[p]? =some v/\DataW.trod enc P w base spare held m l [v]=some y
 |0,_,_,_,_,_,_,h,_=>by simp[lY]at h
 |f+1,t,l,p,b,cs,x,h,hx=>by
  unfold lY at h;split at h
  ·rename_i s d;obtain⟨o,hm,c⟩:=List.exists_of_findSome?_eq_some h;split at c
   ·rename_i r;obtain⟨C,n,_,_,_,k,u⟩:=DataW.trod_struct d hx;obtain⟨i,z⟩:=NQ.1 hm;have e:s[i]? =some o:=by simpa using z
    have q:=u i o e;have j:i<C.length:=by rw[k];exact(iS.1 e).1
    rw[eH j]at q;obtain⟨v,m,y,hv,B⟩:=leaf f c q;refine⟨v,m,y, ?_,B⟩;rw[Sj (by omega),GI]at hv;rw[<-hv];congr 1;omega
   ·cases c
  all_goals first|cases h|skip
  all_goals
   rename_i d;split at h
   ·rename_i r;subst r;cases h
    first
     |(obtain⟨n,rfl,rfl,_⟩:=DataW.trod_int d hx;exact⟨_,_,_,rfl,hx⟩)
     |(obtain⟨n,rfl,rfl⟩:=DataW.trod_bool d hx;exact⟨_,_,_,rfl,hx⟩)
     |(obtain⟨n,rfl,rfl,_⟩:=DataW.trod_string d hx;exact⟨_,_,_,rfl,hx⟩)
     |(rcases DataW.trod_slice d hx with⟨rfl,rfl⟩|⟨a,len,cap,el,rs,n,_,rfl,_⟩<;>exact⟨_,_,_,rfl,hx⟩)
   ·cases h
theorem aG{f:Nat}{t b:TypeId}{p a:Nat}{cs:List Value}{x:DataW H×List MemPlace}{k:IntKind}(d:P.underlying b=some (.int k))(h:lY P f t p=some b)(i:DataW.trod enc P w base spare held a t cs=some x):
  ∃n,cs[p]? =some (.int k n)/\(Lit.int k n).wf=true:=by
 obtain⟨v,m,y,hv,j⟩:=leaf f h i;obtain⟨n,c,_,e⟩:=DataW.trod_int d j;cases c
 exact⟨n,hv,e⟩
theorem gT{f:Nat}{t c:TypeId}{p a:Nat}{cs:List Value}{x:DataW H×List MemPlace}(e:P.underlying c=some .bool)(h:lY P f t p=some c)(i:DataW.trod enc P w base spare held a t cs=some x):
  ∃b,cs[p]? =some (.bool b):=by
 obtain⟨v,m,y,hv,j⟩:=leaf f h i;obtain⟨n,d,_⟩:=DataW.trod_bool e j;cases d
 exact⟨n,hv⟩
theorem gn{f:Nat}{t b:TypeId}{p a:Nat}{cs:List Value}{x:DataW H×List MemPlace}(e:P.underlying b=some .string)(h:lY P f t p=some b)(i:DataW.trod enc P w base spare held a t cs=some x):
  ∃s:ByteArray,cs[p]? =some (.string s)/\s.size<=maxLen:=by
 obtain⟨v,m,y,hv,j⟩:=leaf f h i;obtain⟨n,c,_,d⟩:=DataW.trod_string e j;cases c
 exact⟨n,hv,d⟩
end
structure SL {α:Type} (w:World) (sz:Nat) (enc:α->List Value) (A:Option Addr) (es:List α):Prop where
 cells:es≠ []->∃b off,A=some ⟨b,off,none⟩/\∀i e,es[i]? =some e->∀p u,(enc e)[p]? =some u->w.cell? ⟨b,off+(i*sz+p),none⟩=some u

section
variable {α:Type} {w w':World} {sz:Nat} {ec:α->List Value} {A:Option Addr} {es:List α}
theorem SL.nil:SL w sz ec A ([]:List α):=⟨λh=>absurd rfl h⟩
theorem SL.at_(h:SL w sz ec A es){i:Nat}{e:α}(a:es[i]? =some e):∃b off,A=some ⟨b,off,none⟩/\∀p u,(ec e)[p]? =some u->w.cell? ⟨b,off+(i*sz+p),none⟩=some u:=by obtain⟨b,off,c,d⟩:=h.cells (by rintro rfl;simp at a);exact⟨b,off,c,λp u f=>d i e a p u f⟩
theorem SL.bD(h:SL w sz ec A es)(j:∀p v,w.cell? p=some v->w'.cell? p=some v):SL w' sz ec A es:=
 ⟨λk=>by
  obtain⟨b,a,c,d⟩:=h.cells k;exact⟨b,a,c,λi e f p u l=>j _ _ (d i e f p u l)⟩⟩
theorem SL.below{B:Nat}(h:SL w sz ec A es)(b:Below B w w')(a:w.heap.size<=B):SL w' sz ec A es:=
 h.bD λp v hv=>by rw[b.cell (p:=p) (nX (World.block_lt_of_cell? w _ hv) a)];exact hv
theorem SL.take(h:SL w sz ec A es)(k:Nat):SL w sz ec A (es.take k):=
 ⟨λj=>by
  obtain⟨b,c,d,f⟩:=h.cells (by rintro rfl;simp at j);refine⟨b,c,d,λi e a p u l=>f i e ?_ p u l⟩;rw[qC]at a;split at a
  ·exact a
  ·cases a⟩
end

section
variable {H:Type} {enc:TypeId×Value->H} {P:Program} {w:World} {base:Nat} {spare:Nat->Bool} {held:Bool}
end
end Go.Opn
namespace Go.Apl
open Go Go.RowKit Go.ay Go.Opn
structure lx (g:Nat) (T:TypeId) (X E:List Value) (w w':World):Prop where
 os:w'.os=w.os
 tape:w'.tape=w.tape
 output:w'.output=w.output
 size:w.heap.size<=w'.heap.size
 block:∀k,k<w.heap.size->k≠g->w'.heap[k]? =w.heap[k]?
 row:∀cur:Array Value,w.heap[g]? =some (.cells cur T (0,0))->∃cur':Array Value,w'.heap[g]? =some (.cells cur' T (0,0))/\cur'.size=cur.size/\(cur.toList.take X.length=X->cur'.toList.take X.length=X)/\(cur.toList=X++E->cur'.toList=X++E)
section
variable {g:Nat} {T:TypeId} {X E:List Value}
theorem lx.refl(w:World):lx g T X E w w:=⟨rfl,rfl,rfl,aL _,λ_ _ _=>rfl,λa h=>⟨a,h,rfl,id,id⟩⟩
theorem lx.trans(a b c:World)(h:lx g T X E a b)(k:lx g T X E b c):lx g T X E a c:=
 ⟨k.os.trans h.os,k.tape.trans h.tape,k.output.trans h.output,fO h.size k.size,λi f j=>(k.block i (nX f h.size) j).trans (h.block i f j),λd r=>by
  obtain⟨l,n,o,p,q⟩:=h.row d r;obtain⟨m,s,t,u,v⟩:=k.row l n;exact⟨m,s,t.trans o,λe=>u (p e),λe=>v (q e)⟩⟩
theorem lx.grow{w w':World}(h:Below w.heap.size w w'):lx g T X E w w':=
 ⟨h.os,h.tape,h.output,h.size,λk c _=>h.block k c,λa b=>⟨a,(h.block g (iS.1 b).1).trans b,rfl,id,id⟩⟩
theorem lx.Jq{w w':World}{c a:Array Value}(b:w.grownBy w' (some g))(j:w.heap[g]? =some (.cells c T (0,0)))(e:w'.heap[g]? =some (.cells a T (0,0)))(n:a.size=c.size)
  (f:c.toList.take X.length=X->a.toList.take X.length=X) (i:c.toList=X++E->a.toList=X++E):lx g T X E w w':=
 ⟨b.os,b.tape,b.output,b.size,λk l m=>b.block k l (by simpa using m),λd h=>by rw[j]at h;cases h;exact⟨a,e,n,f,i⟩⟩
end
theorem Gl(a:Array Value)(X:List Value):(Apk.nU a 0 X).toList=X++a.toList.drop X.length:=by simp[Apk.nU]
theorem mn(a:Array Value)(X:List Value):(Apk.nU a 0 X).toList.take X.length=X:=by simp[Apk.nU]
theorem tJ(a:Array Value)(X E:List Value)(h:a.toList=X++E):(Apk.nU a 0 X).toList=X++E:=by rw[Gl a X,h];simp
theorem uz(a:Array Value)(X E:List Value)(h:a.toList.take X.length=X)(c:a.size=X.length+E.length):(Apk.nU a X.length E).toList=X++E:=by have b:a.toList.drop (X.length+E.length)= []:=List.drop_eq_nil_iff.2 (by simp;omega);simp only[Apk.nU,h,b,DS]

section
variable {α:Type} {ec:α->List Value} {sz:Nat}
theorem jZ(hz:∀e,(ec e).length=sz):∀l:List α,(l.flatMap ec).length=l.length*sz
 | []=>by simp
 |x::l=>by
  rw[BZ,fu,hz,jZ hz l,kq,Nat.add_mul];omega
theorem flat_get(hz:∀e,(ec e).length=sz):∀(l:List α) (j:Nat) (u:Value),(l.flatMap ec)[j]? =some u->∃i e p,l[i]? =some e/\(ec e)[p]? =some u/\j=i*sz+p
 | [],j,u,h=>by simp at h
 |x::l,j,u,h=>by
  rw[BZ]at h;by_cases c:j<sz
  ·rw[xL (by rw[hz];exact c)]at h;exact⟨0,x,j,rfl,h,by omega⟩
  ·rw[BW (by rw[hz];omega),hz]at h;obtain⟨i,e,p,a,b,d⟩:=flat_get hz l _ u h;exact⟨i+1,e,p,a,b,by rw[Nat.add_mul];omega⟩
theorem mF(hz:∀e,(ec e).length=sz):∀(l:List α) (i:Nat) (e:α) (p:Nat) (u:Value),l[i]? =some e->(ec e)[p]? =some u->(l.flatMap ec)[i*sz+p]? =some u
 | [],i,e,p,u,h,_=>by simp at h
 |x::l,0,e,p,u,h,hp=>by
  simp at h;subst h
  have:=(jS.1 hp).1;rw[BZ,Nat.zero_mul,nW,xL this];exact hp
 |x::l,i+1,e,p,u,h,hp=>by
  rw[BZ,BW (by rw[hz,Nat.add_mul];omega),hz]
  have:=mF hz l i e p u (by simpa using h) hp;rw[<-this];congr 1;rw[Nat.add_mul];omega
theorem cO{w:World}{b:Nat}{cur:Array Value}{T:TypeId}{l:List α}(hz:∀e,(ec e).length=sz)(a:w.heap[b]? =some (.cells cur T (0,0)))(c:∀(j:Nat) (u:Value),(l.flatMap ec)[j]? =some u->cur[j]? =some u):SL w sz ec (some ⟨b,0,none⟩) l:=
 ⟨λ_=>⟨b,0,rfl,λi e d p u f=>by
  have:=c _ u (mF hz l i e p u d f);simp[World.cell?,a,this]⟩⟩
theorem xg{w:World}{b off:Nat}{l:List α}(hz:∀e,(ec e).length=sz)(h:SL w sz ec (some ⟨b,off,none⟩) l):∀j u,(l.flatMap ec)[j]? =some u->w.cell? ((⟨b,off,none⟩:Addr).add j)=some u:=by
 intro j u m;obtain⟨i,e,p,a,f,rfl⟩:=flat_get hz l j u m;obtain⟨n,c,d,k⟩:=h.cells (by rintro rfl;simp at a);cases d
 rw[addr_add];exact k i e a p u f
theorem qH{P:Program}(w:World)(t ty e:TypeId)(i:TypeInfo)(z:P.underlying t=some (.slice e))(y:P.info? e=some i)(s:i.size=sz)(hz:∀x,(ec x).length=sz)(B:∀x,∀u∈ec x,u.oneCell'=true)
  (g n cap:Nat) (cur:Array Value) (q:w.heap[g]? =some (.cells cur e (0,0))) (A:Option Addr) (c:Nat) (l:List α) (r:SL w sz ec A l) (d:n+l.length<=cap) (o:cur.size=cap*sz):
  ∃w',(Builtin.append_ #[t,t] ty #[.slice (some ⟨g,0,none⟩) n cap, .slice A l.length c]).run P w= .ok (.slice (some ⟨g,0,none⟩) (n+l.length) cap) w'/\w.grownBy w' (some g)/\w'.heap[g]? =some (.cells (Apk.nU cur (n*sz) (l.flatMap ec)) e (0,0)):=by
 cases A with
 |some a=>
  have f:∀j u,(l.flatMap ec)[j]? =some u->w.cell? (a.add j)=some u:=by intro j u m;obtain⟨i,x,p,G,_⟩:=flat_get hz l j u m;obtain⟨b,v,h,_⟩:=r.cells (by rintro rfl;simp at G);injection h with h;subst h;exact xg hz r j u m
  refine⟨_,Apk.lJ (P:=P) w t ty e i sz z y s g n cap cur q a l.length c (l.flatMap ec) (jZ hz l) f (λu m=> ?_) d o, ?_,setRow_heap w g cur _ e _ q⟩
  ·obtain⟨x,_,F⟩:=PT.1 m;exact B x u F
  ·exact⟨rfl,rfl,rfl,by simp[World.setRow],λk I D=>by
    have:k≠g:=by simpa using D
    simp only[World.setRow,vS];rw[if_neg (nq this)]⟩
 |none=>
  have C:l= []:=by
   cases l with
   |nil=>rfl
   |cons x l=>obtain⟨b,v,h,_⟩:=r.cells (by simp);cases h
  subst C;refine⟨w, ?_,⟨rfl,rfl,rfl,aL _,λ_ _ _=>rfl⟩, ?_⟩
  ·simp at d;simp[Builtin.append_,run_underlying z,sizeOf,typeInfo,y,Builtin.lenOf,d,run_firstCells_none,storeCells]
  ·rw[q];simp[Apk.nU]
end
theorem nt{α:Type}{ec:α->List Value}{sz:Nat}{P:Program}(w:World)(base:Nat)(t ty e:TypeId)(i:TypeInfo)(z:Value)(bytes:Nat)(I:P.underlying t=some (.slice e))(C:P.info? e=some i)(hz:i.zero=some z)
  (o:i.size=sz) (B:i.bytes=bytes) (J:z.cells.size=sz) (G:0<sz) (k:∀x,(ec x).length=sz) (Q:∀x,∀u∈ec x,u.oneCell'=true)
  (v:Value) (n:Nat) (M:List Value) (d:w.ownsRow base e sz v n M) (A:Option Addr) (c:Nat) (l:List α) (F:SL w sz ec A l)
  (y:n+l.length<=maxLen) (f:(n+l.length)*bytes<=140737488355328) (h:base<=w.heap.size):
  ∃q w',(Builtin.append_ #[t,t] ty #[v, .slice A l.length c]).run P w= .ok q w'/\w'.ownsRow base e sz q (n+l.length) (M++l.flatMap ec)/\w.grownBy w' v.ownBlock/\(q.ownBlock=v.ownBlock\/q.ownBlock=some w.heap.size):=by
 cases A with
 |some a=>
  have m:∀(j:Nat) u,(l.flatMap ec)[j]? =some u->w.cell? (a.add j)=some u:=by intro j u s;obtain⟨i,x,p,K,_⟩:=flat_get k l j u s;obtain⟨b,L,r,_⟩:=F.cells (by rintro rfl;simp at K);injection r with r;subst r;exact xg k F j u s
  obtain⟨q,w',K,U,V,_,W⟩:=run_append_own_at (P:=P) w base t ty e i z sz bytes I C hz o B J G v n M d a l.length c (l.flatMap ec) (jZ k l) m (λu s=>by
   obtain⟨x,_,S⟩:=PT.1 s;exact Q x u S) y f h
  exact⟨q,w',K,U,V,W⟩
 |none=>
  have R:l= []:=by
   cases l with
   |nil=>rfl
   |cons x l=>obtain⟨b,L,r,_⟩:=F.cells (by simp);cases r
  subst R;refine⟨v,w, ?_,by simpa using d,⟨rfl,rfl,rfl,aL _,λ_ _ _=>rfl⟩, .inl rfl⟩;rcases d.2 with⟨rfl,rfl⟩|⟨g,N,O,rfl,_,_,D,_⟩
  ·simp[Builtin.append_,run_underlying I,sizeOf,typeInfo,C,Builtin.lenOf,run_firstCells_none]
  ·simp[Builtin.append_,run_underlying I,sizeOf,typeInfo,C,Builtin.lenOf,D,run_firstCells_none,storeCells]
theorem dF{α:Type}{ec:α->List Value}{sz:Nat}{P:Program}{w:World}{ops:Array Oper}{rest:List Oper}{o:Oper}{a:Act}{Q:Exit->Act->World->Prop}(r:o.guard=none)(s x:Operand)(t:TypeId)
  (N:o.op= .call {callee:= .builtin .append,args:= #[s,x],argTypes:= #[t,t]})
  (base:Nat) (e:TypeId) (i:TypeInfo) (z:Value) (bytes:Nat) (S:P.underlying t=some (.slice e)) (M:P.info? e=some i) (hz:i.zero=some z)
  (f:i.size=sz) (p:i.bytes=bytes) (C:z.cells.size=sz) (B:0<sz) (q:∀x,(ec x).length=sz) (F:∀x,∀u∈ec x,u.oneCell'=true)
  (v:Value) (n:Nat) (D:List Value) (R:a.eval s=v) (k:w.ownsRow base e sz v n D)
  (A:Option Addr) (c:Nat) (l:List α) (U:a.eval x= .slice A l.length c) (y:SL w sz ec A l)
  (m:n+l.length<=maxLen) (b:(n+l.length)*bytes<=140737488355328) (d:base<=w.heap.size)
  (h:∀j w',w'.ownsRow base e sz j (n+l.length) (D++l.flatMap ec)->w.grownBy w' v.ownBlock->(j.ownBlock=v.ownBlock\/j.ownBlock=some w.heap.size)->wpList P ops Q rest (a.put o.dst j) w'):
  wpList P ops Q (o::rest) a w:=by
 refine wpList_plain r λK L=> ?_
 obtain⟨j,w',O,G,I,J⟩:=nt (P:=P) w base t o.type e i z bytes S M hz f p C B q F v n D k A c l y m b d;unfold Oper.wp execOp;simp only[N,resolve,invoke,builtin,Sem.run_bind,Sem.run_pure,Result.andThen_ok,List.map_toArray,xJ,NP,R,U,O];exact L _ _ (h j w' G I J)
theorem tm{α:Type}{ec:α->List Value}{sz:Nat}{w:World}{base:Nat}{e:TypeId}{v:Value}{l:List α}(b:∀x,(ec x).length=sz)(h:w.ownsRow base e sz v l.length (l.flatMap ec))(o:l≠ []):
  ∃g cap cur,v= .slice (some ⟨g,0,none⟩) l.length cap/\base<=g/\w.heap[g]? =some (.cells cur e (0,0))/\l.length<=cap/\cap<=maxLen/\cur.toList.take (l.length*sz)=l.flatMap ec/\SL w sz ec (some ⟨g,0,none⟩) l:=by
 obtain⟨_,⟨_,f⟩|⟨g,cap,cur,i,k,c,m,n,p,d⟩⟩:=h
 ·exact absurd (Ky.1 f) o
 ·refine⟨g,cap,cur,i,k,c,m,n,d,cO b c (λj u a=> ?_)⟩;rw[<-d]at a;rw[qC]at a;split at a
  ·simpa using a
  ·cases a
theorem JX{w:World}{g k:Nat}{cur:Array Value}{T:TypeId}{v:Value}(b:w.heap[g]? =some (.cells cur T (0,0))):(w.setCell ⟨g,k,none⟩ v).heap[g]? =some (.cells (cur.toList.set k v).toArray T (0,0)):=by
 have a:ay w g cur.toList T:=by unfold ay;simpa using b
 exact a.set k v
theorem Bp{w:World}{g k:Nat}{cur:Array Value}{T:TypeId}(b:w.heap[g]? =some (.cells cur T (0,0))):w.frozen? ⟨g,k,none⟩=false:=by
 have a:ay w g cur.toList T:=by unfold ay;simpa using b
 exact a.frozen k
theorem oC{P:Program}{o:Oper}{ρ:Operand->Value}{w:World}{ty:TypeId}{x:Operand}{g:Nat}{t:TypeId}{cs:List Value}{a:TypeDesc}(e:o.op= .load ty x)(h:ρ x= .pointer (some ⟨g,0,none⟩))(c:ay w g cs t)
  (f:P.underlying ty=some a) (b:(match a with| .struct _| .array _ _=>true|_=>false)=true) (d:(P.info? ty).map (·.size)=some cs.toArray.size):(execOp ρ o).run P w= .ok (.value (.agg cs.toArray)) w:=by
 unfold execOp;simp only[e,h,Instr.loadAt,Instr.sureAddr,Sem.run_bind,Sem.run_pure,Result.andThen_ok,run_loadVar_row w g t ty cs.toArray (0,0) a c f b d]
theorem fB{P:Program}{o:Oper}{ρ:Operand->Value}{w w':World}{t:TypeId}{x:Operand}{v:Value}(a:o.op= .buildSlice t 1 #[(0,x)])(h:(Instr.buildSlice t 1 #[(0,ρ x)]).run P w= .ok v w'):(execOp ρ o).run P w= .ok (.value v) w':=by unfold execOp;simp[a,h]
theorem dL{P:Program}{o:Oper}{ρ:Operand->Value}{w w':World}{t:TypeId}{s x:Operand}{u y v:Value}(a:o.op= .call {callee:= .builtin .append,args:= #[s,x],argTypes:= #[t,t]})(b:ρ s=u)(c:ρ x=y)
  (h:(Builtin.append_ #[t,t] o.type #[u,y]).run P w= .ok v w'):(execOp ρ o).run P w= .ok (.value v) w':=by
 unfold execOp;simp only[a,resolve,invoke,builtin,Sem.run_bind,Sem.run_pure,Result.andThen_ok,List.map_toArray,xJ,NP,b,c,h]
end Go.Apl
namespace Go.Proofs
open Go.Shelf
def Tryz.qR:Go.Shelf.Ren:=⟨fun|169=>60|n=>n,fun|70=>116|9=>9|0=>0|72=>119|37=>117|127=>174|3=>3|5=>5|n=>n,fun|n=>n⟩
theorem Tryz.LS:Go.Proofs.Lays.n169 Tryz.prog Tryz.qR:=by repeat' first|kernel_rfl|decide|intro _|constructor
theorem Tryz.nZ:Builder.Extra Tryz.prog Tryz.qR:=by repeat' first|kernel_rfl|decide|intro _|constructor
open Go.RowKit in
theorem Tryz.Builder_String_any_k(B b:Nat)(l:List UInt8)(w:World)(h:Lib.IsBuilderF 119 5 B b (Lib.byteCells l) w)(a:B<=w.heap.size):
  Calls Tryz.prog 60 #[.pointer (some ⟨b,0,none⟩)] w λe w'=>e= .returned (.string ⟨l.toArray⟩)/\(Lib.IsBuilderF 119 5 B b (Lib.byteCells l) w'/\Below B w w'/\Lib.OthersKept 5 (some b) w w'):=Any.Builder_String_any_k Tryz.LS Tryz.nZ B b l w h a
def Tryz.yI:Go.Shelf.Ren:=⟨fun|129=>137|n=>n,fun|53=>228|3=>3|4=>4|46=>172|5=>5|9=>9|n=>n,fun|n=>n⟩
theorem Tryz.LQ:Go.Proofs.Lays.n129 Tryz.prog Tryz.yI:=by repeat' first|kernel_rfl|decide|intro _|constructor
theorem Tryz.bits_Len64(x:Int)(w:World)(a:0<=x)(b:x<=18446744073709551615):
  Calls Tryz.prog 137 #[.int .u64 x] w λe w'=>e= .returned (.int .i64 (Lib.bitLen x.toNat))/\w'=w:=Any.bits_Len64 Tryz.LQ x w a b
def Tryz.wJ:Go.Shelf.Ren:=⟨fun|171=>59|243=>94|246=>140|283=>203|284=>204|285=>205|286=>206|129=>137|317=>242|318=>243|319=>244|320=>245|337=>275|338=>276|n=>n,fun|3=>3|9=>9|2=>2|4=>4|171=>295|0=>0|53=>228|37=>117|5=>5|173=>297|212=>334|51=>226|20=>20|213=>335|46=>172|232=>201|233=>372|n=>n,fun|17=>1|18=>5|19=>6|n=>n⟩
theorem Tryz.I0:Go.Proofs.LaysM.n171 Tryz.prog Tryz.wJ:=by repeat' first|kernel_rfl|decide|intro _|constructor
open Go.RowKit Go.Sort Go.Lib in
theorem Tryz.strconv_Itoa(n : Int)(b : -9223372036854775808 <= n)(c : n <= 9223372036854775807)(w : World)(a : Lib.TabIs Tryz.prog w "internal/strconv.uint64pow10" .u64 Lib.pow10Tab) :
  Calls Tryz.prog 59 #[.int .i64 n] w λe w'=>e= .returned (.string ⟨(Lib.itoa n).toArray⟩)/\∃k d,w'=grow (w.drewN k) d:=Any.strconv_Itoa Tryz.I0 n b c w a
def Tryz.wK:Go.Shelf.Ren:=⟨fun|176=>122|249=>186|288=>236|283=>203|284=>204|285=>205|286=>206|129=>137|317=>242|318=>243|319=>244|320=>245|337=>275|338=>276|n=>n,fun|37=>117|2=>2|3=>3|53=>228|4=>4|9=>9|171=>295|0=>0|173=>297|212=>334|51=>226|5=>5|20=>20|213=>335|46=>172|232=>201|233=>372|n=>n,fun|17=>1|18=>5|19=>6|n=>n⟩
theorem Tryz.I5:Go.Proofs.LaysM.n176 Tryz.prog Tryz.wK:=by repeat' first|kernel_rfl|decide|intro _|constructor
open Go.RowKit Go.Sort Go.Lib in
theorem Tryz.strconv_AppendInt_10(B n : Nat)(i : Int)(k : -9223372036854775808 <= i)(l : i <= 9223372036854775807)(f : Value)(h : List Value)(w : World)(b : w.ownsRow B 5 1 f n h)(d : B <= w.heap.size)(a : n + 21 <= 140737488355328)(c : Lib.TabBelow Tryz.prog B w "internal/strconv.uint64pow10" .u64 Lib.pow10Tab) :
  Calls Tryz.prog 122 #[f, .int .i64 i, .int .i64 10] w λe w'=> ∃j,e= .returned j/\w'.ownsRow B 5 1 j (n+(Lib.itoa i).length) (h++Lib.byteCells (Lib.itoa i))/\Below B w w'/\Lib.OthersKept 5 none w w':=Any.strconv_AppendInt_10 Tryz.I5 B n i k l f h w b d a c
def Tryz.qQ:Go.Shelf.Ren:=⟨fun|105=>223|212=>262|99=>111|165=>263|166=>57|170=>264|169=>60|263=>281|264=>282|206=>174|240=>93|241=>283|276=>139|277=>289|n=>n,fun|9=>9|3=>3|4=>4|20=>20|0=>0|46=>172|109=>347|5=>5|72=>119|76=>122|51=>226|146=>363|53=>228|148=>365|70=>116|37=>117|75=>121|127=>174|164=>229|80=>127|n=>n,fun|n=>n⟩
theorem Tryz.LP:Go.Proofs.Lays.n105 Tryz.prog Tryz.qQ:=by repeat' first|kernel_rfl|decide|intro _|constructor
theorem Tryz.nY:Builder.Extra Tryz.prog Tryz.qQ:=by repeat' first|kernel_rfl|decide|intro _|constructor
open Go.RowKit Go.Lib in
theorem Tryz.strings_Repeat(s:ByteArray)(c:Nat)(w:World)(b:c<=9223372036854775807)(a:s.size*c<=140737488355328):
  Calls Tryz.prog 223 #[.string s, .int .i64 c] w λe w'=>e= .returned (.string ⟨(Lib.repeatL s.data.toList c).toArray⟩)/\Below w.heap.size w w':=Any.strings_Repeat Tryz.LP Tryz.nY s c w b a
end Go.Proofs
namespace Go.Proofs.YtkmbmfengcdmoaaGreatDoor
open Go.Shelf

def Ol:Go.Shelf.Ren:=⟨fun|166=>57|167=>58|240=>93|276=>139|n=>n,fun|0=>0|3=>3|4=>4|5=>5|9=>9|20=>20|37=>117|70=>116|72=>119|75=>121|164=>229|80=>127|n=>n,fun|n=>n⟩
theorem xV:Go.Proofs.Lays.n166 Tryz.prog Ol:= {
 mixed:=by kernel_rfl
 f166:=Tryz.func57.trans (congrArg some (by kernel_rfl))
 f240:=Tryz.func93.trans (congrArg some (by kernel_rfl))
 f276:=Tryz.func139.trans (congrArg some (by kernel_rfl))
 t0:=Tryz.underlying0
 a0:=Tryz.isAgg0
 z0:=Tryz.sizeOf0
 v0:=Tryz.zeroValue0
 t3:=Tryz.underlying3
 a3:=Tryz.isAgg3
 z3:=Tryz.sizeOf3
 v3:=Tryz.zeroValue3
 t4:=Tryz.underlying4
 a4:=Tryz.isAgg4
 z4:=Tryz.sizeOf4
 v4:=Tryz.zeroValue4
 t9:=Tryz.underlying9
 a9:=Tryz.isAgg9
 z9:=Tryz.sizeOf9
 v9:=Tryz.zeroValue9
 t20:=Tryz.underlying20
 a20:=Tryz.isAgg20
 z20:=Tryz.sizeOf20
 v20:=Tryz.zeroValue20
 t37:=Tryz.underlying117
 a37:=Tryz.isAgg117
 z37:=Tryz.sizeOf117
 v37:=Tryz.zeroValue117
 t70:=Tryz.underlying116
 a70:=Tryz.isAgg116
 z70:=Tryz.sizeOf116
 v70:=Tryz.zeroValue116
 t72:=Tryz.underlying119
 a72:=Tryz.isAgg119
 z72:=Tryz.sizeOf119
 v72:=Tryz.zeroValue119
 t75:=Tryz.underlying121
 a75:=Tryz.isAgg121
 z75:=Tryz.sizeOf121
 v75:=Tryz.zeroValue121
 t164:=Tryz.underlying229
 a164:=Tryz.isAgg229
 z164:=Tryz.sizeOf229
 v164:=Tryz.zeroValue229}
theorem Hn:Go.Proofs.Lays.n167 Tryz.prog Ol:= {
 mixed:=by kernel_rfl
 f167:=Tryz.func58.trans (congrArg some (by kernel_rfl))
 f240:=Tryz.func93.trans (congrArg some (by kernel_rfl))
 f276:=Tryz.func139.trans (congrArg some (by kernel_rfl))
 t0:=Tryz.underlying0
 a0:=Tryz.isAgg0
 z0:=Tryz.sizeOf0
 v0:=Tryz.zeroValue0
 t4:=Tryz.underlying4
 a4:=Tryz.isAgg4
 z4:=Tryz.sizeOf4
 v4:=Tryz.zeroValue4
 t5:=Tryz.underlying5
 a5:=Tryz.isAgg5
 z5:=Tryz.sizeOf5
 v5:=Tryz.zeroValue5
 t9:=Tryz.underlying9
 a9:=Tryz.isAgg9
 z9:=Tryz.sizeOf9
 v9:=Tryz.zeroValue9
 t20:=Tryz.underlying20
 a20:=Tryz.isAgg20
 z20:=Tryz.sizeOf20
 v20:=Tryz.zeroValue20
 t37:=Tryz.underlying117
 a37:=Tryz.isAgg117
 z37:=Tryz.sizeOf117
 v37:=Tryz.zeroValue117
 t70:=Tryz.underlying116
 a70:=Tryz.isAgg116
 z70:=Tryz.sizeOf116
 v70:=Tryz.zeroValue116
 t72:=Tryz.underlying119
 a72:=Tryz.isAgg119
 z72:=Tryz.sizeOf119
 v72:=Tryz.zeroValue119
 t75:=Tryz.underlying121
 a75:=Tryz.isAgg121
 z75:=Tryz.sizeOf121
 v75:=Tryz.zeroValue121
 t164:=Tryz.underlying229
 a164:=Tryz.isAgg229
 z164:=Tryz.sizeOf229
 v164:=Tryz.zeroValue229}
theorem Af:Builder.Extra Tryz.prog Ol:= {
 sizeBuilder:=by kernel_rfl
 liesBuilder:=by kernel_rfl
 t5:=Tryz.underlying5
 a5:=Tryz.isAgg5
 z5:=Tryz.sizeOf5
 v5:=Tryz.zeroValue5
 infoByte:=by kernel_rfl
 cellsByte:=by kernel_rfl
 sizeByte:=by kernel_rfl
 neB5:=by decide}
open Go.RowKit
def lH(w0:World)(B b:Nat)(l:List UInt8)(w:World):Prop:=Lib.IsBuilderF 119 5 B b (Lib.byteCells l) w/\Below B w0 w/\B<=w0.heap.size
theorem lH.bl{w0 w:World}{B b:Nat}{l:List UInt8}(h:lH w0 B b l w):Below B w0 w:=h.2.1
theorem lH.str{w0 w:World}{B b:Nat}{l:List UInt8}(h:lH w0 B b l w)(s:ByteArray)(k:l.length+s.size<=140737488355328):
  Calls Tryz.prog 57 #[.pointer (some ⟨b,0,none⟩), .string s] w λe w'=>e= .returned (.tuple #[.int .i64 s.size, .nilIface])/\lH w0 B b (l++s.data.toList) w':=by
 obtain⟨f,a,c⟩:=h;refine(Any.Builder_WriteString_k xV Af B b (Lib.byteCells l) s w f (by simpa[Lib.byteCells]using k) (fO c a.size)).mono ?_;rintro e w' ⟨rfl,i,j,_⟩;refine⟨rfl, .inr ?_,a.trans j,c⟩;have d:Lib.byteCells (l++s.data.toList)=Lib.byteCells l++Lib.strCells s:=by simp[Lib.byteCells,Lib.strCells]
 rw[d];exact i
theorem lH.byte{w0 w:World}{B b:Nat}{l:List UInt8}(h:lH w0 B b l w)(c:UInt8)(m:l.length+1<=140737488355328):
  Calls Tryz.prog 58 #[.pointer (some ⟨b,0,none⟩), .int .u8 c.toNat] w λe w'=>e= .returned .nilIface/\lH w0 B b (l++ [c]) w':=by
 obtain⟨i,a,d⟩:=h;refine(Any.Builder_WriteByte_k Hn Af B b (Lib.byteCells l) c.toNat w i (by simpa[Lib.byteCells]using m) (fO d a.size)).mono ?_;rintro e w' ⟨rfl,j,k,_⟩;refine⟨rfl, .inr ?_,a.trans k,d⟩;have f:Lib.byteCells (l++ [c])=Lib.byteCells l++ [.int .u8 c.toNat]:=by simp[Lib.byteCells]
 rw[f];exact j
theorem lH.read{w0 w:World}{B b:Nat}{l:List UInt8}(h:lH w0 B b l w):
  Calls Tryz.prog 60 #[.pointer (some ⟨b,0,none⟩)] w λe w'=>e= .returned (.string ⟨l.toArray⟩)/\lH w0 B b l w':=by
 obtain⟨d,a,c⟩:=h;refine(Tryz.Builder_String_any_k B b l w d (fO c a.size)).mono ?_;rintro e w' ⟨rfl,f,i,_⟩;exact⟨rfl,f,a.trans i,c⟩
theorem lH.grow{w0 w w':World}{B b:Nat}{l:List UInt8}(h:lH w0 B b l w)(d:Below w.heap.size w w'):lH w0 B b l w':=by
 obtain⟨o,i,j⟩:=h;refine⟨?_,i.trans (d.mono (fO j i.size)),j⟩;have f:∀p,Lib.BuilderAtF 119 5 B b p (Lib.byteCells l) w->Lib.BuilderAtF 119 5 B b p (Lib.byteCells l) w':=by
  rintro p ⟨t,v,m,⟨u,e⟩,x⟩;refine⟨t,v,(d.block b (iS.1 m).1).trans m,⟨u, ?_⟩,x⟩;rcases e with e|⟨g,a,c,n,q,r,k,s⟩
  ·exact .inl e
  ·exact .inr ⟨g,a,c,n,q,r,(d.block g (iS.1 k).1).trans k,s⟩
 exact o.imp (f _) (f _)
theorem lH.new(w0 w:World)(B:Nat)(b:Below B w0 w)(a:B<=w0.heap.size):lH w0 B w.heap.size [] (w.alloc (.cells #[.pointer none, .slice none 0 0] 119)):=by refine⟨.inl ⟨fO a b.size, .slice none 0 0,(by show(w.heap.push _)[w.heap.size]? =_;simp), ?_,by simp[Value.ownBlock]⟩,b.alloc (fO a b.size) _,a⟩;exact⟨rfl, .inl ⟨rfl,rfl⟩⟩
end Go.Proofs.YtkmbmfengcdmoaaGreatDoor
namespace Go.Pa
open Go
def rp(l:List UInt8):Nat:=l.foldl (λa d=>a*10+(d.toNat-48)) 0
theorem pY(l:List UInt8)(d:UInt8):rp (l++ [d])=rp l*10+(d.toNat-48):=by simp[rp]
theorem kE(d:Nat)(h:d<10):(UInt8.ofNat (48+d)).toNat=48+d:=by rw[UInt8.toNat_ofNat'];omega
theorem ga(m:Nat):∀u,u<m->rp (Lib.decDigits u)=u/\(∀b∈Lib.decDigits u,48<=b.toNat/\b.toNat<=57)/\Lib.decDigits u≠ []:=by
 induction m with
 |zero=>intro u f;omega
 |succ m ih=>
  intro u f;by_cases h:u<10
  ·rw[Lib.decDigits_one h];refine⟨?_, ?_,by simp⟩
   ·show 0*10+((UInt8.ofNat (48+u)).toNat-48)=u;rw[kE u h];omega
   ·intro b a;rw[vU]at a;subst a;rw[kE u h];omega
  ·rw[Lib.decDigits,dif_neg h];obtain⟨d,e,_⟩:=ih (u / 10) (by omega);have c:=kE (u % 10) (by omega);refine⟨?_, ?_,by simp⟩
   ·rw[pY,d,c];omega
   ·intro b a;rcases zT.1 a with a|a
    ·exact e b a
    ·rw[vU]at a;subst a;rw[c];omega
theorem jV(u:Nat):rp (Lib.decDigits u)=u/\(∀b∈Lib.decDigits u,48<=b.toNat/\b.toNat<=57)/\Lib.decDigits u≠ []:=ga (u+1) u (by omega)
end Go.Pa
