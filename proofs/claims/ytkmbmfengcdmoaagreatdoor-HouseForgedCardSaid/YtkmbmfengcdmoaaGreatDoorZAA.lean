/-
 DERIVED: THE SHELF's CONTRACTS AT THIS DUMP, IN PLAIN WORDS (tools/lay-plain.mjs out of 'YtkmbmfengcdmoaaGreatDoorShelfSoft.lean', which tools/lay-shelf.mjs wrote): THE SAME DECLARATIONS UNDER THE SAME NAMES: 'import', 'namespace', 'open', 'def', 'theorem' AND NOTHING ELSE: no command of the shelf's: FOR A HAND-IN. Each laying: the table of numbers ('.._ren') and one theorem, a field a fact of the dump's own or the kernel's comparison; each contract: ONE APPLICATION.
-/
import Derived.Test.YtkmbmfengcdmoaaGreatDoorFree
import Derived.Test.YtkmbmfengcdmoaaGreatDoorA0
import Derived.Deep.Slices
import Derived.ChangeSame
import Derived.WideShapes
import Derived.OpenShut
import Derived.Below
import Derived.WalkKit
import Derived.Laws.AppendOwn
import Derived.Test.YtkmbmfengcdmoaaGreatDoorApk
import Derived.Test.YtkmbmfengcdmoaaGreatDoorBlk
import Derived.Shelf.Strings.Builder1
import Derived.Shelf.Strings.Builder2
import Derived.Shelf.Small.Bits
import Derived.Shelf.Small.Strs
import Derived.Shelf.Strings.BuilderF
import Derived.Shelf.Strings.BuilderK
import Derived.Shelf.Strconv.Atoi
import Derived.Shelf.Strconv.Itoa0
import Derived.Shelf.Strconv.Itoa1
import Derived.Shelf.LaysM
import Derived.Shelf.Strconv.Itoa2
import Derived.Shelf.Strconv.Itoa3
import Derived.Shelf.Strconv.AtoiErrFast
import Derived.Shelf.Strconv.ParseIntEmpty
import Derived.Shelf.Strconv.AtoiFail
import Derived.Shelf.Strconv.Clone
import Derived.Shelf.Strconv.SyntaxError
import Derived.Shelf.LaysC
import Derived.Shelf.Strconv.ToError
import Derived.Shelf.Strconv.Lower
import Derived.Shelf.Strconv.ParseUint10
import Derived.Shelf.Strconv.ParseUint10Empty
import Derived.Shelf.Strconv.ParseUint10Any
import Derived.Shelf.Strconv.ParseInt10
import Derived.Shelf.Strconv.AtoiLong
import Derived.Shelf.Strconv.AtoiInnerAll
import Derived.Shelf.Strconv.RangeError
import Derived.Shelf.Strconv.ToErrorRange
import Derived.Shelf.Strconv.AtoiAll
import Derived.Shelf.Strconv.ErrVarAll
import Derived.Shelf.Strings.Search1
import Derived.Shelf.Strings.Search2
import Derived.Shelf.Strings.Cut
import Derived.Shelf.Strings.Shaped
import Derived.Shelf.Strconv.AppendUint10
import Derived.Shelf.Strconv.AppendInt10
import Derived.Shelf.Strconv.AppendIntPublic10
import Derived.Shelf.Strings.Prefix
import Derived.Shelf.Bits.Mul64
import Derived.Shelf.Strings.Repeat
import Derived.Ground.Names2Prog
import Derived.Shelf.Slices.Clone
import Derived.Ground.SlgnProg
import Derived.Shelf.SlicesE.Clone
import Derived.Ground.SlgfProg
import Derived.Shelf.SlicesE.IndexFunc
import Derived.Ground.SlsfProg
import Derived.Shelf.SlSortCmp.Insertion
import Derived.Test.YtkmbmfengcdmoaaGreatDoorProg
set_option linter.all false

namespace Go.Opn
open Go Go.RowKit Go.ChangeShapes Go.WideShapes Go.Deep
def lY(P:Program):Nat->TypeId->Nat->Option TypeId
 |0,_,_=>none
 |f+1,t,p=>
  match P.underlying t with
  |some (.struct fs)=>fs.toList.findSome? λfl=>if fl.offset<=p/\p<fl.offset+P.cellsOf fl.type then lY P f fl.type (p-fl.offset)else none
  |some (.int _)=>if p=0 then some t else none
  |some .bool=>if p=0 then some t else none
  |some .string=>if p=0 then some t else none
  |some (.slice _)=>if p=0 then some t else none
  |_=>none

section
variable {H:Type} {enc:TypeId×Value->H} {P:Program} {w:World} {base:Nat} {spare:Nat->Bool} {held:Bool}

theorem leaf:∀(f:Nat) {t t':TypeId} {p fuel:Nat} {cs:List Value} {x:DataW H×List MemPlace},lY P f t p=some t'->DataW.trod enc P w base spare held fuel t cs=some x->
  ∃v m y,cs[p]? =some v/\DataW.trod enc P w base spare held m t' [v]=some y
 |0,_,_,_,_,_,_,h,_=>by simp[lY]at h
 |f+1,t,t',p,fuel,cs,x,h,hx=>by
  unfold lY at h;split at h
  ·rename_i fs ht;obtain⟨fl,hm,hfl⟩:=List.exists_of_findSome?_eq_some h;split at hfl
   ·rename_i hp;obtain⟨xs,n,_,_,_,hxl,hg⟩:=DataW.trod_struct ht hx;obtain⟨i,hi⟩:=NQ.1 hm;have hi':fs[i]? =some fl:=by simpa using hi
    have h1:=hg i fl hi';have hil:i<xs.length:=by rw[hxl];exact(iS.1 hi').1
    rw[eH hil]at h1;obtain⟨v,m,y,hv,hy⟩:=leaf f hfl h1;refine⟨v,m,y, ?_,hy⟩;rw[Sj (by omega),GI]at hv;rw[<-hv];congr 1;omega
   ·cases hfl
  all_goals first|cases h|skip
  all_goals
   rename_i ht;split at h
   ·rename_i hp;subst hp;cases h
    first
     |(obtain⟨n,rfl,rfl,_⟩:=DataW.trod_int ht hx;exact⟨_,_,_,rfl,hx⟩)
     |(obtain⟨n,rfl,rfl⟩:=DataW.trod_bool ht hx;exact⟨_,_,_,rfl,hx⟩)
     |(obtain⟨n,rfl,rfl,_⟩:=DataW.trod_string ht hx;exact⟨_,_,_,rfl,hx⟩)
     |(rcases DataW.trod_slice ht hx with⟨rfl,rfl⟩|⟨a,len,cap,el,rs,n,_,rfl,_⟩<;>exact⟨_,_,_,rfl,hx⟩)
   ·cases h
theorem aG{f:Nat}{t t':TypeId}{p fuel:Nat}{cs:List Value}{x:DataW H×List MemPlace}{k:IntKind}(ht:P.underlying t'=some (.int k))(h:lY P f t p=some t')(hx:DataW.trod enc P w base spare held fuel t cs=some x):
  ∃n,cs[p]? =some (.int k n)/\(Lit.int k n).wf=true:=by
 obtain⟨v,m,y,hv,hy⟩:=leaf f h hx;obtain⟨n,hn,_,hw⟩:=DataW.trod_int ht hy;cases hn
 exact⟨n,hv,hw⟩
theorem gT{f:Nat}{t t':TypeId}{p fuel:Nat}{cs:List Value}{x:DataW H×List MemPlace}(ht:P.underlying t'=some .bool)(h:lY P f t p=some t')(hx:DataW.trod enc P w base spare held fuel t cs=some x):
  ∃b,cs[p]? =some (.bool b):=by
 obtain⟨v,m,y,hv,hy⟩:=leaf f h hx;obtain⟨n,hn,_⟩:=DataW.trod_bool ht hy;cases hn
 exact⟨n,hv⟩
theorem gn{f:Nat}{t t':TypeId}{p fuel:Nat}{cs:List Value}{x:DataW H×List MemPlace}(ht:P.underlying t'=some .string)(h:lY P f t p=some t')(hx:DataW.trod enc P w base spare held fuel t cs=some x):
  ∃s:ByteArray,cs[p]? =some (.string s)/\s.size<=maxLen:=by
 obtain⟨v,m,y,hv,hy⟩:=leaf f h hx;obtain⟨n,hn,_,hs⟩:=DataW.trod_string ht hy;cases hn
 exact⟨n,hv,hs⟩
end
structure SL {α:Type} (w:World) (sz:Nat) (enc:α->List Value) (A:Option Addr) (es:List α):Prop where
 cells:es≠ []->∃b off,A=some ⟨b,off,none⟩/\∀i e,es[i]? =some e->∀p u,(enc e)[p]? =some u->w.cell? ⟨b,off+(i*sz+p),none⟩=some u

section
variable {α:Type} {w w':World} {sz:Nat} {ec:α->List Value} {A:Option Addr} {es:List α}
theorem SL.nil:SL w sz ec A ([]:List α):=⟨λh=>absurd rfl h⟩
theorem SL.at_(h:SL w sz ec A es){i:Nat}{e:α}(hi:es[i]? =some e):∃b off,A=some ⟨b,off,none⟩/\∀p u,(ec e)[p]? =some u->w.cell? ⟨b,off+(i*sz+p),none⟩=some u:=by obtain⟨b,off,hA,hc⟩:=h.cells (by rintro rfl;simp at hi);exact⟨b,off,hA,λp u hu=>hc i e hi p u hu⟩
theorem SL.bD(h:SL w sz ec A es)(hk:∀p v,w.cell? p=some v->w'.cell? p=some v):SL w' sz ec A es:=
 ⟨λhn=>by
  obtain⟨b,off,hA,hc⟩:=h.cells hn;exact⟨b,off,hA,λi e hi p u hu=>hk _ _ (hc i e hi p u hu)⟩⟩
theorem SL.below{B:Nat}(h:SL w sz ec A es)(hb:Below B w w')(hB:w.heap.size<=B):SL w' sz ec A es:=
 h.bD λp v hv=>by rw[hb.cell (p:=p) (nX (World.block_lt_of_cell? w _ hv) hB)];exact hv
theorem SL.drew(h:SL w sz ec A es):SL w.drew sz ec A es:=⟨h.cells⟩
theorem SL.take(h:SL w sz ec A es)(k:Nat):SL w sz ec A (es.take k):=
 ⟨λhn=>by
  obtain⟨b,off,hA,hc⟩:=h.cells (by rintro rfl;simp at hn);refine⟨b,off,hA,λi e hi p u hu=>hc i e ?_ p u hu⟩;rw[qC]at hi;split at hi
  ·exact hi
  ·cases hi⟩
end

section
variable {H:Type} {enc:TypeId×Value->H} {P:Program} {w:World} {base:Nat} {spare:Nat->Bool} {held:Bool}
end
end Go.Opn
namespace Go.Apl
open Go Go.RowKit Go.ay Go.Opn
structure lx (g:Nat) (T:TypeId) (X E:List Value) (w w':World):Prop where
 os:w'.os=w.os
 tape:w'.tape=w.tape
 output:w'.output=w.output
 size:w.heap.size<=w'.heap.size
 block:∀k,k<w.heap.size->k≠g->w'.heap[k]? =w.heap[k]?
 row:∀cur:Array Value,w.heap[g]? =some (.cells cur T (0,0))->∃cur':Array Value,w'.heap[g]? =some (.cells cur' T (0,0))/\cur'.size=cur.size/\(cur.toList.take X.length=X->cur'.toList.take X.length=X)/\(cur.toList=X++E->cur'.toList=X++E)
section
variable {g:Nat} {T:TypeId} {X E:List Value}
theorem lx.refl(w:World):lx g T X E w w:=⟨rfl,rfl,rfl,aL _,λ_ _ _=>rfl,λcur h=>⟨cur,h,rfl,id,id⟩⟩
theorem lx.trans(a b c:World)(h:lx g T X E a b)(k:lx g T X E b c):lx g T X E a c:=
 ⟨k.os.trans h.os,k.tape.trans h.tape,k.output.trans h.output,fO h.size k.size,λi hi hn=>(k.block i (nX hi h.size) hn).trans (h.block i hi hn),λcur hc=>by
  obtain⟨c1,h1,h2,h3,h4⟩:=h.row cur hc;obtain⟨c2,k1,k2,k3,k4⟩:=k.row c1 h1;exact⟨c2,k1,k2.trans h2,λe=>k3 (h3 e),λe=>k4 (h4 e)⟩⟩
theorem lx.grow{w w':World}(h:Below w.heap.size w w'):lx g T X E w w':=
 ⟨h.os,h.tape,h.output,h.size,λk hk _=>h.block k hk,λcur hc=>⟨cur,(h.block g (iS.1 hc).1).trans hc,rfl,id,id⟩⟩
theorem lx.Jq{w w':World}{cc c2:Array Value}(hg:w.grownBy w' (some g))(hc:w.heap[g]? =some (.cells cc T (0,0)))(h2:w'.heap[g]? =some (.cells c2 T (0,0)))(hs:c2.size=cc.size)
  (h3:cc.toList.take X.length=X->c2.toList.take X.length=X) (h4:cc.toList=X++E->c2.toList=X++E):lx g T X E w w':=
 ⟨hg.os,hg.tape,hg.output,hg.size,λk hk hn=>hg.block k hk (by simpa using hn),λcur h=>by rw[hc]at h;cases h;exact⟨c2,h2,hs,h3,h4⟩⟩
end
theorem Gl(cc:Array Value)(X:List Value):(Apk.nU cc 0 X).toList=X++cc.toList.drop X.length:=by simp[Apk.nU]
theorem mn(cc:Array Value)(X:List Value):(Apk.nU cc 0 X).toList.take X.length=X:=by simp[Apk.nU]
theorem tJ(cc:Array Value)(X E:List Value)(h:cc.toList=X++E):(Apk.nU cc 0 X).toList=X++E:=by rw[Gl cc X,h];simp
theorem uz(cc:Array Value)(X E:List Value)(h:cc.toList.take X.length=X)(hs:cc.size=X.length+E.length):(Apk.nU cc X.length E).toList=X++E:=by have hd:cc.toList.drop (X.length+E.length)= []:=List.drop_eq_nil_iff.2 (by simp;omega);simp only[Apk.nU,h,hd,DS]

section
variable {α:Type} {ec:α->List Value} {sz:Nat}
theorem jZ(hz:∀e,(ec e).length=sz):∀l:List α,(l.flatMap ec).length=l.length*sz
 | []=>by simp
 |x::l=>by
  rw[BZ,fu,hz,jZ hz l,kq,Nat.add_mul];omega
theorem flat_get(hz:∀e,(ec e).length=sz):∀(l:List α) (j:Nat) (u:Value),(l.flatMap ec)[j]? =some u->∃i e p,l[i]? =some e/\(ec e)[p]? =some u/\j=i*sz+p
 | [],j,u,h=>by simp at h
 |x::l,j,u,h=>by
  rw[BZ]at h;by_cases hj:j<sz
  ·rw[xL (by rw[hz];exact hj)]at h;exact⟨0,x,j,rfl,h,by omega⟩
  ·rw[BW (by rw[hz];omega),hz]at h;obtain⟨i,e,p,h1,h2,h3⟩:=flat_get hz l _ u h;exact⟨i+1,e,p,h1,h2,by rw[Nat.add_mul];omega⟩
theorem mF(hz:∀e,(ec e).length=sz):∀(l:List α) (i:Nat) (e:α) (p:Nat) (u:Value),l[i]? =some e->(ec e)[p]? =some u->(l.flatMap ec)[i*sz+p]? =some u
 | [],i,e,p,u,h,_=>by simp at h
 |x::l,0,e,p,u,h,hp=>by
  simp at h;subst h
  have:=(jS.1 hp).1;rw[BZ,Nat.zero_mul,nW,xL this];exact hp
 |x::l,i+1,e,p,u,h,hp=>by
  rw[BZ,BW (by rw[hz,Nat.add_mul];omega),hz]
  have:=mF hz l i e p u (by simpa using h) hp;rw[<-this];congr 1;rw[Nat.add_mul];omega
theorem cO{w:World}{b:Nat}{cur:Array Value}{T:TypeId}{l:List α}(hz:∀e,(ec e).length=sz)(hb:w.heap[b]? =some (.cells cur T (0,0)))(hc:∀(j:Nat) (u:Value),(l.flatMap ec)[j]? =some u->cur[j]? =some u):SL w sz ec (some ⟨b,0,none⟩) l:=
 ⟨λ_=>⟨b,0,rfl,λi e hi p u hu=>by
  have:=hc _ u (mF hz l i e p u hi hu);simp[World.cell?,hb,this]⟩⟩
theorem xg{w:World}{b off:Nat}{l:List α}(hz:∀e,(ec e).length=sz)(h:SL w sz ec (some ⟨b,off,none⟩) l):∀j u,(l.flatMap ec)[j]? =some u->w.cell? ((⟨b,off,none⟩:Addr).add j)=some u:=by
 intro j u hu;obtain⟨i,e,p,h1,h2,rfl⟩:=flat_get hz l j u hu;obtain⟨b',off',e1,h3⟩:=h.cells (by rintro rfl;simp at h1);cases e1
 rw[addr_add];exact h3 i e h1 p u h2
theorem qH{P:Program}(w:World)(t ty e:TypeId)(i:TypeInfo)(ht:P.underlying t=some (.slice e))(hi:P.info? e=some i)(hsz:i.size=sz)(hz:∀x,(ec x).length=sz)(h1:∀x,∀u∈ec x,u.oneCell'=true)
  (g n cap:Nat) (cur:Array Value) (hg:w.heap[g]? =some (.cells cur e (0,0))) (A:Option Addr) (c:Nat) (l:List α) (hs:SL w sz ec A l) (hroom:n+l.length<=cap) (hcs:cur.size=cap*sz):
  ∃w',(Builtin.append_ #[t,t] ty #[.slice (some ⟨g,0,none⟩) n cap, .slice A l.length c]).run P w= .ok (.slice (some ⟨g,0,none⟩) (n+l.length) cap) w'/\w.grownBy w' (some g)/\w'.heap[g]? =some (.cells (Apk.nU cur (n*sz) (l.flatMap ec)) e (0,0)):=by
 cases A with
 |some a=>
  have hnews:∀j u,(l.flatMap ec)[j]? =some u->w.cell? (a.add j)=some u:=by intro j u hu;obtain⟨i,x,p,k1,_⟩:=flat_get hz l j u hu;obtain⟨b,off,e1,_⟩:=hs.cells (by rintro rfl;simp at k1);injection e1 with e1;subst e1;exact xg hz hs j u hu
  refine⟨_,Apk.lJ (P:=P) w t ty e i sz ht hi hsz g n cap cur hg a l.length c (l.flatMap ec) (jZ hz l) hnews (λu hu=> ?_) hroom hcs, ?_,setRow_heap w g cur _ e _ hg⟩
  ·obtain⟨x,_,hx⟩:=PT.1 hu;exact h1 x u hx
  ·exact⟨rfl,rfl,rfl,by simp[World.setRow],λk hk hn=>by
    have:k≠g:=by simpa using hn
    simp only[World.setRow,vS];rw[if_neg (nq this)]⟩
 |none=>
  have hl:l= []:=by
   cases l with
   |nil=>rfl
   |cons x l=>obtain⟨b,off,e1,_⟩:=hs.cells (by simp);cases e1
  subst hl;refine⟨w, ?_,⟨rfl,rfl,rfl,aL _,λ_ _ _=>rfl⟩, ?_⟩
  ·simp at hroom;simp[Builtin.append_,run_underlying ht,sizeOf,typeInfo,hi,Builtin.lenOf,hroom,run_firstCells_none,storeCells]
  ·rw[hg];simp[Apk.nU]
end
theorem nt{α:Type}{ec:α->List Value}{sz:Nat}{P:Program}(w:World)(base:Nat)(t ty e:TypeId)(i:TypeInfo)(z:Value)(bytes:Nat)(ht:P.underlying t=some (.slice e))(hi:P.info? e=some i)(hz:i.zero=some z)
  (hsize:i.size=sz) (hby:i.bytes=bytes) (hzs:z.cells.size=sz) (hsz:0<sz) (hec:∀x,(ec x).length=sz) (h1:∀x,∀u∈ec x,u.oneCell'=true)
  (v:Value) (n:Nat) (xs:List Value) (hown:w.ownsRow base e sz v n xs) (A:Option Addr) (c:Nat) (l:List α) (hs:SL w sz ec A l)
  (h63:n+l.length<=maxLen) (hbytes:(n+l.length)*bytes<=140737488355328) (hbase:base<=w.heap.size):
  ∃v' w',(Builtin.append_ #[t,t] ty #[v, .slice A l.length c]).run P w= .ok v' w'/\w'.ownsRow base e sz v' (n+l.length) (xs++l.flatMap ec)/\w.grownBy w' v.ownBlock/\(v'.ownBlock=v.ownBlock\/v'.ownBlock=some w.heap.size):=by
 cases A with
 |some a=>
  have hnews:∀(j:Nat) u,(l.flatMap ec)[j]? =some u->w.cell? (a.add j)=some u:=by intro j u hu;obtain⟨i,x,p,k1,_⟩:=flat_get hec l j u hu;obtain⟨b,off,e1,_⟩:=hs.cells (by rintro rfl;simp at k1);injection e1 with e1;subst e1;exact xg hec hs j u hu
  obtain⟨v',w',k1,k2,k3,_,k5⟩:=run_append_own_at (P:=P) w base t ty e i z sz bytes ht hi hz hsize hby hzs hsz v n xs hown a l.length c (l.flatMap ec) (jZ hec l) hnews (λu hu=>by
   obtain⟨x,_,hx⟩:=PT.1 hu;exact h1 x u hx) h63 hbytes hbase
  exact⟨v',w',k1,k2,k3,k5⟩
 |none=>
  have hl:l= []:=by
   cases l with
   |nil=>rfl
   |cons x l=>obtain⟨b,off,e1,_⟩:=hs.cells (by simp);cases e1
  subst hl;refine⟨v,w, ?_,by simpa using hown,⟨rfl,rfl,rfl,aL _,λ_ _ _=>rfl⟩, .inl rfl⟩;rcases hown.2 with⟨rfl,rfl⟩|⟨g,cap,cur,rfl,_,_,hnc,_⟩
  ·simp[Builtin.append_,run_underlying ht,sizeOf,typeInfo,hi,Builtin.lenOf,run_firstCells_none]
  ·simp[Builtin.append_,run_underlying ht,sizeOf,typeInfo,hi,Builtin.lenOf,hnc,run_firstCells_none,storeCells]
theorem dF{α:Type}{ec:α->List Value}{sz:Nat}{P:Program}{w:World}{ops:Array Oper}{rest:List Oper}{o:Oper}{a:Act}{Q:Exit->Act->World->Prop}(hgd:o.guard=none)(s x:Operand)(t:TypeId)
  (ho:o.op= .call {callee:= .builtin .append,args:= #[s,x],argTypes:= #[t,t]})
  (base:Nat) (e:TypeId) (i:TypeInfo) (z:Value) (bytes:Nat) (ht:P.underlying t=some (.slice e)) (hi:P.info? e=some i) (hz:i.zero=some z)
  (hsize:i.size=sz) (hby:i.bytes=bytes) (hzs:z.cells.size=sz) (hsz:0<sz) (hec:∀x,(ec x).length=sz) (h1:∀x,∀u∈ec x,u.oneCell'=true)
  (v:Value) (n:Nat) (xs:List Value) (hs:a.eval s=v) (hown:w.ownsRow base e sz v n xs)
  (A:Option Addr) (c:Nat) (l:List α) (hx:a.eval x= .slice A l.length c) (hsl:SL w sz ec A l)
  (h63:n+l.length<=maxLen) (hbytes:(n+l.length)*bytes<=140737488355328) (hbase:base<=w.heap.size)
  (h:∀v' w',w'.ownsRow base e sz v' (n+l.length) (xs++l.flatMap ec)->w.grownBy w' v.ownBlock->(v'.ownBlock=v.ownBlock\/v'.ownBlock=some w.heap.size)->wpList P ops Q rest (a.put o.dst v') w'):
  wpList P ops Q (o::rest) a w:=by
 refine wpList_plain hgd λK hK=> ?_
 obtain⟨v',w',hr,h2,h3,h5⟩:=nt (P:=P) w base t o.type e i z bytes ht hi hz hsize hby hzs hsz hec h1 v n xs hown A c l hsl h63 hbytes hbase;unfold Oper.wp execOp;simp only[ho,resolve,invoke,builtin,Sem.run_bind,Sem.run_pure,Result.andThen_ok,List.map_toArray,xJ,NP,hs,hx,hr];exact hK _ _ (h v' w' h2 h3 h5)
theorem tm{α:Type}{ec:α->List Value}{sz:Nat}{w:World}{base:Nat}{e:TypeId}{v:Value}{l:List α}(hec:∀x,(ec x).length=sz)(h:w.ownsRow base e sz v l.length (l.flatMap ec))(hl:l≠ []):
  ∃g cap cur,v= .slice (some ⟨g,0,none⟩) l.length cap/\base<=g/\w.heap[g]? =some (.cells cur e (0,0))/\l.length<=cap/\cap<=maxLen/\cur.toList.take (l.length*sz)=l.flatMap ec/\SL w sz ec (some ⟨g,0,none⟩) l:=by
 obtain⟨_,⟨_,h0⟩|⟨g,cap,cur,h1,h2,h3,h4,h5,h6,h7⟩⟩:=h
 ·exact absurd (Ky.1 h0) hl
 ·refine⟨g,cap,cur,h1,h2,h3,h4,h5,h7,cO hec h3 (λj u hu=> ?_)⟩;rw[<-h7]at hu;rw[qC]at hu;split at hu
  ·simpa using hu
  ·cases hu
theorem JX{w:World}{g k:Nat}{cur:Array Value}{T:TypeId}{v:Value}(hg:w.heap[g]? =some (.cells cur T (0,0))):(w.setCell ⟨g,k,none⟩ v).heap[g]? =some (.cells (cur.toList.set k v).toArray T (0,0)):=by
 have hb:ay w g cur.toList T:=by unfold ay;simpa using hg
 exact hb.set k v
theorem Bp{w:World}{g k:Nat}{cur:Array Value}{T:TypeId}(hg:w.heap[g]? =some (.cells cur T (0,0))):w.frozen? ⟨g,k,none⟩=false:=by
 have hb:ay w g cur.toList T:=by unfold ay;simpa using hg
 exact hb.frozen k
theorem oC{P:Program}{o:Oper}{ρ:Operand->Value}{w:World}{ty:TypeId}{x:Operand}{g:Nat}{t:TypeId}{cs:List Value}{dsc:TypeDesc}(ho:o.op= .load ty x)(hx:ρ x= .pointer (some ⟨g,0,none⟩))(hg:ay w g cs t)
  (hu:P.underlying ty=some dsc) (hd:(match dsc with| .struct _| .array _ _=>true|_=>false)=true) (hi:(P.info? ty).map (·.size)=some cs.toArray.size):(execOp ρ o).run P w= .ok (.value (.agg cs.toArray)) w:=by
 unfold execOp;simp only[ho,hx,Instr.loadAt,Instr.sureAddr,Sem.run_bind,Sem.run_pure,Result.andThen_ok,run_loadVar_row w g t ty cs.toArray (0,0) dsc hg hu hd hi]
theorem fB{P:Program}{o:Oper}{ρ:Operand->Value}{w w':World}{t:TypeId}{x:Operand}{v:Value}(ho:o.op= .buildSlice t 1 #[(0,x)])(h:(Instr.buildSlice t 1 #[(0,ρ x)]).run P w= .ok v w'):(execOp ρ o).run P w= .ok (.value v) w':=by unfold execOp;simp[ho,h]
theorem dL{P:Program}{o:Oper}{ρ:Operand->Value}{w w':World}{t:TypeId}{s x:Operand}{u y v:Value}(ho:o.op= .call {callee:= .builtin .append,args:= #[s,x],argTypes:= #[t,t]})(hs:ρ s=u)(hx:ρ x=y)
  (h:(Builtin.append_ #[t,t] o.type #[u,y]).run P w= .ok v w'):(execOp ρ o).run P w= .ok (.value v) w':=by
 unfold execOp;simp only[ho,resolve,invoke,builtin,Sem.run_bind,Sem.run_pure,Result.andThen_ok,List.map_toArray,xJ,NP,hs,hx,h]
end Go.Apl
namespace Go.Proofs
open Go.Shelf
def Tryz.qR:Go.Shelf.Ren:=⟨fun|169=>60|n=>n,fun|70=>116|9=>9|0=>0|72=>119|37=>117|127=>174|3=>3|5=>5|n=>n,fun|n=>n⟩
theorem Tryz.LS:Go.Proofs.Lays.n169 Tryz.prog Tryz.qR:= {
 mixed:=by kernel_rfl
 f169:=Tryz.func60.trans (congrArg some (by kernel_rfl))
 t0:=Tryz.underlying0
 a0:=Tryz.isAgg0
 z0:=Tryz.sizeOf0
 v0:=Tryz.zeroValue0
 t3:=Tryz.underlying3
 a3:=Tryz.isAgg3
 z3:=Tryz.sizeOf3
 v3:=Tryz.zeroValue3
 t9:=Tryz.underlying9
 a9:=Tryz.isAgg9
 z9:=Tryz.sizeOf9
 v9:=Tryz.zeroValue9
 t37:=Tryz.underlying117
 a37:=Tryz.isAgg117
 z37:=Tryz.sizeOf117
 v37:=Tryz.zeroValue117
 t70:=Tryz.underlying116
 a70:=Tryz.isAgg116
 z70:=Tryz.sizeOf116
 v70:=Tryz.zeroValue116
 t72:=Tryz.underlying119
 a72:=Tryz.isAgg119
 z72:=Tryz.sizeOf119
 v72:=Tryz.zeroValue119
 t127:=Tryz.underlying174
 a127:=Tryz.isAgg174
 z127:=Tryz.sizeOf174
 v127:=Tryz.zeroValue174}
theorem Tryz.nZ:Builder.Extra Tryz.prog Tryz.qR:= {
 sizeBuilder:=by kernel_rfl
 liesBuilder:=by kernel_rfl
 t5:=Tryz.underlying5
 a5:=Tryz.isAgg5
 z5:=Tryz.sizeOf5
 v5:=Tryz.zeroValue5
 infoByte:=by kernel_rfl
 cellsByte:=by kernel_rfl
 sizeByte:=by kernel_rfl
 neB5:=by decide}
open Go.RowKit in
theorem Tryz.Builder_String_any_k(B b:Nat)(l:List UInt8)(w:World)(h:Lib.IsBuilderF 119 5 B b (Lib.byteCells l) w)(hBw:B<=w.heap.size):
  Calls Tryz.prog 60 #[.pointer (some ⟨b,0,none⟩)] w λe w'=>e= .returned (.string ⟨l.toArray⟩)/\(Lib.IsBuilderF 119 5 B b (Lib.byteCells l) w'/\Below B w w'/\Lib.OthersKept 5 (some b) w w'):=Any.Builder_String_any_k Tryz.LS Tryz.nZ B b l w h hBw
def Tryz.yI:Go.Shelf.Ren:=⟨fun|129=>137|n=>n,fun|53=>228|3=>3|4=>4|46=>172|5=>5|9=>9|n=>n,fun|n=>n⟩
theorem Tryz.LQ:Go.Proofs.Lays.n129 Tryz.prog Tryz.yI:= {
 mixed:=by kernel_rfl
 f129:=Tryz.func137.trans (congrArg some (by kernel_rfl))
 t3:=Tryz.underlying3
 a3:=Tryz.isAgg3
 z3:=Tryz.sizeOf3
 v3:=Tryz.zeroValue3
 t4:=Tryz.underlying4
 a4:=Tryz.isAgg4
 z4:=Tryz.sizeOf4
 v4:=Tryz.zeroValue4
 t5:=Tryz.underlying5
 a5:=Tryz.isAgg5
 z5:=Tryz.sizeOf5
 v5:=Tryz.zeroValue5
 t9:=Tryz.underlying9
 a9:=Tryz.isAgg9
 z9:=Tryz.sizeOf9
 v9:=Tryz.zeroValue9
 t46:=Tryz.underlying172
 a46:=Tryz.isAgg172
 z46:=Tryz.sizeOf172
 v46:=Tryz.zeroValue172
 t53:=Tryz.underlying228
 a53:=Tryz.isAgg228
 z53:=Tryz.sizeOf228
 v53:=Tryz.zeroValue228}
theorem Tryz.bits_Len64(x:Int)(w:World)(h0:0<=x)(h1:x<=18446744073709551615):
  Calls Tryz.prog 137 #[.int .u64 x] w λe w'=>e= .returned (.int .i64 (Lib.bitLen x.toNat))/\w'=w:=Any.bits_Len64 Tryz.LQ x w h0 h1
def Tryz.wJ:Go.Shelf.Ren:=⟨fun|171=>59|243=>94|246=>140|283=>203|284=>204|285=>205|286=>206|129=>137|317=>242|318=>243|319=>244|320=>245|337=>275|338=>276|n=>n,fun|3=>3|9=>9|2=>2|4=>4|171=>295|0=>0|53=>228|37=>117|5=>5|173=>297|212=>334|51=>226|20=>20|213=>335|46=>172|232=>201|233=>372|n=>n,fun|17=>1|18=>5|19=>6|n=>n⟩
theorem Tryz.I0:Go.Proofs.LaysM.n171 Tryz.prog Tryz.wJ:= {
 mixed:=by kernel_rfl
 f129:=Tryz.func137.trans (congrArg some (by kernel_rfl))
 f171:=Tryz.func59.trans (congrArg some (by kernel_rfl))
 f243:=Tryz.func94.trans (congrArg some (by kernel_rfl))
 f246:=Tryz.func140.trans (congrArg some (by kernel_rfl))
 f283:=Tryz.func203.trans (congrArg some (by kernel_rfl))
 f284:=Tryz.func204.trans (congrArg some (by kernel_rfl))
 f285:=Tryz.func205.trans (congrArg some (by kernel_rfl))
 f286:=Tryz.func206.trans (congrArg some (by kernel_rfl))
 f317:=Tryz.func242.trans (congrArg some (by kernel_rfl))
 f318:=Tryz.func243.trans (congrArg some (by kernel_rfl))
 f319:=Tryz.func244.trans (congrArg some (by kernel_rfl))
 f320:=Tryz.func245.trans (congrArg some (by kernel_rfl))
 f337:=Tryz.func275.trans (congrArg some (by kernel_rfl))
 f338:=Tryz.func276.trans (congrArg some (by kernel_rfl))
 t0:=Tryz.underlying0
 a0:=Tryz.isAgg0
 z0:=Tryz.sizeOf0
 v0:=Tryz.zeroValue0
 t2:=Tryz.underlying2
 a2:=Tryz.isAgg2
 z2:=Tryz.sizeOf2
 v2:=Tryz.zeroValue2
 t3:=Tryz.underlying3
 a3:=Tryz.isAgg3
 z3:=Tryz.sizeOf3
 v3:=Tryz.zeroValue3
 t4:=Tryz.underlying4
 a4:=Tryz.isAgg4
 z4:=Tryz.sizeOf4
 v4:=Tryz.zeroValue4
 t5:=Tryz.underlying5
 a5:=Tryz.isAgg5
 z5:=Tryz.sizeOf5
 v5:=Tryz.zeroValue5
 t9:=Tryz.underlying9
 a9:=Tryz.isAgg9
 z9:=Tryz.sizeOf9
 v9:=Tryz.zeroValue9
 t20:=Tryz.underlying20
 a20:=Tryz.isAgg20
 z20:=Tryz.sizeOf20
 v20:=Tryz.zeroValue20
 t37:=Tryz.underlying117
 a37:=Tryz.isAgg117
 z37:=Tryz.sizeOf117
 v37:=Tryz.zeroValue117
 t46:=Tryz.underlying172
 a46:=Tryz.isAgg172
 z46:=Tryz.sizeOf172
 v46:=Tryz.zeroValue172
 t51:=Tryz.underlying226
 a51:=Tryz.isAgg226
 z51:=Tryz.sizeOf226
 v51:=Tryz.zeroValue226
 t53:=Tryz.underlying228
 a53:=Tryz.isAgg228
 z53:=Tryz.sizeOf228
 v53:=Tryz.zeroValue228
 t171:=Tryz.underlying295
 a171:=Tryz.isAgg295
 z171:=Tryz.sizeOf295
 v171:=Tryz.zeroValue295
 t173:=Tryz.underlying297
 a173:=Tryz.isAgg297
 z173:=Tryz.sizeOf297
 v173:=Tryz.zeroValue297
 t212:=Tryz.underlying334
 a212:=Tryz.isAgg334
 z212:=Tryz.sizeOf334
 v212:=Tryz.zeroValue334
 t213:=Tryz.underlying335
 a213:=Tryz.isAgg335
 z213:=Tryz.sizeOf335
 t232:=Tryz.underlying201
 a232:=Tryz.isAgg201
 z232:=Tryz.sizeOf201
 v232:=Tryz.zeroValue201
 t233:=Tryz.underlying372
 a233:=Tryz.isAgg372
 z233:=Tryz.sizeOf372
 v233:=Tryz.zeroValue372
 g17:=by kernel_rfl
 g18:=by kernel_rfl
 g19:=by kernel_rfl
 i0:=by kernel_rfl
 i2:=by kernel_rfl
 i3:=by kernel_rfl
 i4:=by kernel_rfl
 i5:=by kernel_rfl
 i9:=by kernel_rfl
 i20:=by kernel_rfl
 i37:=by kernel_rfl
 i46:=by kernel_rfl
 i51:=by kernel_rfl
 i53:=by kernel_rfl
 i171:=by kernel_rfl
 i173:=by kernel_rfl
 i212:=by kernel_rfl
 i232:=by kernel_rfl
 i233:=by kernel_rfl
 m17:=by kernel_rfl
 m18:=by kernel_rfl
 m19:=by kernel_rfl}
open Go.RowKit Go.Sort Go.Lib in
theorem Tryz.strconv_Itoa(n : Int)(h0 : -9223372036854775808 <= n)(h1 : n <= 9223372036854775807)(w : World)(htab : Lib.TabIs Tryz.prog w "internal/strconv.uint64pow10" .u64 Lib.pow10Tab) :
  Calls Tryz.prog 59 #[.int .i64 n] w λe w'=>e= .returned (.string ⟨(Lib.itoa n).toArray⟩)/\∃k os,w'=grow (w.drewN k) os:=Any.strconv_Itoa Tryz.I0 n h0 h1 w htab
def Tryz.wK:Go.Shelf.Ren:=⟨fun|176=>122|249=>186|288=>236|283=>203|284=>204|285=>205|286=>206|129=>137|317=>242|318=>243|319=>244|320=>245|337=>275|338=>276|n=>n,fun|37=>117|2=>2|3=>3|53=>228|4=>4|9=>9|171=>295|0=>0|173=>297|212=>334|51=>226|5=>5|20=>20|213=>335|46=>172|232=>201|233=>372|n=>n,fun|17=>1|18=>5|19=>6|n=>n⟩
theorem Tryz.I5:Go.Proofs.LaysM.n176 Tryz.prog Tryz.wK:= {
 mixed:=by kernel_rfl
 f129:=Tryz.func137.trans (congrArg some (by kernel_rfl))
 f176:=Tryz.func122.trans (congrArg some (by kernel_rfl))
 f249:=Tryz.func186.trans (congrArg some (by kernel_rfl))
 f283:=Tryz.func203.trans (congrArg some (by kernel_rfl))
 f284:=Tryz.func204.trans (congrArg some (by kernel_rfl))
 f285:=Tryz.func205.trans (congrArg some (by kernel_rfl))
 f286:=Tryz.func206.trans (congrArg some (by kernel_rfl))
 f288:=Tryz.func236.trans (congrArg some (by kernel_rfl))
 f317:=Tryz.func242.trans (congrArg some (by kernel_rfl))
 f318:=Tryz.func243.trans (congrArg some (by kernel_rfl))
 f319:=Tryz.func244.trans (congrArg some (by kernel_rfl))
 f320:=Tryz.func245.trans (congrArg some (by kernel_rfl))
 f337:=Tryz.func275.trans (congrArg some (by kernel_rfl))
 f338:=Tryz.func276.trans (congrArg some (by kernel_rfl))
 t0:=Tryz.underlying0
 a0:=Tryz.isAgg0
 z0:=Tryz.sizeOf0
 v0:=Tryz.zeroValue0
 t2:=Tryz.underlying2
 a2:=Tryz.isAgg2
 z2:=Tryz.sizeOf2
 v2:=Tryz.zeroValue2
 t3:=Tryz.underlying3
 a3:=Tryz.isAgg3
 z3:=Tryz.sizeOf3
 v3:=Tryz.zeroValue3
 t4:=Tryz.underlying4
 a4:=Tryz.isAgg4
 z4:=Tryz.sizeOf4
 v4:=Tryz.zeroValue4
 t5:=Tryz.underlying5
 a5:=Tryz.isAgg5
 z5:=Tryz.sizeOf5
 v5:=Tryz.zeroValue5
 t9:=Tryz.underlying9
 a9:=Tryz.isAgg9
 z9:=Tryz.sizeOf9
 v9:=Tryz.zeroValue9
 t20:=Tryz.underlying20
 a20:=Tryz.isAgg20
 z20:=Tryz.sizeOf20
 v20:=Tryz.zeroValue20
 t37:=Tryz.underlying117
 a37:=Tryz.isAgg117
 z37:=Tryz.sizeOf117
 v37:=Tryz.zeroValue117
 t46:=Tryz.underlying172
 a46:=Tryz.isAgg172
 z46:=Tryz.sizeOf172
 v46:=Tryz.zeroValue172
 t51:=Tryz.underlying226
 a51:=Tryz.isAgg226
 z51:=Tryz.sizeOf226
 v51:=Tryz.zeroValue226
 t53:=Tryz.underlying228
 a53:=Tryz.isAgg228
 z53:=Tryz.sizeOf228
 v53:=Tryz.zeroValue228
 t171:=Tryz.underlying295
 a171:=Tryz.isAgg295
 z171:=Tryz.sizeOf295
 v171:=Tryz.zeroValue295
 t173:=Tryz.underlying297
 a173:=Tryz.isAgg297
 z173:=Tryz.sizeOf297
 v173:=Tryz.zeroValue297
 t212:=Tryz.underlying334
 a212:=Tryz.isAgg334
 z212:=Tryz.sizeOf334
 v212:=Tryz.zeroValue334
 t213:=Tryz.underlying335
 a213:=Tryz.isAgg335
 z213:=Tryz.sizeOf335
 t232:=Tryz.underlying201
 a232:=Tryz.isAgg201
 z232:=Tryz.sizeOf201
 v232:=Tryz.zeroValue201
 t233:=Tryz.underlying372
 a233:=Tryz.isAgg372
 z233:=Tryz.sizeOf372
 v233:=Tryz.zeroValue372
 g17:=by kernel_rfl
 g18:=by kernel_rfl
 g19:=by kernel_rfl
 i0:=by kernel_rfl
 i2:=by kernel_rfl
 i3:=by kernel_rfl
 i4:=by kernel_rfl
 i5:=by kernel_rfl
 i9:=by kernel_rfl
 i20:=by kernel_rfl
 i37:=by kernel_rfl
 i46:=by kernel_rfl
 i51:=by kernel_rfl
 i53:=by kernel_rfl
 i171:=by kernel_rfl
 i173:=by kernel_rfl
 i212:=by kernel_rfl
 i232:=by kernel_rfl
 i233:=by kernel_rfl
 m17:=by kernel_rfl
 m18:=by kernel_rfl
 m19:=by kernel_rfl}
open Go.RowKit Go.Sort Go.Lib in
theorem Tryz.strconv_AppendInt_10(B n : Nat)(i : Int)(h0 : -9223372036854775808 <= i)(h1 : i <= 9223372036854775807)(sv : Value)(xs : List Value)(w : World)(hown : w.ownsRow B 5 1 sv n xs)(hBw : B <= w.heap.size)(hlim : n + 21 <= 140737488355328)(htab : Lib.TabBelow Tryz.prog B w "internal/strconv.uint64pow10" .u64 Lib.pow10Tab) :
  Calls Tryz.prog 122 #[sv, .int .i64 i, .int .i64 10] w λe w'=> ∃v',e= .returned v'/\w'.ownsRow B 5 1 v' (n+(Lib.itoa i).length) (xs++Lib.byteCells (Lib.itoa i))/\Below B w w'/\Lib.OthersKept 5 none w w':=Any.strconv_AppendInt_10 Tryz.I5 B n i h0 h1 sv xs w hown hBw hlim htab
def Tryz.qQ:Go.Shelf.Ren:=⟨fun|105=>223|212=>262|99=>111|165=>263|166=>57|170=>264|169=>60|263=>281|264=>282|206=>174|240=>93|241=>283|276=>139|277=>289|n=>n,fun|9=>9|3=>3|4=>4|20=>20|0=>0|46=>172|109=>347|5=>5|72=>119|76=>122|51=>226|146=>363|53=>228|148=>365|70=>116|37=>117|75=>121|127=>174|164=>229|80=>127|n=>n,fun|n=>n⟩
theorem Tryz.LP:Go.Proofs.Lays.n105 Tryz.prog Tryz.qQ:= {
 mixed:=by kernel_rfl
 f99:=Tryz.func111.trans (congrArg some (by kernel_rfl))
 f105:=Tryz.func223.trans (congrArg some (by kernel_rfl))
 f165:=Tryz.func263.trans (congrArg some (by kernel_rfl))
 f166:=Tryz.func57.trans (congrArg some (by kernel_rfl))
 f169:=Tryz.func60.trans (congrArg some (by kernel_rfl))
 f170:=Tryz.func264.trans (congrArg some (by kernel_rfl))
 f206:=Tryz.func174.trans (congrArg some (by kernel_rfl))
 f212:=Tryz.func262.trans (congrArg some (by kernel_rfl))
 f240:=Tryz.func93.trans (congrArg some (by kernel_rfl))
 f241:=Tryz.func283.trans (congrArg some (by kernel_rfl))
 f263:=Tryz.func281.trans (congrArg some (by kernel_rfl))
 f264:=Tryz.func282.trans (congrArg some (by kernel_rfl))
 f276:=Tryz.func139.trans (congrArg some (by kernel_rfl))
 f277:=Tryz.func289.trans (congrArg some (by kernel_rfl))
 t0:=Tryz.underlying0
 a0:=Tryz.isAgg0
 z0:=Tryz.sizeOf0
 v0:=Tryz.zeroValue0
 t3:=Tryz.underlying3
 a3:=Tryz.isAgg3
 z3:=Tryz.sizeOf3
 v3:=Tryz.zeroValue3
 t4:=Tryz.underlying4
 a4:=Tryz.isAgg4
 z4:=Tryz.sizeOf4
 v4:=Tryz.zeroValue4
 t5:=Tryz.underlying5
 a5:=Tryz.isAgg5
 z5:=Tryz.sizeOf5
 v5:=Tryz.zeroValue5
 t9:=Tryz.underlying9
 a9:=Tryz.isAgg9
 z9:=Tryz.sizeOf9
 v9:=Tryz.zeroValue9
 t20:=Tryz.underlying20
 a20:=Tryz.isAgg20
 z20:=Tryz.sizeOf20
 v20:=Tryz.zeroValue20
 t37:=Tryz.underlying117
 a37:=Tryz.isAgg117
 z37:=Tryz.sizeOf117
 v37:=Tryz.zeroValue117
 t46:=Tryz.underlying172
 a46:=Tryz.isAgg172
 z46:=Tryz.sizeOf172
 v46:=Tryz.zeroValue172
 t51:=Tryz.underlying226
 a51:=Tryz.isAgg226
 z51:=Tryz.sizeOf226
 v51:=Tryz.zeroValue226
 t53:=Tryz.underlying228
 a53:=Tryz.isAgg228
 z53:=Tryz.sizeOf228
 v53:=Tryz.zeroValue228
 t70:=Tryz.underlying116
 a70:=Tryz.isAgg116
 z70:=Tryz.sizeOf116
 v70:=Tryz.zeroValue116
 t72:=Tryz.underlying119
 a72:=Tryz.isAgg119
 z72:=Tryz.sizeOf119
 v72:=Tryz.zeroValue119
 t75:=Tryz.underlying121
 a75:=Tryz.isAgg121
 z75:=Tryz.sizeOf121
 v75:=Tryz.zeroValue121
 t76:=Tryz.underlying122
 a76:=Tryz.isAgg122
 z76:=Tryz.sizeOf122
 v76:=Tryz.zeroValue122
 t109:=Tryz.underlying347
 a109:=Tryz.isAgg347
 z109:=Tryz.sizeOf347
 v109:=Tryz.zeroValue347
 t127:=Tryz.underlying174
 a127:=Tryz.isAgg174
 z127:=Tryz.sizeOf174
 v127:=Tryz.zeroValue174
 t146:=Tryz.underlying363
 a146:=Tryz.isAgg363
 z146:=Tryz.sizeOf363
 v146:=Tryz.zeroValue363
 t148:=Tryz.underlying365
 a148:=Tryz.isAgg365
 z148:=Tryz.sizeOf365
 v148:=Tryz.zeroValue365
 t164:=Tryz.underlying229
 a164:=Tryz.isAgg229
 z164:=Tryz.sizeOf229
 v164:=Tryz.zeroValue229}
theorem Tryz.nY:Builder.Extra Tryz.prog Tryz.qQ:= {
 sizeBuilder:=by kernel_rfl
 liesBuilder:=by kernel_rfl
 t5:=Tryz.underlying5
 a5:=Tryz.isAgg5
 z5:=Tryz.sizeOf5
 v5:=Tryz.zeroValue5
 infoByte:=by kernel_rfl
 cellsByte:=by kernel_rfl
 sizeByte:=by kernel_rfl
 neB5:=by decide}
open Go.RowKit Go.Lib in
theorem Tryz.strings_Repeat(s:ByteArray)(c:Nat)(w:World)(hc:c<=9223372036854775807)(hlen:s.size*c<=140737488355328):
  Calls Tryz.prog 223 #[.string s, .int .i64 c] w λe w'=>e= .returned (.string ⟨(Lib.repeatL s.data.toList c).toArray⟩)/\Below w.heap.size w w':=Any.strings_Repeat Tryz.LP Tryz.nY s c w hc hlen
end Go.Proofs
