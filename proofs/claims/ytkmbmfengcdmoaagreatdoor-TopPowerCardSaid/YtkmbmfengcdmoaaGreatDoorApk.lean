/- An append leaves the old view of its row as it was. No condition. -/
import Derived.Test.YtkmbmfengcdmoaaGreatDoorA0
import Derived.Maps.AppendAt
import Derived.Laws.Append
import Derived.Laws.AppendOwn
set_option linter.all false
namespace Go.Apk
open Go
variable {P:Program} (w:World)
theorem oi(base:Nat)(t ty e:TypeId)(i:TypeInfo)(z:Value)(size bytes:Nat)(G:P.underlying t=some (.slice e))(C:P.info? e=some i)(hz:i.zero=some z)
  (o:i.size=size) (x:i.bytes=bytes) (J:z.cells.size=size) (F:0<size)
  (v:Value) (n:Nat) (y:List Value) (h:w.ownsRow base e size v n y)
  (a:Addr) (m c:Nat) (b:List Value) (E:b.length=m*size) (f:∀j u,b[j]? =some u->w.cell? (a.add j)=some u) (L:∀u∈b,u.oneCell'=true)
  (p:n+m<=maxLen) (d:(n+m)*bytes<=140737488355328) (q:base<=w.heap.size) (hm:0<m) (s:∀g cap,v= .slice (some ⟨g,0,none⟩) n cap->cap<n+m):
  ∃cap w',(Builtin.append_ #[t,t] ty #[v, .slice (some a) m c]).run P w= .ok (.slice (some ⟨w.heap.size,0,none⟩) (n+m) cap) w'/\w'.ownsRow base e size (.slice (some ⟨w.heap.size,0,none⟩) (n+m) cap) (n+m) (y++b)/\w.grownBy w' none:=by
 obtain⟨U,w',A,B,_⟩:=run_append_own_at (P:=P) w base t ty e i z size bytes G C hz o x J F v n y h a m c b E f L p d q;subst o;subst x;rcases h.2 with⟨rfl,rfl⟩|⟨g,cap,K,rfl,N,T,S,O,Q,H⟩
 ·have l:=run_append_nil (P:=P) w t ty e i z G C hz a m c b E f (by omega) (by simp only[maxLen]at p;omega) (by have M:=d;simp only[nW]at M;omega);rw[A]at l;injection l with hv I;subst hv I;rw[nW]at B⊢;exact⟨_,_,A,B,⟨rfl,rfl,rfl,by simp,λk D _=>heap_alloc_old w.drew _ k D⟩⟩
 ·have R:=s g cap rfl;have r:∀j u,y[j]? =some u->w.cell? ((⟨g,0,none⟩:Addr).add j)=some u:=h.cells (g:=g) rfl;have l:=run_append_grow (P:=P) w t ty e i z G C hz ⟨g,0,none⟩ n cap y h.1 r a m c b E f (by omega) (by simp only[maxLen]at p;omega) (growslice_fits (by omega) d);rw[A]at l;injection l with hv I;subst hv I;exact⟨_,_,A,B,⟨rfl,rfl,rfl,by simp,λk D _=>heap_alloc_old w.drew _ k D⟩⟩
def nU(cur:Array Value)(o:Nat)(news:List Value):Array Value:=(cur.toList.take o++news++cur.toList.drop (o+news.length)).toArray
theorem fH(cur:Array Value)(o:Nat)(a:List Value)(h:o+a.length<=cur.size):(nU cur o a).size=cur.size:=by simp[nU];omega
theorem tK(cur:Array Value)(o:Nat)(a:List Value)(h:o+a.length<=cur.size):(nU cur o a).toList.take o=cur.toList.take o:=by simp only[nU,List.append_assoc];rw[P7 (by simp;omega),List.take_take,Nat.min_self]
theorem rT(cur:Array Value)(o:Nat)(a:List Value)(h:o+a.length<=cur.size):nU (nU cur o a) o a=nU cur o a:=by
 have b:=tK cur o a h;have c:(nU cur o a).toList.drop (o+a.length)=cur.toList.drop (o+a.length):=by simp only[nU];rw[PZ (by simp;omega)]
 unfold nU at b c⊢;rw[b,c]
theorem lJ(t ty e:TypeId)(i:TypeInfo)(size:Nat)(s:P.underlying t=some (.slice e))(r:P.info? e=some i)(h:i.size=size)
  (g n cap:Nat) (cur:Array Value) (q:w.heap[g]? =some (.cells cur e (0,0)))
  (a:Addr) (m c:Nat) (b:List Value) (o:b.length=m*size) (f:∀j u,b[j]? =some u->w.cell? (a.add j)=some u) (p:∀u∈b,u.oneCell'=true)
  (d:n+m<=cap) (l:cur.size=cap*size):
  (Builtin.append_ #[t,t] ty #[.slice (some ⟨g,0,none⟩) n cap, .slice (some a) m c]).run P w= .ok (.slice (some ⟨g,0,none⟩) (n+m) cap) (w.setRow g (nU cur (n*size) b)):=by
 subst h;have k:n*i.size+b.length<=cur.size:=by rw[o,l, <-Nat.add_mul];exact Nat.mul_le_mul_right _ d
 exact run_append_room (P:=P) w t ty e i s r g n cap cur q a m c b o f p d k
theorem foldl_set:∀(l:List Value) (k:Nat) (Z:Array Value),k+l.length<=Z.size->((l.zipIdx k).foldl (λcs (p:Value×Nat)=>cs.setIfInBounds (0+p.2) p.1) Z).toList=Z.toList.take k++l++Z.toList.drop (k+l.length)
 | [],k,Z,_=>by simp
 |x::r,k,Z,h=>by
  simp only[List.zipIdx_cons,RY];have a:k+1+r.length<=(Z.setIfInBounds (0+k) x).size:=by simp at h⊢;omega
  rw[foldl_set r (k+1) _ a];have b:k<Z.toList.length:=by simp at h⊢;omega
  simp only[nW,Array.toList_setIfInBounds,kq];rw[zX,List.take_set_of_le (aL _),Sk b,List.drop_set_of_lt (by omega)];simp only[Option.toList_some,List.append_assoc,xC,xK];rw[show k+1+r.length=k+(r.length+1) by omega]
theorem fj(t e:TypeId)(i:TypeInfo)(z:Value)(m:P.underlying t=some (.slice e))(d:P.info? e=some i)(hz:i.zero=some z)(E:Array Value)(h:E.size=i.size)(k:0<i.size)(l:i.size<=16777216):
  (Instr.buildSlice t 1 #[(0, .agg E)]).run P w= .ok (.slice (some ⟨w.heap.size,0,none⟩) 1 1) (w.alloc (.cells E e)):=by
 have a:Instr.fill (λj=>some (j*i.size,i.size)) ((Array.range (1*i.size)).map (z.cells[· % z.cells.size]!)) [(0, .agg E)]=some E:=by
  unfold Instr.fill;simp only[Nat.zero_mul,Value.cells];rw[if_neg (by simp[h])];unfold Instr.fill;congr 1;apply M5
  have:=foldl_set E.toList 0 ((Array.range (1*i.size)).map (z.cells[· % z.cells.size]!)) (by simp;omega);rw[<-Array.foldl_toList,Array.toList_zipIdx];refine Eq.trans ?_ (this.trans ?_)
  ·rfl
  ·simp;omega
 have f: ¬(1*i.size>2 ^ 24):=by omega
 have g: ¬(1*i.size=0):=by omega
 have b:(sizeOf e).run P w= .ok i.size w:=by simp[sizeOf,typeInfo,d]
 have c:(zeroValue e).run P w= .ok z w:=by simp[zeroValue,typeInfo,d,hz]
 simp only[Instr.buildSlice,Sem.run_bind,run_underlying m,b,Result.andThen_ok,if_neg f,if_neg g,c,Sem.run_pure,a];rfl
end Go.Apk
