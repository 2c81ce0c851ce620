/- An append leaves the old view of its row as it was. No condition. -/
import Derived.Test.YtkmbmfengcdmoaaGreatDoorA0
import Derived.Maps.AppendAt
import Derived.Laws.Append
import Derived.Laws.AppendOwn
set_option linter.all false
namespace Go.Apk
open Go
variable {P:Program} (w:World)
theorem oi(base:Nat)(t ty e:TypeId)(i:TypeInfo)(z:Value)(size bytes:Nat)(ht:P.underlying t=some (.slice e))(hi:P.info? e=some i)(hz:i.zero=some z)
  (hsize:i.size=size) (hby:i.bytes=bytes) (hzs:z.cells.size=size) (hsz:0<size)
  (v:Value) (n:Nat) (xs:List Value) (hown:w.ownsRow base e size v n xs)
  (a:Addr) (m c:Nat) (news:List Value) (hl:news.length=m*size) (hnews:∀j u,news[j]? =some u->w.cell? (a.add j)=some u) (h1:∀u∈news,u.oneCell'=true)
  (h63:n+m<=maxLen) (hbytes:(n+m)*bytes<=140737488355328) (hbase:base<=w.heap.size) (hm:0<m) (hroom:∀g cap,v= .slice (some ⟨g,0,none⟩) n cap->cap<n+m):
  ∃cap w',(Builtin.append_ #[t,t] ty #[v, .slice (some a) m c]).run P w= .ok (.slice (some ⟨w.heap.size,0,none⟩) (n+m) cap) w'/\w'.ownsRow base e size (.slice (some ⟨w.heap.size,0,none⟩) (n+m) cap) (n+m) (xs++news)/\w.grownBy w' none:=by
 obtain⟨v',w',hr,h2,_⟩:=run_append_own_at (P:=P) w base t ty e i z size bytes ht hi hz hsize hby hzs hsz v n xs hown a m c news hl hnews h1 h63 hbytes hbase;subst hsize;subst hby;rcases hown.2 with⟨rfl,rfl⟩|⟨g,cap,cur,rfl,hbg,hg,hnc,hcm,hcs,htake⟩
 ·have hr2:=run_append_nil (P:=P) w t ty e i z ht hi hz a m c news hl hnews (by omega) (by simp only[maxLen]at h63;omega) (by have hb:=hbytes;simp only[nW]at hb;omega);rw[hr]at hr2;injection hr2 with hv hw;subst hv hw;rw[nW]at h2⊢;exact⟨_,_,hr,h2,⟨rfl,rfl,rfl,by simp,λk hk _=>heap_alloc_old w.drew _ k hk⟩⟩
 ·have hlt:=hroom g cap rfl;have holds:∀j u,xs[j]? =some u->w.cell? ((⟨g,0,none⟩:Addr).add j)=some u:=hown.cells (g:=g) rfl;have hr2:=run_append_grow (P:=P) w t ty e i z ht hi hz ⟨g,0,none⟩ n cap xs hown.1 holds a m c news hl hnews (by omega) (by simp only[maxLen]at h63;omega) (growslice_fits (by omega) hbytes);rw[hr]at hr2;injection hr2 with hv hw;subst hv hw;exact⟨_,_,hr,h2,⟨rfl,rfl,rfl,by simp,λk hk _=>heap_alloc_old w.drew _ k hk⟩⟩
def nU(cur:Array Value)(o:Nat)(news:List Value):Array Value:=(cur.toList.take o++news++cur.toList.drop (o+news.length)).toArray
theorem fH(cur:Array Value)(o:Nat)(news:List Value)(h:o+news.length<=cur.size):(nU cur o news).size=cur.size:=by simp[nU];omega
theorem tK(cur:Array Value)(o:Nat)(news:List Value)(h:o+news.length<=cur.size):(nU cur o news).toList.take o=cur.toList.take o:=by simp only[nU,List.append_assoc];rw[P7 (by simp;omega),List.take_take,Nat.min_self]
theorem rT(cur:Array Value)(o:Nat)(news:List Value)(h:o+news.length<=cur.size):nU (nU cur o news) o news=nU cur o news:=by
 have h1:=tK cur o news h;have h2:(nU cur o news).toList.drop (o+news.length)=cur.toList.drop (o+news.length):=by simp only[nU];rw[PZ (by simp;omega)]
 unfold nU at h1 h2⊢;rw[h1,h2]
theorem lJ(t ty e:TypeId)(i:TypeInfo)(size:Nat)(ht:P.underlying t=some (.slice e))(hi:P.info? e=some i)(hsize:i.size=size)
  (g n cap:Nat) (cur:Array Value) (hg:w.heap[g]? =some (.cells cur e (0,0)))
  (a:Addr) (m c:Nat) (news:List Value) (hl:news.length=m*size) (hnews:∀j u,news[j]? =some u->w.cell? (a.add j)=some u) (h1:∀u∈news,u.oneCell'=true)
  (hroom:n+m<=cap) (hcs:cur.size=cap*size):
  (Builtin.append_ #[t,t] ty #[.slice (some ⟨g,0,none⟩) n cap, .slice (some a) m c]).run P w= .ok (.slice (some ⟨g,0,none⟩) (n+m) cap) (w.setRow g (nU cur (n*size) news)):=by
 subst hsize;have hfit:n*i.size+news.length<=cur.size:=by rw[hl,hcs, <-Nat.add_mul];exact Nat.mul_le_mul_right _ hroom
 exact run_append_room (P:=P) w t ty e i ht hi g n cap cur hg a m c news hl hnews h1 hroom hfit
theorem foldl_set:∀(l:List Value) (k:Nat) (Z:Array Value),k+l.length<=Z.size->((l.zipIdx k).foldl (λcs (p:Value×Nat)=>cs.setIfInBounds (0+p.2) p.1) Z).toList=Z.toList.take k++l++Z.toList.drop (k+l.length)
 | [],k,Z,_=>by simp
 |x::r,k,Z,h=>by
  simp only[List.zipIdx_cons,RY];have h2:k+1+r.length<=(Z.setIfInBounds (0+k) x).size:=by simp at h⊢;omega
  rw[foldl_set r (k+1) _ h2];have hk:k<Z.toList.length:=by simp at h⊢;omega
  simp only[nW,Array.toList_setIfInBounds,kq];rw[zX,List.take_set_of_le (aL _),Sk hk,List.drop_set_of_lt (by omega)];simp only[Option.toList_some,List.append_assoc,xC,xK];rw[show k+1+r.length=k+(r.length+1) by omega]
theorem fj(t e:TypeId)(i:TypeInfo)(z:Value)(ht:P.underlying t=some (.slice e))(hi:P.info? e=some i)(hz:i.zero=some z)(E:Array Value)(hE:E.size=i.size)(hs0:0<i.size)(hs1:i.size<=16777216):
  (Instr.buildSlice t 1 #[(0, .agg E)]).run P w= .ok (.slice (some ⟨w.heap.size,0,none⟩) 1 1) (w.alloc (.cells E e)):=by
 have hfill:Instr.fill (λj=>some (j*i.size,i.size)) ((Array.range (1*i.size)).map (z.cells[· % z.cells.size]!)) [(0, .agg E)]=some E:=by
  unfold Instr.fill;simp only[Nat.zero_mul,Value.cells];rw[if_neg (by simp[hE])];unfold Instr.fill;congr 1;apply M5
  have:=foldl_set E.toList 0 ((Array.range (1*i.size)).map (z.cells[· % z.cells.size]!)) (by simp;omega);rw[<-Array.foldl_toList,Array.toList_zipIdx];refine Eq.trans ?_ (this.trans ?_)
  ·rfl
  ·simp;omega
 have h0: ¬(1*i.size>2 ^ 24):=by omega
 have h1: ¬(1*i.size=0):=by omega
 have hsz:(sizeOf e).run P w= .ok i.size w:=by simp[sizeOf,typeInfo,hi]
 have hzv:(zeroValue e).run P w= .ok z w:=by simp[zeroValue,typeInfo,hi,hz]
 simp only[Instr.buildSlice,Sem.run_bind,run_underlying ht,hsz,Result.andThen_ok,if_neg h0,if_neg h1,hzv,Sem.run_pure,hfill];rfl
end Go.Apk
