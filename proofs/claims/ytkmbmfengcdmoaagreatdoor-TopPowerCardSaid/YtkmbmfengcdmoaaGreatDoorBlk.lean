/- Blocks of cells that are known whole: what a load, a store, a new block and a call that keeps old memory do to them. No condition. -/
import Derived.Test.YtkmbmfengcdmoaaGreatDoorA0
import Derived.WalkKit
import Derived.WalkSpells
import Derived.Laws.IdiomStrings
import Derived.Lib.Hide
import Derived.Deep.QuietTactic
set_option linter.all false
namespace Go
theorem T0{α:Type}(l:List α)(i:Nat)(a:α):l.toArray.setIfInBounds i a=(l.set i a).toArray:=List.setIfInBounds_toArray ..
theorem T1{α:Type}{a b:α}{l:List α}{i:Nat}:(a::l).set (i+1) b=a::l.set i b:=Sa
theorem T2{α:Type}{a b:α}{l:List α}:(a::l).set 0 b=b::l:=R9
theorem h_{p:Prop}(h:p):RowKit.Hid p:=h
theorem Pt:(∀(a:Act) (d:Tmp) (v:Value),a.put (some d) v= {a with tmps:=a.tmps.setIfInBounds d v})/\(∀(a:Act) (v:Value),a.put none v=a)/\(∀ {α:Type} (l:List α) (i:Nat) (a:α),l.toArray.setIfInBounds i a=(l.set i a).toArray)/\(∀ {α:Type} {a b:α} {l:List α} {i:Nat},(a::l).set (i+1) b=a::l.set i b)/\(∀ {α:Type} {a b:α} {l:List α},(a::l).set 0 b=b::l):=
 ⟨λ_ _ _=>rfl,λ_ _=>rfl,T0,T1,T2⟩
end Go
namespace Go.ay
open Go Go.RowKit
def ay(w:World)(b:Nat)(cs:List Value)(T:TypeId):Prop:=w.heap[b]? =some (.cells cs.toArray T (0,0))

theorem ay.lt{w:World}{b:Nat}{cs:List Value}{T:TypeId}(h:ay w b cs T):b<w.heap.size:=by unfold ay at h;exact(iS.1 h).1
theorem ay.cell{w:World}{b:Nat}{cs:List Value}{T:TypeId}(h:ay w b cs T)(i:Nat)(a:i<cs.length):w.cell? ⟨b,i,none⟩=some cs[i]:=by unfold ay at h;simp[World.cell?,h,a]
theorem ay.ag{w:World}{b:Nat}{cs:List Value}{T:TypeId}(h:ay w b cs T)(i:Nat)(v:Value)(a:cs[i]? =some v):w.cell? ⟨b,i,none⟩=some v:=by obtain⟨c,rfl⟩:=jS.1 a;exact h.cell i c
theorem ay.frozen{w:World}{b:Nat}{cs:List Value}{T:TypeId}(h:ay w b cs T)(i:Nat):w.frozen? ⟨b,i,none⟩=false:=by unfold ay at h;simp[World.frozen?,h]
theorem ay.set{w:World}{b:Nat}{cs:List Value}{T:TypeId}(h:ay w b cs T)(i:Nat)(v:Value):ay (w.setCell ⟨b,i,none⟩ v) b (cs.set i v) T:=by unfold ay at*;simp only[World.setCell,vS,uf,h,GK];simp
theorem ay.cL{w:World}{b:Nat}{cs:List Value}{T:TypeId}(h:ay w b cs T){a:Addr}(c:a.block≠b)(v:Value):ay (w.setCell a v) b cs T:=by unfold ay at*;rw[Below.heap_setCell _ _ _ _ (nq c)];exact h
theorem ay.alloc{w:World}{b:Nat}{cs:List Value}{T:TypeId}(h:ay w b cs T)(o:Obj):ay (w.alloc o) b cs T:=by have:=h.lt;unfold ay at*;rw[Below.heap_alloc _ _ _ this];exact h
theorem ay.new(w:World)(cs:List Value)(T:TypeId):ay (w.alloc (.cells cs.toArray T (0,0))) w.heap.size cs T:=by show(w.heap.push _)[w.heap.size]? =_;simp
theorem ay.yQ(w:World)(cs:Array Value)(T:TypeId):ay (w.alloc (.cells cs T (0,0))) w.heap.size cs.toList T:=by show(w.heap.push _)[w.heap.size]? =_;simp
theorem ay.made{w:World}{b:Nat}{l:List Value}{cs:Array Value}{T:TypeId}(a:b=w.heap.size)(c:cs.toList=l):ay (w.alloc (.cells cs T (0,0))) b l T:=by subst a;subst c;exact ay.yQ w cs T
theorem ay.drew{w:World}{b:Nat}{cs:List Value}{T:TypeId}(h:ay w b cs T):ay w.drew b cs T:=h
theorem ay.drewN{w:World}{b:Nat}{cs:List Value}{T:TypeId}(h:ay w b cs T)(n:Nat):ay (w.drewN n) b cs T:=h
theorem ay.below{w w':World}{b B:Nat}{cs:List Value}{T:TypeId}(h:ay w b cs T)(c:Below B w w')(a:b<B):ay w' b cs T:=by unfold ay at*;rw[c.block b a];exact h

theorem ay.bG{w w':World}{b:Nat}{cs:List Value}{T:TypeId}(h:ay w b cs T)(a:w'.heap[b]? =w.heap[b]?):ay w' b cs T:=by unfold ay at*;exact a.trans h
def C8(x:UInt8):Value:= .int .u8 x.toNat
theorem addr_add(b o j:Nat):(⟨b,o,none⟩:Addr).add j=⟨b,o+j,none⟩:=by unfold Addr.add;split<;>simp_all
theorem sq{P:Program}{w:World}{c a e:TypeId}{b cap:Nat}{cs:List Value}{T:TypeId}(l:List UInt8)(k:P.underlying c=some (.slice e))(h:P.underlying e=some (.int .u8))(g:P.underlying a=some .string)
  (f:ay w b cs T) (i:∀j (d:j<l.length),cs[j]? =some (C8 l[j])):(convert c a (.slice (some ⟨b,0,none⟩) l.length cap)).run P w= .ok (.string ⟨l.toArray⟩) w:=
 run_convert_bytes_back (P:=P) w c a e ⟨b,0,none⟩ cap l k h g (λj d=>by rw[addr_add,nW];exact f.ag j _ (i j d))

end Go.ay
