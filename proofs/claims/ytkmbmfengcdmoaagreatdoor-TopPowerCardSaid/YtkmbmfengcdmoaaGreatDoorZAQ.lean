/- The disk's New and settle: what they return and change. -/
import Derived.Test.YtkmbmfengcdmoaaGreatDoorBlk
import Derived.Test.YtkmbmfengcdmoaaGreatDoorA0
import Derived.MapKept
import Derived.WalkKit
import Derived.Below
import Derived.Lib.Hide
import Derived.ChangeMaps4
import Derived.Test.YtkmbmfengcdmoaaGreatDoorProg
import Derived.Laws.OwnMore
import Derived.Laws.MakeOwn
import Derived.Test.YtkmbmfengcdmoaaGreatDoorFree
import Derived.Laws.CopyOwn
import Derived.Deep.MidRow
import Derived.Deep.WholeRow
import Derived.Deep.Light
set_option linter.all false
namespace Go.Dk

structure DD where
 on:Bool
 st:List UInt8
 aF:List (Nat×List UInt8)
 bH:Bool
 after:Int
 writes:Int
 bytes:Int

def aX(l:List UInt8)(o:Nat)(t:List UInt8):List UInt8:=l.take o++(t++l.drop (o+t.length))
theorem fI(l t:List UInt8)(o:Nat)(h:o+t.length<=l.length):(aX l o t).length=l.length:=by simp[aX];omega
def fU(i:Nat):List (Nat×List UInt8)->Int->Option Int
 | [],_=>none
 |x::r,y=>match fU (i+1) r y with
  |some j=>some j
  |none=>if y=(x.1:Int)then some i else none
def fR(p:List (Nat×List UInt8)):Int->Option Int:=fU 0 p
theorem um(p:List (Nat×List UInt8))(x:Nat×List UInt8):∀(i:Nat) (y:Int),fU i (p++ [x]) y=if y=(x.1:Int)then some ((i+p.length:Nat):Int)else fU i p y:=by
 induction p with
 |nil=>intro i y;simp[fU]
 |cons a r ih=>
  intro i y;simp only[xC,fU,ih];by_cases h:y=(x.1:Int)
  ·simp[h];omega
  ·simp[h]
theorem qP(p:List (Nat×List UInt8))(x:Nat×List UInt8):fR (p++ [x])=λy=>if y=(x.1:Int)then some (p.length:Int)else fR p y:=by funext y;unfold fR;rw[um];simp
theorem uq(p:List (Nat×List UInt8)):∀(i:Nat) (y j:Int),fU i p y=some j->∃(m:Nat) (x:Nat×List UInt8),j=((i+m:Nat):Int)/\p[m]? =some x/\(x.1:Int)=y:=by
 induction p with
 |nil=>intro i y j h;simp[fU]at h
 |cons a r ih=>
  intro i y j h;simp only[fU]at h;cases hr:fU (i+1) r y with
  |some j'=>rw[hr]at h;simp at h;subst h;obtain⟨m,x,c,g,l⟩:=ih _ _ _ hr;exact⟨m+1,x,by rw[c];congr 1;omega,by simpa using g,l⟩
  |none=>rw[hr]at h;simp at h;exact⟨0,a,by simp[h.2],rfl,h.1.symm⟩
theorem lX{p:List (Nat×List UInt8)}{y j:Int}(h:fR p y=some j):∃(m:Nat) (x:Nat×List UInt8),j=(m:Int)/\p[m]? =some x/\(x.1:Int)=y:=by obtain⟨m,x,a,c,g⟩:=uq p 0 y j h;exact⟨m,x,by simpa using a,c,g⟩
def rR(st:List UInt8)(p:List (Nat×List UInt8))(ws bs:Nat):Nat->List UInt8
 |0=>st
 |k+1=>match p[k]? with
  |none=>rR st p ws bs k
  |some x=>if k<ws then aX (rR st p ws bs k) (32*x.1) x.2 else if k=ws then aX (rR st p ws bs k) (32*x.1) (x.2.take bs)else rR st p ws bs k
def settled(st:List UInt8)(p:List (Nat×List UInt8))(ws bs:Nat):List UInt8:=rR st p ws bs p.length

structure DD.Ok (n:Nat) (d:DD):Prop where
 len:d.st.length=32*n
 sec:∀(i:Nat) x,d.aF[i]? =some x->x.1<n/\x.2.length=32
 jX:d.aF.length<=1000000
 a0: -9223372036854775808<=d.after
 a1:d.after<=9223372036854775807
 w0: -9223372036854775808<=d.writes
 w1:d.writes<=9223372036854775807
 b0: -9223372036854775808<=d.bytes
 b1:d.bytes<=9223372036854775807
 n1:1<=n
 n2:n<=4000
theorem rS{n:Nat}{st:List UInt8}{p:List (Nat×List UInt8)}(ws bs:Nat)(c:st.length=32*n)(g:∀(i:Nat) x,p[i]? =some x->x.1<n/\x.2.length=32):∀k,(rR st p ws bs k).length=32*n
 |0=>c
 |k+1=>by
  have a:=rS ws bs c g k;unfold rR;cases hx:p[k]? with
  |none=>exact a
  |some x=>
   obtain⟨h,j⟩:=g k x hx;simp only;split
   ·rw[fI _ _ _ (by omega)];exact a
   ·split
    ·rw[fI _ _ _ (by rw[jQ];omega)];exact a
    ·exact a

def cj(x:Int):Nat:=(max x 0).toNat
def bX(x:Int):Nat:=(min (max x 0) 32).toNat
def DD.fail(d:DD)(w b:Int):DD:=if d.on then {d with on:=false,st:=settled d.st d.aF (cj w) (bX b),aF:= [],bH:=false}else d
def DD.start(d:DD):DD:= {d with on:=true,bH:=false}
def DD.arm(d:DD)(a w b:Int):DD:=if d.on then {d with bH:=decide (0<=a),after:=a,writes:=w,bytes:=b}else d
def DD.dh(d:DD):Bool:=d.bH&&decide (d.after<=0)
def DD.tick(d:DD):DD:=if d.bH/\0<d.after then {d with after:=d.after-1}else d
def DD.sync(d:DD):DD×Int:=
 if d.on then(if d.dh then(d.fail d.writes d.bytes,21)else({d.tick with st:=settled d.st d.aF d.aF.length 0,aF:= []},0))else(d,21)
def DD.hasB(n:Nat)(s:Int):Bool:=decide (0<=s/\s<n)
def DD.push(d:DD)(s:Int)(t:List UInt8):DD:= {d with aF:=d.aF++ [(s.toNat,t)]}
def DD.write(n:Nat)(d:DD)(s:Int)(t:List UInt8):DD×Int:=
 if d.on then(if DD.hasB n s/\t.length=32 then(if d.dh then((d.push s t).fail d.writes d.bytes,21)else((d.push s t).tick,0))else(d,1))else(d,21)
def DD.text(d:DD)(s:Nat):List UInt8:=
 match fR d.aF s with
 |some j=>((d.aF[j.toNat]?).map (·.2)).getD []
 |none=>(d.st.drop (32*s)).take 32
def DD.read(n:Nat)(d:DD)(s:Int):List UInt8×Int:=
 if d.on then(if DD.hasB n s then(d.text s.toNat,0)else([],1))else([],21)
def DD.new(n:Nat):DD:= {on:=true,st:=List.replicate (32*n) 0,aF:= [],bH:=false,after:=0,writes:=0,bytes:=0}

theorem DD.Ok.new{n:Nat}(a:1<=n)(c:n<=4000):(DD.new n).Ok n:=⟨by simp[DD.new],λi x h=>by simp[DD.new]at h,by simp[DD.new],show(-9223372036854775808:Int)<=0 by decide,show(0:Int)<=9223372036854775807 by decide,show(-9223372036854775808:Int)<=0 by decide,show(0:Int)<=9223372036854775807 by decide,show(-9223372036854775808:Int)<=0 by decide,show(0:Int)<=9223372036854775807 by decide,a,c⟩
theorem DD.Ok.start{n:Nat}{d:DD}(h:d.Ok n):d.start.Ok n:=⟨h.len,h.sec,h.jX,h.a0,h.a1,h.w0,h.w1,h.b0,h.b1,h.n1,h.n2⟩
theorem DD.Ok.settle{n:Nat}{d:DD}(h:d.Ok n)(ws bs:Nat)(o a:Bool):({d with on:=o,st:=settled d.st d.aF ws bs,aF:= [],bH:=a}:DD).Ok n:=
 ⟨rS ws bs h.len h.sec _,λi x c=>by simp at c,by simp,h.a0,h.a1,h.w0,h.w1,h.b0,h.b1,h.n1,h.n2⟩
theorem DD.Ok.fail{n:Nat}{d:DD}(h:d.Ok n)(w b:Int):(d.fail w b).Ok n:=by
 unfold DD.fail;split
 ·exact h.settle _ _ _ _
 ·exact h
theorem DD.Ok.tick{n:Nat}{d:DD}(h:d.Ok n):d.tick.Ok n:=by
 unfold DD.tick;split
 ·rename_i a;exact⟨h.len,h.sec,h.jX,by have:=h.a0;show _<=d.after-1;omega,by have:=h.a1;show d.after-1<=_;omega,h.w0,h.w1,h.b0,h.b1,h.n1,h.n2⟩
 ·exact h
theorem DD.Ok.push{n:Nat}{d:DD}(h:d.Ok n){s:Int}{t:List UInt8}(c:DD.hasB n s=true)(g:t.length=32)(j:d.aF.length<1000000):(d.push s t).Ok n:=by
 refine⟨h.len,λi x a=> ?_,by simp[DD.push];omega,h.a0,h.a1,h.w0,h.w1,h.b0,h.b1,h.n1,h.n2⟩;simp only[DD.push,List.getElem?_append]at a;split at a
 ·exact h.sec i x a
 ·have:x=(s.toNat,t):=by
   cases hk:i-d.aF.length with
   |zero=>rw[hk]at a;simpa using a.symm
   |succ k=>rw[hk]at a;simp at a
  subst this;simp[DD.hasB]at c;exact⟨by simp;omega,g⟩
end Go.Dk
namespace Go.Mp
open Go Go.RowKit

instance decKey (v:Value) (k:Int):Decidable (v= .int .i64 k):=by
 cases v with
 |int q a=>exact if h:q= .i64/\a=k then isTrue (by obtain⟨rfl,rfl⟩:=h;rfl)else isFalse (λe=>by injection e with e1 e2;exact h ⟨e1,e2⟩)
 |_=>exact isFalse (λe=>by cases e)
def look:List MapEntry->Int->Option Int
 | [],_=>none
 |e::r,k=>if e.key= .int .i64 k then(match e.val with| .int _ v=>some v|_=>none)else look r k
def Ints(l:List MapEntry):Prop:=∀e∈l,∃k v,e.key= .int .i64 k/\e.val= .int .i64 v
def bL(w:World)(b:Nat)(f:Int->Option Int):Prop:=
 ∃(es:Array MapEntry) (clock:Nat),w.heap[b]? =some (.map es clock)/\Ints es.toList/\∀k,look es.toList k=f k
theorem bL.lt{w:World}{b:Nat}{f:Int->Option Int}(h:bL w b f):b<w.heap.size:=by obtain⟨g,c,a,_⟩:=h;exact(iS.1 a).1
theorem bL.bD{w w':World}{b:Nat}{f:Int->Option Int}(h:bL w b f)(l:w'.heap[b]? =w.heap[b]?):bL w' b f:=by obtain⟨a,c,j,g,i⟩:=h;exact⟨a,c,l.trans j,g,i⟩
theorem bL.made(w:World):bL (w.alloc (.map #[] 0)) w.heap.size (λ_=>none):=
 ⟨#[],0,by show(w.heap.push _)[w.heap.size]? =_;simp,λe a=>by simp at a,λ_=>rfl⟩

theorem qe:∀(l:List MapEntry) (k:Int) (i:Nat),Ints l->look l k=none->Instr.findNow (.int .i64) (.int .i64 k) l i=some none
 | [],_,_,_,_=>rfl
 |e::r,k,i,hi,h=>by
  obtain⟨a,v,g,hv⟩:=hi e (by simp);unfold look at h;rw[g,hv]at h;by_cases c:a=k
  ·subst c;simp at h
  ·rw[if_neg (by intro e;injection e with _ e;exact c e)]at h;unfold Instr.findNow;rw[g]
   have:Instr.sameNow (.int .i64) (.int .i64 k) (.int .i64 a)=some false:=by simp[Instr.sameNow];exact λe=>c e.symm
   rw[this];exact qe r k (i+1) (λe j=>hi e (by simp[j])) h
theorem qf:∀(l:List MapEntry) (k v:Int) (i:Nat),Ints l->look l k=some v->∃j e,Instr.findNow (.int .i64) (.int .i64 k) l i=some (some (i+j, .int .i64 v))/\l[j]? =some e/\e.key= .int .i64 k/\∀m,m<j->∀p,l[m]? =some p->p.key≠ .int .i64 k
 | [],_,_,_,_,h=>by cases h
 |e::r,k,v,i,hi,h=>by
  obtain⟨a,u,o,s⟩:=hi e (by simp);unfold look at h;rw[o,s]at h;by_cases g:a=k
  ·subst g;simp at h;subst h;refine⟨0,e, ?_,rfl,o,λm hm=>by omega⟩;unfold Instr.findNow;rw[o]
   have:Instr.sameNow (.int .i64) (.int .i64 a) (.int .i64 a)=some true:=by simp[Instr.sameNow]
   rw[this,s];rfl
  ·rw[if_neg (by intro e;injection e with _ e;exact g e)]at h;obtain⟨j,p,x,y,z,A⟩:=qf r k v (i+1) (λe B=>hi e (by simp[B])) h;refine⟨j+1,p, ?_,by simpa using y,z,λm hm q c=> ?_⟩
   ·unfold Instr.findNow;rw[o]
    have:Instr.sameNow (.int .i64) (.int .i64 k) (.int .i64 a)=some false:=by simp[Instr.sameNow];exact λe=>g e.symm
    rw[this];simp only;rw[x,Nat.add_right_comm,Nat.add_assoc]
   ·cases m with
    |zero=>simp at c;subst c;rw[o];intro e;injection e with _ e;exact g e
    |succ m=>exact A m (by omega) q (by simpa using c)

section
variable {P:Program} {w:World} {t k e:TypeId} {b:Nat} {f:Int->Option Int}
theorem o7{es:List MapEntry}{x:Int}(a:P.underlying k=some (.int .i64)){r:Option (Nat×Value)}(h:Instr.findNow (.int .i64) (.int .i64 x) es 0=some r):(Instr.findKey k (.int .i64 x) es).run P w= .ok r w:=by simp[Instr.findKey,run_underlying a,h,Result.andThen]
theorem mN{x:Int}(c:Bool)(a:P.underlying k=some (.int .i64)):(Instr.checkKey c 10000 k (.int .i64 x)).run P w= .ok () w:=by
 have h:∀n,(Instr.checkKey c (n+1) k (.int .i64 x)).run P w= .ok () w:=λn=>by
  rw[Instr.checkKey];simp[run_underlying a]
 exact h 9999
theorem bL.Fo(h:bL w b f)(p:P.underlying t=some (.map k e))(a:P.underlying k=some (.int .i64)){x v:Int}(q:f x=some v):
  (Instr.lookup t (.map (some b)) (.int .i64 x) true).run P w= .ok (.tuple #[.int .i64 v, .bool true]) w:=by
 obtain⟨g,c,l,m,o⟩:=h;obtain⟨j,r,i,_⟩:=qf g.toList x v 0 m (by rw[o,q]);simp[Instr.lookup,run_underlying p,MapKept.run_getObj_map l,mN _ a,o7 a i,Result.andThen]
theorem bL.Fm(h:bL w b f)(o:P.underlying t=some (.map k e))(a:P.underlying k=some (.int .i64))(hz:(zeroValue e).run P w= .ok (.int .i64 0) w){x:Int}(p:f x=none):
  (Instr.lookup t (.map (some b)) (.int .i64 x) true).run P w= .ok (.tuple #[.int .i64 0, .bool false]) w:=by
 obtain⟨g,c,j,l,m⟩:=h;have i:=qe g.toList x 0 l (by rw[m,p]);simp[Instr.lookup,run_underlying o,MapKept.run_getObj_map j,mN _ a,o7 a i,hz,Result.andThen]
theorem qS:∀(l:List MapEntry) (j:Nat) (x v:Int) (e:MapEntry),l[j]? =some e->e.key= .int .i64 x->(∀m,m<j->∀g,l[m]? =some g->g.key≠ .int .i64 x)->
  ∀y,look (l.modify j λe=> {e with key:= .int .i64 x,val:= .int .i64 v}) y=if y=x then some v else look l y
 | [],j,_,_,_,h,_,_=>by simp at h
 |a::r,0,x,v,e,h,he,_=>λy=>by
  simp at h;subst h;simp only[List.modify_zero_cons,look];by_cases o:y=x
  ·subst o;simp
  ·have q: ¬Value.int IntKind.i64 x=Value.int IntKind.i64 y:=λe=>o (by injection e with _ e;exact e.symm)
   rw[if_neg q,he,if_neg q,if_neg o]
 |a::r,j+1,x,v,e,h,he,hm=>λy=>by
  have s:=hm 0 (by omega) a rfl;simp only[List.modify_succ_cons,look];by_cases c:a.key= .int .i64 y
  ·have p:y≠x:=by rintro rfl;exact s c
   rw[if_pos c,if_pos c,if_neg p]
  ·rw[if_neg c,if_neg c];exact qS r j x v e (by simpa using h) he (λm u g i=>hm (m+1) (by omega) g (by simpa using i)) y
theorem va:∀(l:List MapEntry) (x v:Int) (c:Nat),Ints l->look l x=none->∀y,look (l++ [{key:= .int .i64 x,val:= .int .i64 v,born:=c}]) y=if y=x then some v else look l y
 | [],x,v,c,_,_=>λy=>by
  simp only[xK,look];by_cases j:y=x
  ·subst j;simp
  ·rw[if_neg j,if_neg (λe=>j (by injection e with _ e;exact e.symm))]
 |a::r,x,v,c,hi,h=>λy=>by
  obtain⟨o,p,q,hv⟩:=hi a (by simp);unfold look at h;have i: ¬a.key= .int .i64 x:=by intro e;rw[if_pos e,hv]at h;cases h
  rw[if_neg i]at h;simp only[xC,look];by_cases g:a.key= .int .i64 y
  ·rw[if_pos g,if_pos g,if_neg (by rintro rfl;exact i g)]
  ·rw[if_neg g,if_neg g];exact va r x v c (λe m=>hi e (by simp[m])) h y
theorem bL.store(h:bL w b f)(H:P.underlying t=some (.map k e))(z:P.underlying k=some (.int .i64))(x v:Int):
  ∃w',(Instr.mapUpdate t (.map (some b)) (.int .i64 x) (.int .i64 v)).run P w= .ok () w'/\bL w' b (λy=>if y=x then some v else f y)/\w.grownBy w' (some b):=by
 obtain⟨g,c,o,p,G⟩:=h;have r:b<w.heap.size:=(iS.1 o).1;cases hx:look g.toList x with
 |none=>
  have A:=qe g.toList x 0 p hx;refine⟨{w with heap:=w.heap.setIfInBounds b (.map (g.push {key:= .int .i64 x,val:= .int .i64 v,born:=c}) (c+1))}, ?_,⟨g.push {key:= .int .i64 x,val:= .int .i64 v,born:=c},c+1,by simp[r], ?_, ?_⟩,⟨rfl,rfl,rfl,by simp,λi _ l=>by
   rw[NM];intro e;exact l (by rw[e])⟩⟩
  ·simp[Instr.mapUpdate,run_underlying H,MapKept.run_getObj_map o,mN _ z,o7 z A,MapKept.run_setObj_map _ o,Result.andThen]
  ·intro C a;simp at a;rcases a with a|rfl
   ·exact p C (by simpa using a)
   ·exact⟨x,v,rfl,rfl⟩
  ·intro y;rw[Array.toList_push,va _ x v c p hx,G]
 |some u=>
  obtain⟨j,D,A,E,F,I⟩:=qf g.toList x u 0 p hx;have B:g[j]? =some D:=by simpa using E
  have s:∀y,look (g.modify j λe=> {e with key:= .int .i64 x,val:= .int .i64 v}).toList y=if y=x then some v else f y:=λy=>by
   rw[Array.toList_modify,qS g.toList j x v D E F I,G]
  refine⟨{w with heap:=w.heap.setIfInBounds b (.map (g.modify j λe=> {e with key:= .int .i64 x,val:= .int .i64 v}) c)}, ?_,⟨_,c,by simp[r], ?_,s⟩,⟨rfl,rfl,rfl,by simp,λi _ l=>by
   rw[NM];intro e;exact l (by rw[e])⟩⟩
  ·have J:Instr.sameBits 10000 (.int .i64 x) (.int .i64 x)=true:=by simp[Instr.sameBits]
   simp[Instr.mapUpdate,run_underlying H,MapKept.run_getObj_map o,mN _ z,o7 z A,MapKept.run_setObj_map _ o,Result.andThen,Instr.keyThatStays,B,F,J]
  ·intro C a;rw[Array.toList_modify]at a;obtain⟨m,hm⟩:=NQ.1 a;rw[List.getElem?_modify]at hm;cases hem:g.toList[m]? with
   |none=>rw[hem]at hm;simp at hm
   |some e1=>
    rw[hem]at hm;by_cases q:j=m
    ·simp[q]at hm;subst hm;exact⟨x,v,rfl,rfl⟩
    ·simp[q]at hm;subst hm;exact p _ (ue hem)
theorem xy{ops:Array Oper}{rest:List Oper}{o:Oper}{a:Act}{Q:Exit->Act->World->Prop}(q:o.guard=none)(m x v:Operand)(i:o.op=Op.mapUpdate t m x v)
  (h:bL w b f) (s:P.underlying t=some (.map k e)) (r:P.underlying k=some (.int .i64)) (l j:Int) (hm:a.eval m= .map (some b)) (u:a.eval x= .int .i64 l) (hv:a.eval v= .int .i64 j)
  (p:∀w',bL w' b (λy=>if y=l then some j else f y)->w.grownBy w' (some b)->wpList P ops Q rest (a.put o.dst undef) w'):wpList P ops Q (o::rest) a w:=by
 refine wpList_plain q λB g=> ?_
 obtain⟨w',c,z,A⟩:=h.store s r l j;unfold Oper.wp;simp[execOp,i,hm,u,hv,c,Result.andThen];exact g _ _ (p w' z A)
end
end Go.Mp
namespace Go.Proofs.YtkmbmfengcdmoaaGreatDoor
open Go.RowKit Go.ay Go.Dk Go.Mp
structure aJ (F:Nat->Prop) (w w':World):Prop where
 os:w'.os=w.os
 tape:w'.tape=w.tape
 output:w'.output=w.output
 size:w.heap.size<=w'.heap.size
 block:∀k,k<w.heap.size-> ¬F k->w'.heap[k]? =w.heap[k]?
theorem aJ.refl(F:Nat->Prop)(w:World):aJ F w w:=⟨rfl,rfl,rfl,aL _,λ_ _ _=>rfl⟩
theorem aJ.trans{F G:Nat->Prop}{a b c:World}(h:aJ F a b)(k:aJ G b c)(m:∀i,i<a.heap.size->G i->F i):aJ F a c:=
 ⟨k.os.trans h.os,k.tape.trans h.tape,k.output.trans h.output,fO h.size k.size,λi j l=>(k.block i (nX j h.size) (λg=>l (m i j g))).trans (h.block i j l)⟩
theorem aJ.aY{F:Nat->Prop}{w w':World}(h:Below w.heap.size w w'):aJ F w w':=⟨h.os,h.tape,h.output,h.size,λk a _=>h.block k a⟩
theorem aJ.below{F:Nat->Prop}{w w':World}{B:Nat}(h:aJ F w w')(a:∀k,F k->B<=k)(c:B<=w.heap.size):Below B w w':=
 ⟨h.os,h.tape,h.output,h.size,λk g=>h.block k (by omega) (λf=>by have:=a k f;omega)⟩
theorem aJ.mono{F G:Nat->Prop}{w w':World}(h:aJ F w w')(c:∀k,k<w.heap.size->F k->G k):aJ G w w':=⟨h.os,h.tape,h.output,h.size,λk a g=>h.block k a (λf=>g (c k a f))⟩
theorem aJ.setCell{F:Nat->Prop}{a w:World}(h:aJ F a w){p:Addr}(i:p.block<a.heap.size->F p.block)(v:Value):aJ F a (w.setCell p v):=
 ⟨h.os,h.tape,h.output,by simpa[World.setCell]using h.size,λk c g=>(Below.heap_setCell w p v k (by rintro rfl;exact g (i c))).trans (h.block k c g)⟩
theorem aJ.alloc{F:Nat->Prop}{a w:World}(h:aJ F a w)(o:Obj):aJ F a (w.alloc o):=
 ⟨h.os,h.tape,h.output,fO h.size (by simp),λk c g=>(Below.heap_alloc w o k (nX c h.size)).trans (h.block k c g)⟩
theorem aJ.drew{F:Nat->Prop}{a w:World}(h:aJ F a w):aJ F a w.drew:=⟨h.os,h.tape,h.output,h.size,h.block⟩
theorem aJ.drewN{F:Nat->Prop}{a w:World}(h:aJ F a w)(n:Nat):aJ F a (w.drewN n):=⟨h.os,h.tape,h.output,h.size,h.block⟩
theorem aJ.grown{F:Nat->Prop}{a w w':World}{row:Option Nat}(h:aJ F a w)(c:w.grownBy w' row)(j:∀k,row=some k->k<a.heap.size->F k):aJ F a w':=
 ⟨c.os.trans h.os,c.tape.trans h.tape,c.output.trans h.output,fO h.size c.size,λk g i=>(c.block k (nX g h.size) (λe=>i (j k e.symm g))).trans (h.block k g i)⟩

def bu(x:Nat×List UInt8):List Value:= .int .i64 x.1::x.2.map C8
def se(d:DD)(bs bm:Nat)(pv:Value)(n:Nat):List Value:=
 [.bool d.on, .slice (some ⟨bs,0,none⟩) (32*n) (32*n),pv, .map (some bm), .bool d.bH, .int .i64 d.after, .int .i64 d.writes, .int .i64 d.bytes]
structure aI (w:World) (b bs bm:Nat) (pv:Value) (d:DD) (n:Nat):Prop where
 ok:d.Ok n
 bg:ay w b (se d bs bm pv n) 135
 st:ay w bs (d.st.map C8) 5
 row:w.ownsRow 0 203 33 pv d.aF.length (d.aF.flatMap bu)
 map:bL w bm (fR d.aF)
def Fp(b bs bm:Nat)(pv:Value)(k:Nat):Prop:=k=b\/k=bs\/k=bm\/pv.ownBlock=some k
section
variable {w w':World} {b bs bm n:Nat} {pv:Value} {d:DD}
theorem bC{base:Nat}{e:TypeId}{size m:Nat}{v:Value}{j:List Value}(h:w.ownsRow base e size v m j)(r:∀k,v.ownBlock=some k->w'.heap[k]? =w.heap[k]?):w'.ownsRow base e size v m j:=by
 obtain⟨l,i⟩:=h;refine⟨l, ?_⟩;rcases i with i|⟨g,a,c,rfl,o,p,q⟩
 ·exact .inl i
 ·exact .inr ⟨g,a,c,rfl,o,(r g rfl).trans p,q⟩
theorem aI.bD{F:Nat->Prop}(h:aI w b bs bm pv d n)(c:aJ F w w')(a:∀k,Fp b bs bm pv k-> ¬F k):aI w' b bs bm pv d n:=
 ⟨h.ok,h.bg.bG (c.block b h.bg.lt (a b (.inl rfl))),h.st.bG (c.block bs h.st.lt (a bs (.inr (.inl rfl)))),
  bC h.row (λk e=>c.block k (h.row.lt k e).2 (a k (.inr (.inr (.inr e))))),h.map.bD (c.block bm h.map.lt (a bm (.inr (.inr (.inl rfl)))))⟩
theorem aI.lt(h:aI w b bs bm pv d n){k:Nat}(a:Fp b bs bm pv k):k<w.heap.size:=by
 rcases a with rfl|rfl|rfl|e
 ·exact h.bg.lt
 ·exact h.st.lt
 ·exact h.map.lt
 ·exact(h.row.lt k e).2
theorem aI.below(h:aI w b bs bm pv d n)(a:Below w.heap.size w w'):aI w' b bs bm pv d n:=
 h.bD (F:=λ_=>False) ⟨a.os,a.tape,a.output,a.size,λk c _=>a.block k c⟩ (λ_ _ f=>f)
theorem aI.drew(h:aI w b bs bm pv d n):aI w.drew b bs bm pv d n:=⟨h.ok,h.bg,h.st,h.row,h.map⟩
theorem aI.drewN(h:aI w b bs bm pv d n)(m:Nat):aI (w.drewN m) b bs bm pv d n:=⟨h.ok,h.bg,h.st,h.row,h.map⟩
theorem aI.PN(h:aI w b bs bm pv d n):bs≠b:=by
 rintro rfl
 have:=h.bg.symm.trans h.st;simp at this
theorem aI.Sw(h:aI w b bs bm pv d n):bm≠b:=by
 rintro rfl;obtain⟨a,c,hm,_⟩:=h.map
 have:=h.bg.symm.trans hm;simp at this
theorem aI.TM(h:aI w b bs bm pv d n):bm≠bs:=by
 rintro rfl;obtain⟨a,c,hm,_⟩:=h.map
 have:=h.st.symm.trans hm;simp at this
theorem iM{base:Nat}{e:TypeId}{size m:Nat}{v:Value}{p:List Value}{g:Nat}{cs:List Value}{T:TypeId}(h:w.ownsRow base e size v m p)(l:ay w g cs T)(j:e≠T):v.ownBlock≠some g:=by
 intro hv;rcases h.2 with⟨rfl,_⟩|⟨i,a,c,rfl,_,o,_⟩
 ·simp[Value.ownBlock]at hv
 ·have:i=g:=by simpa[Value.ownBlock]using hv
  subst this
  have:=l.symm.trans o;simp at this;exact j this.2.symm
theorem nJ{base:Nat}{e:TypeId}{size m:Nat}{v:Value}{p:List Value}{g:Nat}{f:Int->Option Int}(h:w.ownsRow base e size v m p)(l:bL w g f):v.ownBlock≠some g:=by
 intro hv;obtain⟨q,c,hm,_⟩:=l;rcases h.2 with⟨rfl,_⟩|⟨j,a,i,rfl,_,o,_⟩
 ·simp[Value.ownBlock]at hv
 ·have:j=g:=by simpa[Value.ownBlock]using hv
  subst this
  have:=hm.symm.trans o;simp at this
theorem aI.set{d':DD}(h:aI w b bs bm pv d n)(i:Nat)(v:Value)(l:(se d bs bm pv n).set i v=se d' bs bm pv n)(o:d'.st=d.st)(g:d'.aF=d.aF)(c:d'.Ok n):aI (w.setCell ⟨b,i,none⟩ v) b bs bm pv d' n:=by
 have a:∀k,k≠b->(w.setCell ⟨b,i,none⟩ v).heap[k]? =w.heap[k]? :=λk m=>Below.heap_setCell w ⟨b,i,none⟩ v k m
 exact⟨c,by have:=h.bg.set i v;rwa[l]at this,by rw[o];exact h.st.bG (a bs h.PN),by rw[g];exact bC h.row (λk e=>a k (λj=>iM h.row h.bg (by decide) (by rw[<-j];exact e))),by rw[g];exact h.map.bD (a bm h.Sw)⟩
end

section
variable {w:World} {b bs bm n:Nat} {pv:Value} {d:DD}
theorem CZ(h:aI w b bs bm pv d n)(s:Int):Calls Tryz.prog 162 #[.pointer (some ⟨b,0,none⟩), .int .i64 s] w λe w'=>e= .returned (.bool (DD.hasB n s))/\w=w':=by
 have l:=h.bg.ag 1 _ rfl;have g:=h.ok.n2;unfold DD.hasB;by_cases a:0<=s
 ·have c:decide (0<=s/\s<(n:Int))=decide (s<(n:Int)):=by simp[a]
  have j:decide (0<=s)=true:=dt a;rw[c];have m:((32*n:Nat):Int) / 32=(n:Int):=by omega
  have i:32*(n:Int) / 32=(n:Int):=by omega
  go_enter Tryz.func162,Tryz.ntmps162
  go_wp2
  go_ret;exact⟨rfl,rfl⟩
 ·have c:decide (0<=s/\s<(n:Int))=false:=by simp[a]
  have j:decide (0<=s)=false:=dy a;rw[c];go_enter Tryz.func162,Tryz.ntmps162
  go_wp2
  go_ret;exact⟨rfl,rfl⟩
theorem Gn(h:aI w b bs bm pv d n):Calls Tryz.prog 25 #[.pointer (some ⟨b,0,none⟩)] w λe w'=>e= .returned (.tuple #[])/\aI w' b bs bm pv d.start n/\aJ (Fp b bs bm pv) w w':=by
 have a:=h.set (d':= {d with on:=true}) 0 (.bool true) rfl rfl rfl ⟨h.ok.len,h.ok.sec,h.ok.jX,h.ok.a0,h.ok.a1,h.ok.w0,h.ok.w1,h.ok.b0,h.ok.b1,h.ok.n1,h.ok.n2⟩;have c:=a.set (d':=d.start) 4 (.bool false) rfl rfl rfl h.ok.start;have j:=h.bg.ag 0 _ rfl;have l:=h.bg.frozen 0;have c4:=a.bg.ag 4 _ rfl;have m:=a.bg.frozen 4;have g:=h_ c;have i:=h_ (((aJ.refl (Fp b bs bm pv) w).setCell (p:=⟨b,0,none⟩) (λ_=> .inl rfl) (.bool true)).setCell (p:=⟨b,4,none⟩) (λ_=> .inl rfl) (.bool false));clear h a c;go_enter Tryz.func25,Tryz.ntmps25
 go_wp2
 go_end0
 exact⟨rfl,g.out,i.out⟩
end
section
variable {w:World} {b bs bm n:Nat} {pv:Value} {d:DD}
theorem nK(h:aI w b bs bm pv d n)(s:Nat)(m:s<n):Calls Tryz.prog 113 #[.pointer (some ⟨b,0,none⟩), .int .i64 s] w λe w'=>e= .returned (.slice (some ⟨bs,32*s,none⟩) 32 (32*n-32*s))/\w=w':=by
 have l:=h.bg.ag 1 _ rfl;have g:=h.ok.n2;have o:(s:Int)*32<=((s:Int)+1)*32:=by omega
 have p:((s:Int)+1)*32<=32*(n:Int):=by omega
 have q:((s:Int)+1)*32<=((32*n:Nat):Int):=by omega
 have r: ¬(32*n=s*32):=by omega
 have j:(s+1)*32-s*32=32:=by omega
 have a:Value.slice (some ⟨bs,32*s,none⟩) 32 (32*n-32*s)= .slice (some ⟨bs,s*32,none⟩) 32 (32*n-s*32):=by rw[B8 32 s]
 rw[a];clear a;by_cases c:s=0
 ·subst c;go_enter Tryz.func113,Tryz.ntmps113
  go_wp2
  go_ret;exact⟨rfl,rfl⟩
 ·have i: ¬(s*32=0):=by omega
  go_enter Tryz.func113,Tryz.ntmps113
  go_wp2
  go_ret;refine⟨?_,rfl⟩;show Ending.returned (Value.slice (some ⟨bs,s*32,none⟩) ((s+1)*32-s*32) (32*n-s*32))=_;rw[j]
theorem qc(h:aI w b bs bm pv d n):Calls Tryz.prog 237 #[.pointer (some ⟨b,0,none⟩)] w λe w'=>e= .returned (.bool d.dh)/\aI w' b bs bm pv d.tick n/\aJ (Fp b bs bm pv) w w':=by
 have c4:=h.bg.ag 4 _ rfl;have r:=h.bg.ag 5 _ rfl;have s:=h.bg.frozen 5;have o:=h.ok.a0;have q:=h.ok.a1;cases harm:d.bH with
 |false=>
  have c:d.dh=false:=by simp[DD.dh,harm]
  have a:d.tick=d:=by simp[DD.tick,harm]
  rw[c,a];rw[harm]at c4;have g:=h_ h;clear c a h harm;go_enter Tryz.func237,Tryz.ntmps237
  go_wp2
  go_ret;exact⟨rfl,g.out,aJ.refl _ _⟩
 |true=>
  rw[harm]at c4;by_cases i:0<d.after
  ·have c:d.dh=false:=by simp[DD.dh,harm];omega
   have a:d.tick= {d with after:=d.after-1}:=by simp[DD.tick,harm,i]
   have m:=h.set (d':=d.tick) 5 (.int .i64 (d.after-1)) (by rw[a];rfl) (by rw[a]) (by rw[a]) h.ok.tick;rw[c];have g:=h_ m;have j:=h_ ((aJ.refl (Fp b bs bm pv) w).setCell (p:=⟨b,5,none⟩) (λ_=> .inl rfl) (.int .i64 (d.after-1)));obtain⟨z,l⟩:=x_ d.after
   rw[<-l]at r i o q g j;clear c a h harm m l;go_enter Tryz.func237,Tryz.ntmps237
   go_wp2
   go_ret;exact⟨rfl,g.out,j.out⟩
  ·have c:d.dh=true:=by simp[DD.dh,harm];omega
   have a:d.tick=d:=by simp[DD.tick,i]
   rw[c,a];have g:=h_ h;clear c a h harm;go_enter Tryz.func237,Tryz.ntmps237
   go_wp2
   go_ret;exact⟨rfl,g.out,aJ.refl _ _⟩
theorem K5(h:aI w b bs bm pv d n)(x y z:Int)(a: -9223372036854775808<=x)(c:x<=9223372036854775807)(i: -9223372036854775808<=y)(j:y<=9223372036854775807)(v: -9223372036854775808<=z)(A:z<=9223372036854775807):
  Calls Tryz.prog 21 #[.pointer (some ⟨b,0,none⟩), .int .i64 x, .int .i64 y, .int .i64 z] w λe w'=>e= .returned (.tuple #[])/\aI w' b bs bm pv (d.arm x y z) n/\aJ (Fp b bs bm pv) w w':=by
 have C:=h.bg.ag 0 _ rfl;cases hon:d.on with
 |false=>
  have g:d.arm x y z=d:=by simp[DD.arm,hon]
  rw[g];rw[hon]at C;have m:=h_ h;clear g h hon;go_enter Tryz.func21,Tryz.ntmps21
  go_wp2
  refine bodyPost_ret (results_none rfl _ _ _) rfl ?_;exact⟨rfl,m.out,aJ.refl _ _⟩
 |true=>
  rw[hon]at C;have g:d.arm x y z= {d with bH:=decide (0<=x),after:=x,writes:=y,bytes:=z}:=by simp[DD.arm,hon]
  have l:({d with bH:=decide (0<=x)}:DD).Ok n:=⟨h.ok.len,h.ok.sec,h.ok.jX,h.ok.a0,h.ok.a1,h.ok.w0,h.ok.w1,h.ok.b0,h.ok.b1,h.ok.n1,h.ok.n2⟩
  have o:=h.set (d':= {d with bH:=decide (0<=x)}) 4 (.bool (decide (0<=x))) rfl rfl rfl l;have r:=o.set (d':= {d with bH:=decide (0<=x),after:=x}) 5 (.int .i64 x) rfl rfl rfl ⟨h.ok.len,h.ok.sec,h.ok.jX,a,c,h.ok.w0,h.ok.w1,h.ok.b0,h.ok.b1,h.ok.n1,h.ok.n2⟩;have s:=r.set (d':= {d with bH:=decide (0<=x),after:=x,writes:=y}) 6 (.int .i64 y) rfl rfl rfl ⟨h.ok.len,h.ok.sec,h.ok.jX,a,c,i,j,h.ok.b0,h.ok.b1,h.ok.n1,h.ok.n2⟩;have u:=s.set (d':= {d with bH:=decide (0<=x),after:=x,writes:=y,bytes:=z}) 7 (.int .i64 z) rfl rfl rfl ⟨h.ok.len,h.ok.sec,h.ok.jX,a,c,i,j,v,A,h.ok.n1,h.ok.n2⟩;rw[<-g]at u;have c4:=h.bg.ag 4 _ rfl;have J:=h.bg.frozen 4;have D:=o.bg.ag 5 _ rfl;have H:=o.bg.frozen 5;have E:=r.bg.ag 6 _ rfl;have f6:=r.bg.frozen 6;have F:=s.bg.ag 7 _ rfl;have I:=s.bg.frozen 7;have m:=h_ u;have B:=h_ (((((aJ.refl (Fp b bs bm pv) w).setCell (p:=⟨b,4,none⟩) (λ_=> .inl rfl) (.bool (decide (0<=x)))).setCell (p:=⟨b,5,none⟩) (λ_=> .inl rfl) (.int .i64 x)).setCell (p:=⟨b,6,none⟩) (λ_=> .inl rfl) (.int .i64 y)).setCell (p:=⟨b,7,none⟩) (λ_=> .inl rfl) (.int .i64 z));clear g h hon o r s u l;obtain⟨q,G⟩:∃q,decide (0<=x)=q:=⟨_,rfl⟩
  rw[G]at D H E f6 F I m B;go_enter Tryz.func21,Tryz.ntmps21
  go_wp2
  go_end0
  exact⟨rfl,m.out,B.out⟩
end
def Ce(w:World)(n:Nat)(e:Ending)(w':World):Prop:=
 ∃b bs bm,e= .returned (.pointer (some ⟨b,0,none⟩))/\aI w' b bs bm (.slice none 0 0) (DD.new n) n/\Below w.heap.size w w'/\w.heap.size<=b/\w.heap.size<=bs/\w.heap.size<=bm
theorem QR:(Tryz.prog.info? 5).map (λi=>(i.zero,i.size,i.bytes))=some (some (.int .u8 0),1,1):=by kernel_rfl
theorem A0(n:Nat)(l:n<=4000)(W:World):(Instr.makeSlice 117 (.int .i64 ((n:Int)*32)) (.int .i64 ((n:Int)*32))).run Tryz.prog W=
  .ok (.slice (some ⟨W.heap.size,0,none⟩) (32*n) (32*n)) (W.alloc (.cells (madeCells #[.int .u8 0] (32*n)) 5)):=by
 obtain⟨i,j,a,c,g⟩:=info_parts QR;have h:=run_make (P:=Tryz.prog) W 117 5 i (.int .u8 0) Tryz.underlying117 j a .i64 .i64 ((n:Int)*32) ((n:Int)*32) (by omega) (by omega) (by rw[g];omega) (by omega);rw[h,c];have e:((n:Int)*32).toNat=32*n:=by omega
 rw[e,KJ];rfl
theorem Mc(n:Nat)(w:World)(h:1<=n)(a:n<=4000):Calls Tryz.prog 19 #[.int .i64 n] w (Ce w n):=by
 have j:=A0 n a;have l:= @run_makeMap Tryz.prog;have c:Ce w n (.returned (.pointer (some ⟨w.heap.size+1+1,0,none⟩))) (((w.alloc (.cells (madeCells #[.int .u8 0] (32*n)) 5)).alloc (.map #[] 0)).alloc
   (.cells #[.bool true, .slice (some ⟨w.heap.size,0,none⟩) (32*n) (32*n), .slice none 0 0, .map (some (w.heap.size+1)), .bool false, .int .i64 0, .int .i64 0, .int .i64 0] 135)):=by
  refine⟨_,w.heap.size,w.heap.size+1,rfl,⟨DD.Ok.new h a, ?_, ?_,World.ownsRow_nil _ _ _ _, ?_⟩,(((Below.refl _ _).alloc (aL _) _).alloc (by simp) _).alloc (by simp;omega) _,by omega,by omega,by omega⟩
  ·have:=ay.new ((w.alloc (.cells (madeCells #[.int .u8 0] (32*n)) 5)).alloc (.map #[] 0)) (se (DD.new n) w.heap.size (w.heap.size+1) (.slice none 0 0) n) 135;simpa[se,DD.new]using this
  ·refine ay.alloc (ay.alloc ?_ _) _
   have:=ay.yQ w (madeCells #[.int .u8 0] (32*n)) 5;rw[toList_madeCells_one]at this;simpa[DD.new,C8]using this
  ·have:=(bL.made (w.alloc (.cells (madeCells #[.int .u8 0] (32*n)) 5)))
   have i:=this.bD (w':=(((w.alloc (.cells (madeCells #[.int .u8 0] (32*n)) 5)).alloc (.map #[] 0)).alloc (.cells #[.bool true, .slice (some ⟨w.heap.size,0,none⟩) (32*n) (32*n), .slice none 0 0, .map (some (w.heap.size+1)), .bool false, .int .i64 0, .int .i64 0, .int .i64 0] 135))) (Below.heap_alloc _ _ _ (by simp));have e:fR (DD.new n).aF=λ_=>none:=rfl
   rw[e];simpa using i
 have g:=h_ c;clear c;go_enter Tryz.func19,Tryz.ntmps19
 go_wp2
 go_ret;exact g.out

section
variable {w:World} {b bs bm n:Nat} {pv:Value} {d:DD}
theorem lS{x:Nat×List UInt8}(h:x.2.length=32):(bu x).length=33:=by simp[bu,h]
theorem mF(p:List (Nat×List UInt8))(l:∀(i:Nat) x,p[i]? =some x->x.2.length=32):∀(k:Nat) (x:Nat×List UInt8),p[k]? =some x->∀j u,(bu x)[j]? =some u->(p.flatMap bu)[33*k+j]? =some u:=by
 induction p with
 |nil=>intro k x h;simp at h
 |cons a r ih=>
  intro k x g j u c;have m:=lS (l 0 a rfl);rw[BZ];cases k with
  |zero=>simp at g;subst g;have o:j<(bu a).length:=(jS.1 c).1;rw[Nat.mul_zero,nW,xL o];exact c
  |succ k=>rw[BW (by omega),m,show 33*(k+1)+j-33=33*k+j by omega];exact ih (λi x h=>l (i+1) x (by simpa using h)) k x (by simpa using g) j u c
theorem aI.wT(h:aI w b bs bm pv d n){k:Nat}{x:Nat×List UInt8}(a:d.aF[k]? =some x):∃g cap,pv= .slice (some ⟨g,0,none⟩) d.aF.length cap/\w.rangeAt g (33*k) (bu x):=by
 have m:k<d.aF.length:=(jS.1 a).1;rcases h.row.2 with⟨_,p⟩|⟨g,cap,c,rfl,_⟩
 ·omega
 ·refine⟨g,cap,rfl,λj u o=> ?_⟩;have l:=mF d.aF (λi x a=>(h.ok.sec i x a).2) k x a j u o
  have:=h.row.cells rfl _ _ l
  rwa[addr_add,nW]at this
def rF(d:DD)(ws tb k:Nat):DD:= {d with st:=rR d.st d.aF ws tb k}
theorem Hz(h:d.Ok n)(ws tb k:Nat):(rF d ws tb k).Ok n:=⟨rS ws tb h.len h.sec k,h.sec,h.jX,h.a0,h.a1,h.w0,h.w1,h.b0,h.b1,h.n1,h.n2⟩
theorem aI.Kb{d':DD}(h:aI w b bs bm pv d n)(l:List UInt8)(i:d'= {d with st:=l})(c:d'.Ok n):aI (w.setRow bs (l.map C8).toArray) b bs bm pv d' n:=by
 subst i;have a:∀k,k≠bs->(w.setRow bs (l.map C8).toArray).heap[k]? =w.heap[k]? :=λk j=>setRow_other w bs k _ j
 refine⟨c,h.bg.bG (a b (nq h.PN)),setRow_heap w bs _ _ 5 _ h.st,bC h.row (λk e=>a k (λg=>iM h.row h.st (by decide) (by rw[<-g];exact e))),h.map.bD (a bm h.TM)⟩
theorem aI.alloc(h:aI w b bs bm pv d n)(o:Obj):aI (w.alloc o) b bs bm pv d n:=h.below ((Below.refl _ _).alloc (aL _) o)
theorem aJ.setRow{F:Nat->Prop}{a w:World}(h:aJ F a w){g:Nat}(j:g<a.heap.size->F g)(cs:Array Value):aJ F a (w.setRow g cs):=
 ⟨h.os,h.tape,h.output,by simpa using h.size,λk c i=>(setRow_other w g k cs (by rintro rfl;exact i (j c))).trans (h.block k c i)⟩
end
end Go.Proofs.YtkmbmfengcdmoaaGreatDoor
