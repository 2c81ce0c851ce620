/- Package consent: whether a patch is the zero patch. No condition. -/
import Derived.Test.YtkmbmfengcdmoaaGreatDoorZAI
import Derived.Test.YtkmbmfengcdmoaaGreatDoorZAA
import Derived.Maps.AppendAt
import Derived.Lib.OthersKept
import Derived.ArgAppend
import Derived.Deep.MidRow
import Derived.Lib.SlBytesConst
import Derived.Test.YtkmbmfengcdmoaaGreatDoorZAB
import Derived.Lib.Hide
import Derived.Test.YtkmbmfengcdmoaaGreatDoorA0
import Derived.Deep.WholeRow
import Derived.Laws.Tables
import Derived.WalkKit
set_option maxRecDepth 100000
set_option linter.all false
namespace Go.Proofs.YtkmbmfengcdmoaaGreatDoor
open Go.RowKit Go.W32 Go.ay Go.Cs Go.Lib
def oe(w:World)(B b3:Nat)(xs:List UInt8):Prop:=∃v,w.heap[b3]? =some (.cells #[v] 117 (0,0))/\w.ownsRow B 5 1 v xs.length (byteCells xs)
structure Kp (B b3:Nat) (w w':World):Prop where
 below:Below B w w'
 rest:OthersKept 5 (some b3) w w'
theorem Kp.trans{B d:Nat}{a b c:World}(h:Kp B d a b)(k:Kp B d b c):Kp B d a c:=⟨h.below.trans k.below,h.rest.trans k.rest⟩
theorem oY{w:World}{B:Nat}{T:TypeId}{l n:Nat}{v:Value}{m:List Value}(h:w.ownsRow B T l v n m){g:Nat}(b:v.ownBlock=some g):∃c i,w.heap[g]? =some (.cells c T i):=by
 rcases h.2 with⟨rfl,_⟩|⟨o,d,f,rfl,_,k,_⟩
 ·cases b
 ·injection b with e;subst e;exact⟨_,_,k⟩
theorem iJ{w w':World}{T:TypeId}{row:Option Nat}(m:w.grownBy w' row)(n:∀g,row=some g->∃c f,w.heap[g]? =some (.cells c T f))(b:Option Nat):OthersKept T b w w':=λk o d _ l=>by
 have i:k<w.heap.size:=(iS.1 d).1;rw[m.block k i (λe=> ?_)]
 ·exact d
 ·obtain⟨c,f,h⟩:=n k e.symm;rw[h]at d;cases d
  exact l c f rfl
theorem jd(w:World)(o:Obj)(T:TypeId)(b:Option Nat):OthersKept T b w (w.alloc o):=λk _ d _ _=>by
 have c:k<w.heap.size:=(iS.1 d).1;rw[show(w.alloc o).heap=w.heap.push o from rfl,Array.getElem?_push_lt c];rw[<-d,Si c]
theorem Ku(n:Int)(b: -9223372036854775808<=n)(c:n<=9223372036854775807):(word n).length<=22:=by have:=itoa_length_le n b c;simp only[word,kq];omega
theorem ni{w:World}{b:Nat}{v u:Value}{T:TypeId}(h:w.heap[b]? =some (.cells #[v] T (0,0))):(w.setCell ⟨b,0,none⟩ u).heap[b]? =some (.cells #[u] T (0,0)):=Apl.JX (cur:= #[v]) (k:=0) h
theorem ti{w:World}{b:Nat}{u:Value}{T:TypeId}:OthersKept T (some b) w (w.setCell ⟨b,0,none⟩ u):=λk o d c _=>by
 have:k≠b:=λe=>c (by rw[e])
 simp only[World.setCell,vS];rw[if_neg (nq this)];exact d
theorem l9{w w':World}{T:TypeId}(h:OthersKept T none w w')(b:Option Nat):OthersKept T b w w':=λk o d _ c=>h k o d (by simp) c
theorem oQ{w w':World}{B:Nat}{v:Value}{n:Nat}{c:List Value}(h:w.ownsRow B 5 1 v n c){b:Nat}(d:∀g,v.ownBlock=some g->g≠b){u:Value}(e:w'=w.setCell ⟨b,0,none⟩ u):w'.ownsRow B 5 1 v n c:=
 Mg.Fy h λg f=>by
  subst e;simp only[World.setCell,vS];rw[if_neg (nq (d g f))]
theorem below_grown{w w':World}{B:Nat}{row:Option Nat}(b:w.grownBy w' row)(c:∀g,row=some g->B<=g)(d:B<=w.heap.size):Below B w w':=
 ⟨b.os,b.tape,b.output,b.size,λk f=>b.block k (by omega) (λe=>by have:=c k e.symm;omega)⟩
theorem uK{w:World}{B b:Nat}{u:Value}(c:B<=b):Below B w (w.setCell ⟨b,0,none⟩ u):=
 ⟨rfl,rfl,rfl,by simp[World.setCell],λk d=>by
  simp only[World.setCell,vS];rw[if_neg (by omega)]⟩
theorem lO{w:World}{b:Nat}{v:Value}{T:TypeId}(h:w.heap[b]? =some (.cells #[v] T (0,0))):w.frozen? ⟨b,0,none⟩=false:=Apl.Bp (cur:= #[v]) h
theorem cell_of{w:World}{b:Nat}{v:Value}{T:TypeId}(h:w.heap[b]? =some (.cells #[v] T (0,0))):w.cell? ⟨b,0,none⟩=some v:=by simp[World.cell?,h]
theorem slice_form{w:World}{B:Nat}{T:TypeId}{e n:Nat}{v:Value}{f:List Value}(h:w.ownsRow B T e v n f):∃A c,v= .slice A n c:=by
 rcases h.2 with⟨rfl,rfl⟩|⟨g,b,d,rfl,_⟩
 ·exact⟨_,_,rfl⟩
 ·exact⟨_,_,rfl⟩
theorem cell_grown{w w':World}{p:Addr}{v:Value}(h:w.cell? p=some v)(c:w.grownBy w' none):w'.cell? p=some v:=by have b:=World.block_lt_of_cell? w _ h;rw[<-h];simp only[World.cell?,c.block p.block b (by simp)]
theorem Nr:∃i,Tryz.prog.info? 5=some i/\i.zero=some (.int .u8 0)/\i.size=1/\i.bytes=1:=info_parts (by kernel_rfl)
set_option maxHeartbeats 1000000 in
theorem vP(B k : Nat)(n : Int)(h : List UInt8)(W : World)(h0 : -9223372036854775808 <= n)(h1 : n <= 9223372036854775807)(hO : oe W B k h)(U : B <= W.heap.size)(L : B <= k)(G : TabBelow Tryz.prog B W "internal/strconv.uint64pow10" .u64 pow10Tab)(V : h.length <= 70368744177664) :
  Calls Tryz.prog 121 #[.int .i64 n, .pointer (some ⟨k,0,none⟩)] W λe w'=>e= .returned (.tuple #[])/\oe w' B k (h++word n)/\Kp B k W w':=by
 obtain⟨v,J,F⟩:=hO;have s:W.cell? ⟨k,0,none⟩=some v:=cell_of J;have an:k<W.heap.size:=(iS.1 J).1;obtain⟨i0,hi,R,S,T⟩:=Nr;have K:W.grownBy (W.alloc (.cells #[.int .u8 32] 5)) none:=World.grownBy_alloc _ _ _;have d:(W.alloc (.cells #[.int .u8 32] 5)).ownsRow B 5 1 v h.length (byteCells h):=F.alloc _;have co:(W.alloc (.cells #[.int .u8 32] 5)).heap.size=W.heap.size+1:=by simp
 have N:h.length+1<=maxLen:=by have:maxLen=9223372036854775807:=rfl;omega
 have HC:=h_ J;clear J;go_enter Tryz.func121,Tryz.ntmps121;go_wp2_with (at_builtin;refine wpList_append_own_at _ rfl (.tmp 3) (.tmp 4) 117 rfl B 5 i0 (.int .u8 0) 1 1 Tryz.underlying117 hi R S T rfl (by decide) v h.length (byteCells h) rfl d ⟨W.heap.size,0,none⟩ 1 1 [.int .u8 32] rfl rfl (cell_one_new _ _ _) (by simp[Value.oneCell']) N (by omega) (by omega) ?_)
 intro v1 H m o z C;have l:Below B W H:=((Below.refl B W).alloc U _).trans (below_grown o (λg x=>(Mg.Ms d x).1) (by omega));have r:B<=H.heap.size:=fO U l.size;have M:OthersKept 5 (some k) W H:=(jd W _ 5 _).trans (iJ o (λg x=>oY d x) _);have y:∀(u:Value) c I,Obj.cells #[u] 117 (0,0)≠Obj.cells c 5 I:=λu c I e=>by injection e with _ e;cases e
 have p:H.heap[k]? =some (.cells #[v] 117 (0,0)):=((jd W _ 5 none).trans (iJ o (λg x=>oY d x) _)) k _ HC.out (by simp) (y v);have Y:=Tryz.strconv_AppendInt_10 B (h.length+1) n h0 h1 v1 (byteCells h++ [.int .u8 32]) H m r (by omega) (G.on l);have A:=h_ p;clear p m o z C s;go_wp2_with (go_at_call 122;refine Y.mono ?_;rintro e w2 ⟨v2,rfl,f,D,q⟩;obtain⟨X,Z,rfl⟩:=slice_form f;have i:=q k _ A.out (by simp) (y v);have bi:=cell_of i;have ci:=lO i)
 go_end0
 have hx:(byteCells h++ [Value.int .u8 32])++byteCells (itoa n)=byteCells (h++word n):=by simp[byteCells,word]
 have hl:h.length+1+(itoa n).length=(h++word n).length:=by simp[word];omega
 have O:=oQ (b:=k) (u:= .slice X (h.length+1+(itoa n).length) Z) f (λg x e=>by
  obtain⟨c,I,E⟩:=oY f x;rw[e,i]at E;exact y v c I (PU E)) rfl
 refine⟨rfl,⟨_,ni i,by rw[<-hl, <-hx];exact O⟩,⟨(l.trans D).trans (uK L),(M.trans (l9 q _)).trans ti⟩⟩
theorem Fx{w:World}{B B':Nat}{T:TypeId}{f n:Nat}{v:Value}{i:List Value}(h:w.ownsRow B T f v n i)(l:B'<=B):w.ownsRow B' T f v n i:=by
 rcases h with⟨d,k|⟨g,b,c,e,m,rest⟩⟩
 ·exact⟨d, .inl k⟩
 ·exact⟨d, .inr ⟨g,b,c,e,fO l m,rest⟩⟩
set_option maxHeartbeats 1000000 in
theorem zR(B l g:Nat)(n:Int)(W:World)(T: -9223372036854775808<=n)(U:n<=9223372036854775807)(G:W.heap[l]? =some (.cells #[.slice (some ⟨g,0,none⟩) 5 5] 117 (0,0)))
  (M : ∀ j u, (byteCells dI)[j]? = some u -> W.cell? ⟨g, j, none⟩ = some u) (L : B <= W.heap.size) (F : B <= l) (C : TabBelow Tryz.prog B W "internal/strconv.uint64pow10" .u64 pow10Tab) :
  Calls Tryz.prog 121 #[.int .i64 n, .pointer (some ⟨l,0,none⟩)] W λe w'=>e= .returned (.tuple #[])/\oe w' B l (dI++word n)/\Kp B l W w':=by
 have q:W.cell? ⟨l,0,none⟩=some (.slice (some ⟨g,0,none⟩) 5 5):=cell_of G;obtain⟨i0,Z,I,J,K⟩:=Nr;have an:(W.alloc (.cells #[.int .u8 32] 5)).heap.size=W.heap.size+1:=by simp
 have HC:=h_ G;have R:=h_ M;clear G M;go_enter Tryz.func121,Tryz.ntmps121;go_wp2_with (at_builtin;refine wpList_append_grows _ rfl (.tmp 3) (.tmp 4) 117 rfl 5 i0 (.int .u8 0) 1 1 Tryz.underlying117 Z I J K rfl (by decide) (some ⟨g,0,none⟩) 5 5 (byteCells dI) rfl (λe=>by cases e) rfl (λb V j u hu=>by cases V;have:=R.out j u hu;rw[Addr.add_mid,nW];exact cell_grown this (World.grownBy_alloc _ _ _)) ⟨W.heap.size,0,none⟩ 1 1 [.int .u8 32] rfl rfl (cell_one_new _ _ _) (by simp[Value.oneCell']) (by decide) (by decide) (by decide) ?_)
 intro v1 D i r;have k:=Fx (B':=B) i (by omega);have h:Below B W D:=((Below.refl B W).alloc L _).trans (below_grown r (λg z=>by cases z) (by omega));have p:B<=D.heap.size:=fO L h.size;have A:OthersKept 5 none W D:=(jd W _ 5 none).trans (iJ r (λg z=>by cases z) _);have s:∀(u:Value) c E,Obj.cells #[u] 117 (0,0)≠Obj.cells c 5 E:=λu c E e=>by injection e with _ e;cases e
 have m:D.heap[l]? =some (.cells #[.slice (some ⟨g,0,none⟩) 5 5] 117 (0,0)):=A l _ HC.out (by simp) (s _);have O:=Tryz.strconv_AppendInt_10 B (5+1) n T U v1 (byteCells dI++ [.int .u8 32]) D k p (by omega) (C.on h);have v:=h_ m;clear m k r q i;go_wp2_with (go_at_call 122;refine O.mono ?_;rintro e w2 ⟨v2,rfl,d,x,o⟩;obtain⟨N,S,rfl⟩:=slice_form d;have f:=o l _ v.out (by simp) (s _);have X:=cell_of f;have Y:=lO f)
 go_end0
 have hx:(byteCells dI++ [Value.int .u8 32])++byteCells (itoa n)=byteCells (dI++word n):=by simp[byteCells,word]
 have hl:5+1+(itoa n).length=(dI++word n).length:=by simp[word,dI];omega
 have H:=oQ (b:=l) (u:= .slice N (5+1+(itoa n).length) S) d (λg z e=>by
  obtain⟨c,E,y⟩:=oY d z;rw[e,f]at y;exact s _ c E (PU y)) rfl
 refine⟨rfl,⟨_,ni f,by rw[<-hl, <-hx];exact H⟩,⟨(h.trans x).trans (uK F),((l9 A _).trans (l9 o _)).trans ti⟩⟩
theorem Iw(B f m : Nat)(x : Bool)(i : List UInt8)(W : World)(o : oe W B f i)(s : B <= W.heap.size)(l : B <= f)(b : TabBelow Tryz.prog B W "internal/strconv.uint64pow10" .u64 pow10Tab)(g : i.length <= 70368744177664)
  (r:W.heap[m]? =some (.cells #[.func (.func 121) #[] #[.pointer (some ⟨f,0,none⟩)]] 211 (0,0))):
  Calls Tryz.prog 123 #[.bool x, .pointer (some ⟨m,0,none⟩)] W λe w'=>e= .returned (.tuple #[])/\oe w' B f (i++word (Eb x))/\Kp B f W w':=by
 have h:=λn p q=>vP B f n i W p q o s l b g
 have c4:=cell_of r;clear o b;cases x with
 |true=>
  have k:=h 1 (by decide) (by decide);clear h;go_enter Tryz.func123,Tryz.ntmps123;go_wp2_with (go_at_call 121;refine k.mono ?_;rintro e u ⟨rfl,d,c⟩)
  go_end0
  exact⟨rfl,d,c⟩
 |false=>
  have k:=h 0 (by decide) (by decide);clear h;go_enter Tryz.func123,Tryz.ntmps123;go_wp2_with (go_at_call 121;refine k.mono ?_;rintro e u ⟨rfl,d,c⟩)
  go_end0
  exact⟨rfl,d,c⟩
open Go.Opn
def Row(w:World)(b:Nat)(T:TypeId)(cs:List Value):Prop:=w.heap[b]? =some (.cells cs.toArray T (0,0))
theorem Row.new(w:World)(T:TypeId)(cs:List Value):Row (w.alloc (.cells cs.toArray T)) w.heap.size T cs:=by show(w.heap.push _)[w.heap.size]? =_;simp
theorem Row.at{w:World}{b k:Nat}{T:TypeId}{cs:List Value}{v:Value}(h:Row w b T cs)(hv:cs[k]? =some v):w.cell? ⟨b,k,none⟩=some v:=by unfold Row at h;simp[World.cell?,h,hv]
theorem Row.bD{w w':World}{b:Nat}{T:TypeId}{cs:List Value}(h:Row w b T cs)(c:w'.heap[b]? =w.heap[b]?):Row w' b T cs:=c.trans h
theorem Row.below{w w':World}{b B:Nat}{T:TypeId}{cs:List Value}(h:Row w b T cs)(d:Below B w w')(c:b<B):Row w' b T cs:=h.bD (d.block b c)
theorem Row.lt{w:World}{b:Nat}{T:TypeId}{cs:List Value}(h:Row w b T cs):b<w.heap.size:=(iS.1 h).1
theorem Row.kept{w w':World}{b B d:Nat}{T:TypeId}{cs:List Value}(h:Row w b T cs)(i:Kp B d w w')(f:T≠5)(g:b≠d):Row w' b T cs:=
 i.rest b _ h (by simp;exact g) (λc k e=>by injection e with _ e;exact f e)
theorem Row.range{w:World}{b o:Nat}{T:TypeId}{cs c:List Value}(h:Row w b T cs)(hv:∀j v,c[j]? =some v->cs[o+j]? =some v):w.rangeAt b o c:=λj v d=>h.at (hv j v d)

theorem Gf(w:World)(v u:Value)(T:TypeId):(w.alloc (.cells #[v] T)).setCell ⟨w.heap.size,0,none⟩ u=w.alloc (.cells #[u] T):=by
 have hm:∀(a:Array Obj) (x:Obj) (f:Obj->Obj),(a.push x).modify a.size f=a.push (f x):=by
  intro a x f;apply Array.ext
  ·simp
  ·intro i b d;simp only[Array.getElem_modify,Array.getElem_push];by_cases h:a.size=i
   ·subst h;simp
   ·have c:i<a.size:=by simp at b;omega
    simp[h,c]
 show({w with heap:=(w.heap.push (.cells #[v] T)).modify w.heap.size _}:World)= {w with heap:=w.heap.push (.cells #[u] T)}
 rw[hm];rfl
theorem Gq(P:Program)(w:World)(v u:Value)(T:TypeId)(c:u.oneCell'=true):(store ⟨w.heap.size,0,none⟩ u).run P (w.alloc (.cells #[v] T))= .ok () (w.alloc (.cells #[u] T)):=by
 have b:(w.alloc (.cells #[v] T)).heap[w.heap.size]? =some (.cells #[v] T (0,0)):=by show(w.heap.push (.cells #[v] T))[w.heap.size]? =_;simp
 rw[run_store P _ _ _ _ c,cell_of b,lO b,Gf];rfl
theorem pk(a b:List Int):words (a++b)=words a++words b:=by simp[words]
theorem qz(n:Int):words [n]=word n:=by simp[words]
theorem vN:∀l:List Int,(∀n∈l,cP n)->(words l).length<=22*l.length
 | [],_=>by simp[words]
 |n::l,h=>by
  have b:=vN l λm hm=>h m (by simp[hm])
  have c:=Ku n (h n (by simp)).1 (h n (by simp)).2;show(word n++words l).length<=_;rw[fu,kq];omega
structure my (n0:Nat) (W4:World) (l:List Int) (w:World):Prop where
 kp:Kp (n0+1) (n0+1+1) W4 w
 out:oe w (n0+1) (n0+1+1) (dI++words l)
 all:∀n∈l,cP n
structure TW (n0:Nat) (W4:World):Prop where
 size:n0+1<=W4.heap.size
 RR : TabBelow Tryz.prog (n0 + 1) W4 "internal/strconv.uint64pow10" .u64 pow10Tab
 fn:Row W4 (n0+1+1+1) 211 [.func (.func 121) #[] #[.pointer (some ⟨n0+1+1,0,none⟩)]]
theorem my.row{n0:Nat}{c w:World}{l:List Int}(h:my n0 c l w){b:Nat}{T:TypeId}{cs:List Value}(f:Row c b T cs)(d:T≠5)(e:b≠n0+1+1):Row w b T cs:=f.kept h.kp d e
theorem my.c4{n0:Nat}{b w:World}{l:List Int}(h:my n0 b l w)(c:TW n0 b):w.cell? ⟨n0+1+1+1,0,none⟩=some (.func (.func 121) #[] #[.pointer (some ⟨n0+1+1,0,none⟩)]):=
 (h.row c.fn (by decide) (by omega)).at rfl
theorem oe.alloc{w:World}{B c:Nat}{e:List UInt8}(h:oe w B c e)(o:Obj):oe (w.alloc o) B c e:=by obtain⟨v,d,f⟩:=h;have b:c<w.heap.size:=(iS.1 d).1;refine⟨v, ?_,f.alloc _⟩;rw[show(w.alloc o).heap=w.heap.push o from rfl,Array.getElem?_push_lt b, <-d,Si b]
theorem Row.alloc{w:World}{b:Nat}{T:TypeId}{cs:List Value}(h:Row w b T cs)(o:Obj):Row (w.alloc o) b T cs:=by unfold Row at*;have c:b<w.heap.size:=(iS.1 h).1;rw[show(w.alloc o).heap=w.heap.push o from rfl,Array.getElem?_push_lt c, <-h,Si c]
theorem my.alloc{n0:Nat}{b w:World}{l:List Int}(h:my n0 b l w)(c:TW n0 b)(o:Obj):my n0 b l (w.alloc o):=
 ⟨h.kp.trans ⟨(Below.refl _ _).alloc (fO c.size h.kp.below.size) o,jd _ _ _ _⟩,h.out.alloc o,h.all⟩
theorem my.len{n0:Nat}{b w:World}{l:List Int}(h:my n0 b l w)(c:l.length<=1000):(dI++words l).length<=70368744177664:=by
 have:=vN l h.all;rw[fu]
 have:dI.length=5:=rfl;omega
theorem my.write{n0:Nat}{b w:World}{l:List Int}(h:my n0 b l w)(f:TW n0 b)(n:Int)(c:cP n)(k:l.length<=1000):
  Calls Tryz.prog 121 #[.int .i64 n, .pointer (some ⟨n0+1+1,0,none⟩)] w λe w'=>e= .returned (.tuple #[])/\my n0 b (l++ [n]) w'/\Kp (n0+1) (n0+1+1) w w':=
 (vP (n0+1) (n0+1+1) n _ w c.1 c.2 h.out (fO f.size h.kp.below.size) (by omega) (f.RR.on h.kp.below) (h.len k)).mono λ_ _ ⟨g,i,d⟩=>
  ⟨g,⟨h.kp.trans d,by rw[pk,qz, <-List.append_assoc];exact i,λm hm=>by
   rcases zT.1 hm with hm|hm
   ·exact h.all m hm
   ·simp at hm;subst hm;exact c⟩,d⟩
theorem Og(x:Bool):cP (Eb x):=by unfold cP;cases x<;>decide
theorem my.flag{n0:Nat}{b w:World}{l:List Int}(h:my n0 b l w)(c:TW n0 b)(x:Bool)(i:l.length<=1000):
  Calls Tryz.prog 123 #[.bool x, .pointer (some ⟨n0+1+1+1,0,none⟩)] w λe w'=>e= .returned (.tuple #[])/\my n0 b (l++ [Eb x]) w'/\Kp (n0+1) (n0+1+1) w w':=
 (Iw (n0+1) (n0+1+1) (n0+1+1+1) x _ w h.out (fO c.size h.kp.below.size) (by omega) (c.RR.on h.kp.below) (h.len i) (h.row c.fn (by decide) (by omega))).mono λ_ _ ⟨f,g,d⟩=>
  ⟨f,⟨h.kp.trans d,by rw[pk,qz, <-List.append_assoc];exact g,λm hm=>by
   rcases zT.1 hm with hm|hm
   ·exact h.all m hm
   ·simp at hm;subst hm;exact Og x⟩,d⟩
theorem my.first{n0:Nat}{b:World}(d:TW n0 b)(n:Int)(c:cP n)(i:Row b (n0+1+1) 117 [.slice (some ⟨n0+1,0,none⟩) 5 5])(k:∀j u,(byteCells dI)[j]? =some u->b.cell? ⟨n0+1,j,none⟩=some u):
  Calls Tryz.prog 121 #[.int .i64 n, .pointer (some ⟨n0+1+1,0,none⟩)] b λe w'=>e= .returned (.tuple #[])/\my n0 b [n] w':=
 (zR (n0+1) (n0+1+1) (n0+1) n b c.1 c.2 i k d.size (by omega) d.RR).mono λ_ _ ⟨f,g,h⟩=>
  ⟨f,⟨h,by rw[qz];exact g,λm hm=>by simp at hm;subst hm;exact c⟩⟩
theorem my.text{n0:Nat}{k w:World}{l:List Int}(h:my n0 k l w):∃v,w.cell? ⟨n0+1+1,0,none⟩=some v/\(∃A n c,v= .slice A n c)/\(convert 117 9 v).run Tryz.prog w= .ok (.string (tx (dI++words l))) w:=by
 obtain⟨v,m,i⟩:=h.out;refine⟨v,cell_of m, ?_, ?_⟩
 ·obtain⟨A,c,e⟩:=slice_form i;exact⟨A,_,c,e⟩
 ·obtain⟨_,⟨_,f⟩|⟨g,b,d,rfl,_,o,_,_,_,q⟩⟩:=i
  ·rw[fu]at f;exact absurd f (by have:dI.length=5:=rfl;omega)
  ·refine run_convert_bytes_back (P:=Tryz.prog) w 117 9 5 ⟨g,0,none⟩ b (dI++words l) Tryz.underlying117 Tryz.underlying5 Tryz.underlying9 (λj p=> ?_);rw[Addr.add_mid,nW,cell_of_row w g j d 5 (0,0) o, <-Array.getElem?_toList]
   have:(byteCells (dI++words l))[j]? =some (.int .u8 ((dI++words l)[j]).toNat):=by rw[byteCells,mx,eH p];rfl
   rw[<-q,qC]at this;split at this
   ·exact this
   ·cases this
end Go.Proofs.YtkmbmfengcdmoaaGreatDoor
namespace Go.Grd
open Go Go.RowKit Go.Free
section
variable {P:Program} {ops:Array Oper} {Q:Exit->Act->World->Prop} {a:Act} {w:World} {rest:List Oper} {o1 o2 o3 o4 o5:Oper} {j t s1 s2 s3 s4 s5:Nat} {pol acc B:Bool} {v1 v2 v3:Value}
end
end Go.Grd
namespace Go.Hk
open Go Go.RowKit
theorem IK{w:World}{o:Obj}{g:Nat}(b:g=w.heap.size):(w.alloc o).heap[g]? =some o:=by subst b;show(w.heap.push o)[w.heap.size]? =_;simp
theorem aD{P:Program}{ops:Array Oper}{rest:List Oper}{o:Oper}{a:Act}{w:World}{Q:Exit->Act->World->Prop}(c:o.guard=none)(ty:TypeId)(x y:Operand)(i:o.op= .store ty x y)
  (g:Nat) (cells:Array Value) (k:a.eval x= .pointer (some ⟨g,0,none⟩)) (l:a.eval y= .agg cells)
  (ju:Array Value) (t:TypeId) (d:g=w.heap.size) (f:(P.info? ty).map (·.size)=some cells.size) (b:ju.size=cells.size) (e:cells.all (·.oneCell')=true)
  (h:wpList P ops Q rest (a.put o.dst undef) (w.alloc (.cells cells t))):wpList P ops Q (o::rest) a (w.alloc (.cells ju t)):=by
 refine wpList_store_row c ty x y i g cells k l t ju (IK d) f b e ?_;subst d;rw[World.setRow_alloc_new];exact h
theorem aU{P:Program}{ρ:Operand->Value}{c:Oper}{w:World}(ty:TypeId)(x:Operand)(h:c.op= .load ty x)(b o:Nat)(k:ρ x= .pointer (some ⟨b,o,none⟩))(cs:List Value)(d:TypeDesc)(e:w.rangeAt b o cs)
  (i:P.underlying ty=some d) (f:d.isRow=true) (g:(P.info? ty).map (·.size)=some cs.length):(execOp ρ c).run P w= .ok (.value (.agg cs.toArray)) w:=by
 unfold execOp;simp only[h,k,Instr.loadAt,Instr.sureAddr,Sem.run_bind,Sem.run_pure,Result.andThen_ok,run_loadVar_mid w b o ty cs d e i f g]
end Go.Hk
namespace Go.Proofs.YtkmbmfengcdmoaaGreatDoor
open Go.RowKit Go.W32 Go.ay Go.Cs Go.Lib Go.Opn

end Go.Proofs.YtkmbmfengcdmoaaGreatDoor
