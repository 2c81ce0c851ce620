/- Package consent: whether a patch is the zero patch. No condition. -/
import Derived.Test.YtkmbmfengcdmoaaGreatDoorZAI
import Derived.Test.YtkmbmfengcdmoaaGreatDoorZAA
import Derived.Maps.AppendAt
import Derived.Lib.OthersKept
import Derived.ArgAppend
import Derived.Deep.MidRow
import Derived.Lib.SlBytesConst
import Derived.Test.YtkmbmfengcdmoaaGreatDoorZAB
import Derived.Lib.Hide
import Derived.Test.YtkmbmfengcdmoaaGreatDoorA0
import Derived.Deep.WholeRow
import Derived.Laws.Tables
import Derived.WalkKit
set_option maxRecDepth 100000
set_option linter.all false
namespace Go.Proofs.YtkmbmfengcdmoaaGreatDoor
open Go.RowKit Go.W32 Go.ay Go.Cs Go.Lib
def oe(w:World)(B b3:Nat)(xs:List UInt8):Prop:=∃v,w.heap[b3]? =some (.cells #[v] 117 (0,0))/\w.ownsRow B 5 1 v xs.length (byteCells xs)
structure Kp (B b3:Nat) (w w':World):Prop where
 below:Below B w w'
 rest:OthersKept 5 (some b3) w w'
theorem Kp.trans{B b3:Nat}{a b c:World}(h:Kp B b3 a b)(k:Kp B b3 b c):Kp B b3 a c:=⟨h.below.trans k.below,h.rest.trans k.rest⟩
theorem oY{w:World}{B:Nat}{T:TypeId}{sz n:Nat}{v:Value}{xs:List Value}(h:w.ownsRow B T sz v n xs){g:Nat}(hg:v.ownBlock=some g):∃c fz,w.heap[g]? =some (.cells c T fz):=by
 rcases h.2 with⟨rfl,_⟩|⟨g',cap,cur,rfl,_,h2,_⟩
 ·cases hg
 ·injection hg with e;subst e;exact⟨_,_,h2⟩
theorem iJ{w w':World}{T:TypeId}{row:Option Nat}(hg:w.grownBy w' row)(hr:∀g,row=some g->∃c fz,w.heap[g]? =some (.cells c T fz))(b:Option Nat):OthersKept T b w w':=λk o hk _ hne=>by
 have hlt:k<w.heap.size:=(iS.1 hk).1;rw[hg.block k hlt (λe=> ?_)]
 ·exact hk
 ·obtain⟨c,fz,h⟩:=hr k e.symm;rw[h]at hk;cases hk
  exact hne c fz rfl
theorem jd(w:World)(o:Obj)(T:TypeId)(b:Option Nat):OthersKept T b w (w.alloc o):=λk _ hk _ _=>by
 have hlt:k<w.heap.size:=(iS.1 hk).1;rw[show(w.alloc o).heap=w.heap.push o from rfl,Array.getElem?_push_lt hlt];rw[<-hk,Si hlt]
theorem Ku(n:Int)(h0: -9223372036854775808<=n)(h1:n<=9223372036854775807):(word n).length<=22:=by have:=itoa_length_le n h0 h1;simp only[word,kq];omega
theorem ni{w:World}{b:Nat}{v u:Value}{T:TypeId}(h:w.heap[b]? =some (.cells #[v] T (0,0))):(w.setCell ⟨b,0,none⟩ u).heap[b]? =some (.cells #[u] T (0,0)):=Apl.JX (cur:= #[v]) (k:=0) h
theorem ti{w:World}{b:Nat}{u:Value}{T:TypeId}:OthersKept T (some b) w (w.setCell ⟨b,0,none⟩ u):=λk o hk hne _=>by
 have:k≠b:=λe=>hne (by rw[e])
 simp only[World.setCell,vS];rw[if_neg (nq this)];exact hk
theorem l9{w w':World}{T:TypeId}(h:OthersKept T none w w')(b:Option Nat):OthersKept T b w w':=λk o hk _ hne=>h k o hk (by simp) hne
theorem oQ{w w':World}{B:Nat}{v:Value}{n:Nat}{xs:List Value}(h:w.ownsRow B 5 1 v n xs){b:Nat}(hb:∀g,v.ownBlock=some g->g≠b){u:Value}(he:w'=w.setCell ⟨b,0,none⟩ u):w'.ownsRow B 5 1 v n xs:=
 Mg.Fy h λg hg=>by
  subst he;simp only[World.setCell,vS];rw[if_neg (nq (hb g hg))]
theorem below_grown{w w':World}{B:Nat}{row:Option Nat}(hg:w.grownBy w' row)(hr:∀g,row=some g->B<=g)(hB:B<=w.heap.size):Below B w w':=
 ⟨hg.os,hg.tape,hg.output,hg.size,λk hk=>hg.block k (by omega) (λe=>by have:=hr k e.symm;omega)⟩
theorem uK{w:World}{B b:Nat}{u:Value}(hb:B<=b):Below B w (w.setCell ⟨b,0,none⟩ u):=
 ⟨rfl,rfl,rfl,by simp[World.setCell],λk hk=>by
  simp only[World.setCell,vS];rw[if_neg (by omega)]⟩
theorem lO{w:World}{b:Nat}{v:Value}{T:TypeId}(h:w.heap[b]? =some (.cells #[v] T (0,0))):w.frozen? ⟨b,0,none⟩=false:=Apl.Bp (cur:= #[v]) h
theorem cell_of{w:World}{b:Nat}{v:Value}{T:TypeId}(h:w.heap[b]? =some (.cells #[v] T (0,0))):w.cell? ⟨b,0,none⟩=some v:=by simp[World.cell?,h]
theorem slice_form{w:World}{B:Nat}{T:TypeId}{sz n:Nat}{v:Value}{xs:List Value}(h:w.ownsRow B T sz v n xs):∃A c,v= .slice A n c:=by
 rcases h.2 with⟨rfl,rfl⟩|⟨g,cap,cur,rfl,_⟩
 ·exact⟨_,_,rfl⟩
 ·exact⟨_,_,rfl⟩
theorem cell_grown{w w':World}{p:Addr}{v:Value}(h:w.cell? p=some v)(hg:w.grownBy w' none):w'.cell? p=some v:=by have hlt:=World.block_lt_of_cell? w _ h;rw[<-h];simp only[World.cell?,hg.block p.block hlt (by simp)]
theorem Nr:∃i,Tryz.prog.info? 5=some i/\i.zero=some (.int .u8 0)/\i.size=1/\i.bytes=1:=info_parts (by kernel_rfl)
set_option maxHeartbeats 1000000 in
theorem vP(B b3 : Nat)(n : Int)(xs : List UInt8)(W : World)(h0 : -9223372036854775808 <= n)(h1 : n <= 9223372036854775807)(hO : oe W B b3 xs)(hB : B <= W.heap.size)(hBb : B <= b3)(htab : TabBelow Tryz.prog B W "internal/strconv.uint64pow10" .u64 pow10Tab)(hlen : xs.length <= 70368744177664) :
  Calls Tryz.prog 121 #[.int .i64 n, .pointer (some ⟨b3,0,none⟩)] W λe w'=>e= .returned (.tuple #[])/\oe w' B b3 (xs++word n)/\Kp B b3 W w':=by
 obtain⟨v,hc,hrow⟩:=hO;have hcell:W.cell? ⟨b3,0,none⟩=some v:=cell_of hc;have hb3:b3<W.heap.size:=(iS.1 hc).1;obtain⟨i0,hi,hz0,hz1,hz2⟩:=Nr;have hgrow0:W.grownBy (W.alloc (.cells #[.int .u8 32] 5)) none:=World.grownBy_alloc _ _ _;have hrow1:(W.alloc (.cells #[.int .u8 32] 5)).ownsRow B 5 1 v xs.length (byteCells xs):=hrow.alloc _;have hsz:(W.alloc (.cells #[.int .u8 32] 5)).heap.size=W.heap.size+1:=by simp
 have hml:xs.length+1<=maxLen:=by have:maxLen=9223372036854775807:=rfl;omega
 have HC:=h_ hc;clear hc;go_enter Tryz.func121,Tryz.ntmps121;go_wp2_with (at_builtin;refine wpList_append_own_at _ rfl (.tmp 3) (.tmp 4) 117 rfl B 5 i0 (.int .u8 0) 1 1 Tryz.underlying117 hi hz0 hz1 hz2 rfl (by decide) v xs.length (byteCells xs) rfl hrow1 ⟨W.heap.size,0,none⟩ 1 1 [.int .u8 32] rfl rfl (cell_one_new _ _ _) (by simp[Value.oneCell']) hml (by omega) (by omega) ?_)
 intro v1 w1 hown1 hg1 hnil1 hat1;have hbe1:Below B W w1:=((Below.refl B W).alloc hB _).trans (below_grown hg1 (λg hg=>(Mg.Ms hrow1 hg).1) (by omega));have hbe1':B<=w1.heap.size:=fO hB hbe1.size;have hk1:OthersKept 5 (some b3) W w1:=(jd W _ 5 _).trans (iJ hg1 (λg hg=>oY hrow1 hg) _);have hne:∀(u:Value) c fz,Obj.cells #[u] 117 (0,0)≠Obj.cells c 5 fz:=λu c fz e=>by injection e with _ e;cases e
 have hk1b:w1.heap[b3]? =some (.cells #[v] 117 (0,0)):=((jd W _ 5 none).trans (iJ hg1 (λg hg=>oY hrow1 hg) _)) b3 _ HC.out (by simp) (hne v);have CA:=Tryz.strconv_AppendInt_10 B (xs.length+1) n h0 h1 v1 (byteCells xs++ [.int .u8 32]) w1 hown1 hbe1' (by omega) (htab.on hbe1);have HK1B:=h_ hk1b;clear hk1b hown1 hg1 hnil1 hat1 hcell;go_wp2_with (go_at_call 122;refine CA.mono ?_;rintro e w2 ⟨v2,rfl,hown2,hbe2,hok2⟩;obtain⟨A2,c2,rfl⟩:=slice_form hown2;have hk2b:=hok2 b3 _ HK1B.out (by simp) (hne v);have hc2:=cell_of hk2b;have hf2:=lO hk2b)
 go_end0
 have hx:(byteCells xs++ [Value.int .u8 32])++byteCells (itoa n)=byteCells (xs++word n):=by simp[byteCells,word]
 have hl:xs.length+1+(itoa n).length=(xs++word n).length:=by simp[word];omega
 have ho3:=oQ (b:=b3) (u:= .slice A2 (xs.length+1+(itoa n).length) c2) hown2 (λg hg e=>by
  obtain⟨c,fz,hcg⟩:=oY hown2 hg;rw[e,hk2b]at hcg;exact hne v c fz (PU hcg)) rfl
 refine⟨rfl,⟨_,ni hk2b,by rw[<-hl, <-hx];exact ho3⟩,⟨(hbe1.trans hbe2).trans (uK hBb),(hk1.trans (l9 hok2 _)).trans ti⟩⟩
theorem Fx{w:World}{B B':Nat}{T:TypeId}{sz n:Nat}{v:Value}{xs:List Value}(h:w.ownsRow B T sz v n xs)(hB:B'<=B):w.ownsRow B' T sz v n xs:=by
 rcases h with⟨h0,h1|⟨g,cap,cur,e,hb,rest⟩⟩
 ·exact⟨h0, .inl h1⟩
 ·exact⟨h0, .inr ⟨g,cap,cur,e,fO hB hb,rest⟩⟩
set_option maxHeartbeats 1000000 in
theorem zR(B b3 g:Nat)(n:Int)(W:World)(h0: -9223372036854775808<=n)(h1:n<=9223372036854775807)(hc:W.heap[b3]? =some (.cells #[.slice (some ⟨g,0,none⟩) 5 5] 117 (0,0)))
  (hp : ∀ j u, (byteCells dI)[j]? = some u -> W.cell? ⟨g, j, none⟩ = some u) (hB : B <= W.heap.size) (hBb : B <= b3) (htab : TabBelow Tryz.prog B W "internal/strconv.uint64pow10" .u64 pow10Tab) :
  Calls Tryz.prog 121 #[.int .i64 n, .pointer (some ⟨b3,0,none⟩)] W λe w'=>e= .returned (.tuple #[])/\oe w' B b3 (dI++word n)/\Kp B b3 W w':=by
 have hcell:W.cell? ⟨b3,0,none⟩=some (.slice (some ⟨g,0,none⟩) 5 5):=cell_of hc;obtain⟨i0,hi,hz0,hz1,hz2⟩:=Nr;have hsz:(W.alloc (.cells #[.int .u8 32] 5)).heap.size=W.heap.size+1:=by simp
 have HC:=h_ hc;have HP:=h_ hp;clear hc hp;go_enter Tryz.func121,Tryz.ntmps121;go_wp2_with (at_builtin;refine wpList_append_grows _ rfl (.tmp 3) (.tmp 4) 117 rfl 5 i0 (.int .u8 0) 1 1 Tryz.underlying117 hi hz0 hz1 hz2 rfl (by decide) (some ⟨g,0,none⟩) 5 5 (byteCells dI) rfl (λe=>by cases e) rfl (λb hb j u hu=>by cases hb;have:=HP.out j u hu;rw[Addr.add_mid,nW];exact cell_grown this (World.grownBy_alloc _ _ _)) ⟨W.heap.size,0,none⟩ 1 1 [.int .u8 32] rfl rfl (cell_one_new _ _ _) (by simp[Value.oneCell']) (by decide) (by decide) (by decide) ?_)
 intro v1 w1 hown0 hg1;have hown1:=Fx (B':=B) hown0 (by omega);have hbe1:Below B W w1:=((Below.refl B W).alloc hB _).trans (below_grown hg1 (λg hg=>by cases hg) (by omega));have hbe1':B<=w1.heap.size:=fO hB hbe1.size;have hk1:OthersKept 5 none W w1:=(jd W _ 5 none).trans (iJ hg1 (λg hg=>by cases hg) _);have hne:∀(u:Value) c fz,Obj.cells #[u] 117 (0,0)≠Obj.cells c 5 fz:=λu c fz e=>by injection e with _ e;cases e
 have hk1b:w1.heap[b3]? =some (.cells #[.slice (some ⟨g,0,none⟩) 5 5] 117 (0,0)):=hk1 b3 _ HC.out (by simp) (hne _);have CA:=Tryz.strconv_AppendInt_10 B (5+1) n h0 h1 v1 (byteCells dI++ [.int .u8 32]) w1 hown1 hbe1' (by omega) (htab.on hbe1);have HK1B:=h_ hk1b;clear hk1b hown1 hg1 hcell hown0;go_wp2_with (go_at_call 122;refine CA.mono ?_;rintro e w2 ⟨v2,rfl,hown2,hbe2,hok2⟩;obtain⟨A2,c2,rfl⟩:=slice_form hown2;have hk2b:=hok2 b3 _ HK1B.out (by simp) (hne _);have hc2:=cell_of hk2b;have hf2:=lO hk2b)
 go_end0
 have hx:(byteCells dI++ [Value.int .u8 32])++byteCells (itoa n)=byteCells (dI++word n):=by simp[byteCells,word]
 have hl:5+1+(itoa n).length=(dI++word n).length:=by simp[word,dI];omega
 have ho3:=oQ (b:=b3) (u:= .slice A2 (5+1+(itoa n).length) c2) hown2 (λg hg e=>by
  obtain⟨c,fz,hcg⟩:=oY hown2 hg;rw[e,hk2b]at hcg;exact hne _ c fz (PU hcg)) rfl
 refine⟨rfl,⟨_,ni hk2b,by rw[<-hl, <-hx];exact ho3⟩,⟨(hbe1.trans hbe2).trans (uK hBb),((l9 hk1 _).trans (l9 hok2 _)).trans ti⟩⟩
theorem Iw(B b3 b4 : Nat)(x : Bool)(xs : List UInt8)(W : World)(hO : oe W B b3 xs)(hB : B <= W.heap.size)(hBb : B <= b3)(htab : TabBelow Tryz.prog B W "internal/strconv.uint64pow10" .u64 pow10Tab)(hlen : xs.length <= 70368744177664)
  (h4:W.heap[b4]? =some (.cells #[.func (.func 121) #[] #[.pointer (some ⟨b3,0,none⟩)]] 211 (0,0))):
  Calls Tryz.prog 123 #[.bool x, .pointer (some ⟨b4,0,none⟩)] W λe w'=>e= .returned (.tuple #[])/\oe w' B b3 (xs++word (Eb x))/\Kp B b3 W w':=by
 have CW:=λn h0 h1=>vP B b3 n xs W h0 h1 hO hB hBb htab hlen
 have c4:=cell_of h4;clear hO htab;cases x with
 |true=>
  have C1:=CW 1 (by decide) (by decide);clear CW;go_enter Tryz.func123,Tryz.ntmps123;go_wp2_with (go_at_call 121;refine C1.mono ?_;rintro e w2 ⟨rfl,ho2,hk2⟩)
  go_end0
  exact⟨rfl,ho2,hk2⟩
 |false=>
  have C1:=CW 0 (by decide) (by decide);clear CW;go_enter Tryz.func123,Tryz.ntmps123;go_wp2_with (go_at_call 121;refine C1.mono ?_;rintro e w2 ⟨rfl,ho2,hk2⟩)
  go_end0
  exact⟨rfl,ho2,hk2⟩
open Go.Opn
def Row(w:World)(b:Nat)(T:TypeId)(cs:List Value):Prop:=w.heap[b]? =some (.cells cs.toArray T (0,0))
theorem Row.new(w:World)(T:TypeId)(cs:List Value):Row (w.alloc (.cells cs.toArray T)) w.heap.size T cs:=by show(w.heap.push _)[w.heap.size]? =_;simp
theorem Row.at{w:World}{b k:Nat}{T:TypeId}{cs:List Value}{v:Value}(h:Row w b T cs)(hv:cs[k]? =some v):w.cell? ⟨b,k,none⟩=some v:=by unfold Row at h;simp[World.cell?,h,hv]
theorem Row.bD{w w':World}{b:Nat}{T:TypeId}{cs:List Value}(h:Row w b T cs)(hk:w'.heap[b]? =w.heap[b]?):Row w' b T cs:=hk.trans h
theorem Row.below{w w':World}{b B:Nat}{T:TypeId}{cs:List Value}(h:Row w b T cs)(hb:Below B w w')(hB:b<B):Row w' b T cs:=h.bD (hb.block b hB)
theorem Row.lt{w:World}{b:Nat}{T:TypeId}{cs:List Value}(h:Row w b T cs):b<w.heap.size:=(iS.1 h).1
theorem Row.kept{w w':World}{b B b3:Nat}{T:TypeId}{cs:List Value}(h:Row w b T cs)(hk:Kp B b3 w w')(hT:T≠5)(hb:b≠b3):Row w' b T cs:=
 hk.rest b _ h (by simp;exact hb) (λc fz e=>by injection e with _ e;exact hT e)
theorem Row.range{w:World}{b o:Nat}{T:TypeId}{cs vs:List Value}(h:Row w b T cs)(hv:∀j v,vs[j]? =some v->cs[o+j]? =some v):w.rangeAt b o vs:=λj v hj=>h.at (hv j v hj)

theorem Gf(w:World)(v u:Value)(T:TypeId):(w.alloc (.cells #[v] T)).setCell ⟨w.heap.size,0,none⟩ u=w.alloc (.cells #[u] T):=by
 have hm:∀(a:Array Obj) (x:Obj) (f:Obj->Obj),(a.push x).modify a.size f=a.push (f x):=by
  intro a x f;apply Array.ext
  ·simp
  ·intro i h1 h2;simp only[Array.getElem_modify,Array.getElem_push];by_cases h:a.size=i
   ·subst h;simp
   ·have hi:i<a.size:=by simp at h1;omega
    simp[h,hi]
 show({w with heap:=(w.heap.push (.cells #[v] T)).modify w.heap.size _}:World)= {w with heap:=w.heap.push (.cells #[u] T)}
 rw[hm];rfl
theorem Gq(P:Program)(w:World)(v u:Value)(T:TypeId)(hu:u.oneCell'=true):(store ⟨w.heap.size,0,none⟩ u).run P (w.alloc (.cells #[v] T))= .ok () (w.alloc (.cells #[u] T)):=by
 have hb:(w.alloc (.cells #[v] T)).heap[w.heap.size]? =some (.cells #[v] T (0,0)):=by show(w.heap.push (.cells #[v] T))[w.heap.size]? =_;simp
 rw[run_store P _ _ _ _ hu,cell_of hb,lO hb,Gf];rfl
theorem pk(a b:List Int):words (a++b)=words a++words b:=by simp[words]
theorem qz(n:Int):words [n]=word n:=by simp[words]
theorem vN:∀l:List Int,(∀n∈l,cP n)->(words l).length<=22*l.length
 | [],_=>by simp[words]
 |n::l,h=>by
  have h1:=vN l λm hm=>h m (by simp[hm])
  have h2:=Ku n (h n (by simp)).1 (h n (by simp)).2;show(word n++words l).length<=_;rw[fu,kq];omega
structure my (n0:Nat) (W4:World) (l:List Int) (w:World):Prop where
 kp:Kp (n0+1) (n0+1+1) W4 w
 out:oe w (n0+1) (n0+1+1) (dI++words l)
 all:∀n∈l,cP n
structure TW (n0:Nat) (W4:World):Prop where
 size:n0+1<=W4.heap.size
 RR : TabBelow Tryz.prog (n0 + 1) W4 "internal/strconv.uint64pow10" .u64 pow10Tab
 fn:Row W4 (n0+1+1+1) 211 [.func (.func 121) #[] #[.pointer (some ⟨n0+1+1,0,none⟩)]]
theorem my.row{n0:Nat}{W4 w:World}{l:List Int}(h:my n0 W4 l w){b:Nat}{T:TypeId}{cs:List Value}(hr:Row W4 b T cs)(hT:T≠5)(hb:b≠n0+1+1):Row w b T cs:=hr.kept h.kp hT hb
theorem my.c4{n0:Nat}{W4 w:World}{l:List Int}(h:my n0 W4 l w)(hw:TW n0 W4):w.cell? ⟨n0+1+1+1,0,none⟩=some (.func (.func 121) #[] #[.pointer (some ⟨n0+1+1,0,none⟩)]):=
 (h.row hw.fn (by decide) (by omega)).at rfl
theorem oe.alloc{w:World}{B b3:Nat}{xs:List UInt8}(h:oe w B b3 xs)(o:Obj):oe (w.alloc o) B b3 xs:=by obtain⟨v,h1,h2⟩:=h;have hlt:b3<w.heap.size:=(iS.1 h1).1;refine⟨v, ?_,h2.alloc _⟩;rw[show(w.alloc o).heap=w.heap.push o from rfl,Array.getElem?_push_lt hlt, <-h1,Si hlt]
theorem Row.alloc{w:World}{b:Nat}{T:TypeId}{cs:List Value}(h:Row w b T cs)(o:Obj):Row (w.alloc o) b T cs:=by unfold Row at*;have hlt:b<w.heap.size:=(iS.1 h).1;rw[show(w.alloc o).heap=w.heap.push o from rfl,Array.getElem?_push_lt hlt, <-h,Si hlt]
theorem my.alloc{n0:Nat}{W4 w:World}{l:List Int}(h:my n0 W4 l w)(hw:TW n0 W4)(o:Obj):my n0 W4 l (w.alloc o):=
 ⟨h.kp.trans ⟨(Below.refl _ _).alloc (fO hw.size h.kp.below.size) o,jd _ _ _ _⟩,h.out.alloc o,h.all⟩
theorem my.len{n0:Nat}{W4 w:World}{l:List Int}(h:my n0 W4 l w)(hl:l.length<=1000):(dI++words l).length<=70368744177664:=by
 have:=vN l h.all;rw[fu]
 have:dI.length=5:=rfl;omega
theorem my.write{n0:Nat}{W4 w:World}{l:List Int}(h:my n0 W4 l w)(hw:TW n0 W4)(n:Int)(hn:cP n)(hl:l.length<=1000):
  Calls Tryz.prog 121 #[.int .i64 n, .pointer (some ⟨n0+1+1,0,none⟩)] w λe w'=>e= .returned (.tuple #[])/\my n0 W4 (l++ [n]) w'/\Kp (n0+1) (n0+1+1) w w':=
 (vP (n0+1) (n0+1+1) n _ w hn.1 hn.2 h.out (fO hw.size h.kp.below.size) (by omega) (hw.RR.on h.kp.below) (h.len hl)).mono λ_ _ ⟨h1,h2,h3⟩=>
  ⟨h1,⟨h.kp.trans h3,by rw[pk,qz, <-List.append_assoc];exact h2,λm hm=>by
   rcases zT.1 hm with hm|hm
   ·exact h.all m hm
   ·simp at hm;subst hm;exact hn⟩,h3⟩
theorem Og(x:Bool):cP (Eb x):=by unfold cP;cases x<;>decide
theorem my.flag{n0:Nat}{W4 w:World}{l:List Int}(h:my n0 W4 l w)(hw:TW n0 W4)(x:Bool)(hl:l.length<=1000):
  Calls Tryz.prog 123 #[.bool x, .pointer (some ⟨n0+1+1+1,0,none⟩)] w λe w'=>e= .returned (.tuple #[])/\my n0 W4 (l++ [Eb x]) w'/\Kp (n0+1) (n0+1+1) w w':=
 (Iw (n0+1) (n0+1+1) (n0+1+1+1) x _ w h.out (fO hw.size h.kp.below.size) (by omega) (hw.RR.on h.kp.below) (h.len hl) (h.row hw.fn (by decide) (by omega))).mono λ_ _ ⟨h1,h2,h3⟩=>
  ⟨h1,⟨h.kp.trans h3,by rw[pk,qz, <-List.append_assoc];exact h2,λm hm=>by
   rcases zT.1 hm with hm|hm
   ·exact h.all m hm
   ·simp at hm;subst hm;exact Og x⟩,h3⟩
theorem my.first{n0:Nat}{W4:World}(hw:TW n0 W4)(n:Int)(hn:cP n)(hc:Row W4 (n0+1+1) 117 [.slice (some ⟨n0+1,0,none⟩) 5 5])(hp:∀j u,(byteCells dI)[j]? =some u->W4.cell? ⟨n0+1,j,none⟩=some u):
  Calls Tryz.prog 121 #[.int .i64 n, .pointer (some ⟨n0+1+1,0,none⟩)] W4 λe w'=>e= .returned (.tuple #[])/\my n0 W4 [n] w':=
 (zR (n0+1) (n0+1+1) (n0+1) n W4 hn.1 hn.2 hc hp hw.size (by omega) hw.RR).mono λ_ _ ⟨h1,h2,h3⟩=>
  ⟨h1,⟨h3,by rw[qz];exact h2,λm hm=>by simp at hm;subst hm;exact hn⟩⟩
theorem my.text{n0:Nat}{W4 w:World}{l:List Int}(h:my n0 W4 l w):∃v,w.cell? ⟨n0+1+1,0,none⟩=some v/\(∃A n c,v= .slice A n c)/\(convert 117 9 v).run Tryz.prog w= .ok (.string (tx (dI++words l))) w:=by
 obtain⟨v,h1,h2⟩:=h.out;refine⟨v,cell_of h1, ?_, ?_⟩
 ·obtain⟨A,c,e⟩:=slice_form h2;exact⟨A,_,c,e⟩
 ·obtain⟨_,⟨_,h0⟩|⟨g,cap,cur,rfl,_,hg,_,_,_,ht⟩⟩:=h2
  ·rw[fu]at h0;exact absurd h0 (by have:dI.length=5:=rfl;omega)
  ·refine run_convert_bytes_back (P:=Tryz.prog) w 117 9 5 ⟨g,0,none⟩ cap (dI++words l) Tryz.underlying117 Tryz.underlying5 Tryz.underlying9 (λj hj=> ?_);rw[Addr.add_mid,nW,cell_of_row w g j cur 5 (0,0) hg, <-Array.getElem?_toList]
   have:(byteCells (dI++words l))[j]? =some (.int .u8 ((dI++words l)[j]).toNat):=by rw[byteCells,mx,eH hj];rfl
   rw[<-ht,qC]at this;split at this
   ·exact this
   ·cases this
end Go.Proofs.YtkmbmfengcdmoaaGreatDoor
namespace Go.Grd
open Go Go.RowKit Go.Free
section
variable {P:Program} {ops:Array Oper} {Q:Exit->Act->World->Prop} {a:Act} {w:World} {rest:List Oper} {o1 o2 o3 o4 o5:Oper} {j t s1 s2 s3 s4 s5:Nat} {pol acc B:Bool} {v1 v2 v3:Value}
end
end Go.Grd
namespace Go.Hk
open Go Go.RowKit
theorem IK{w:World}{o:Obj}{g:Nat}(hg:g=w.heap.size):(w.alloc o).heap[g]? =some o:=by subst hg;show(w.heap.push o)[w.heap.size]? =_;simp
theorem aD{P:Program}{ops:Array Oper}{rest:List Oper}{o:Oper}{a:Act}{w:World}{Q:Exit->Act->World->Prop}(hgd:o.guard=none)(ty:TypeId)(x y:Operand)(ho:o.op= .store ty x y)
  (g:Nat) (cells:Array Value) (hx:a.eval x= .pointer (some ⟨g,0,none⟩)) (hy:a.eval y= .agg cells)
  (ju:Array Value) (t:TypeId) (hg:g=w.heap.size) (hi:(P.info? ty).map (·.size)=some cells.size) (hold:ju.size=cells.size) (h1:cells.all (·.oneCell')=true)
  (h:wpList P ops Q rest (a.put o.dst undef) (w.alloc (.cells cells t))):wpList P ops Q (o::rest) a (w.alloc (.cells ju t)):=by
 refine wpList_store_row hgd ty x y ho g cells hx hy t ju (IK hg) hi hold h1 ?_;subst hg;rw[World.setRow_alloc_new];exact h
theorem aU{P:Program}{ρ:Operand->Value}{op:Oper}{w:World}(ty:TypeId)(x:Operand)(ho:op.op= .load ty x)(b o:Nat)(hx:ρ x= .pointer (some ⟨b,o,none⟩))(cs:List Value)(d:TypeDesc)(hc:w.rangeAt b o cs)
  (hu:P.underlying ty=some d) (hd:d.isRow=true) (hi:(P.info? ty).map (·.size)=some cs.length):(execOp ρ op).run P w= .ok (.value (.agg cs.toArray)) w:=by
 unfold execOp;simp only[ho,hx,Instr.loadAt,Instr.sureAddr,Sem.run_bind,Sem.run_pure,Result.andThen_ok,run_loadVar_mid w b o ty cs d hc hu hd hi]
end Go.Hk
namespace Go.Proofs.YtkmbmfengcdmoaaGreatDoor
open Go.RowKit Go.W32 Go.ay Go.Cs Go.Lib Go.Opn

end Go.Proofs.YtkmbmfengcdmoaaGreatDoor
