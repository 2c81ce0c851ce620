/- Package chain: misplaced. No condition. -/
import Derived.Test.YtkmbmfengcdmoaaGreatDoorZAE
import Derived.WalkMore
import Derived.Deep.WholeRow
import Derived.Laws.Tables
set_option maxRecDepth 100000
set_option linter.all false
namespace Go.Proofs.YtkmbmfengcdmoaaGreatDoor
open Go.RowKit Go.ay Go.Opn

def Po(e:aV):ByteArray:=gb e++⟨#[32]⟩++dec e.r++⟨#[32]⟩++dec e.s
def Ib(e:aV):ByteArray:=uB KC (Po e)
theorem iz{e:aV}(h:e.Ok):(gb e).size<=94+e.prev.size+e.body.size:=by
 have:=xo h 4;have a:e.prev.data.toList.length=e.prev.size:=by simp
 have b:e.body.data.toList.length=e.body.size:=by simp
 show(Kq e).toArray.size<=_;rw[tY];unfold Kq;simp only[fu,kq,qA,a,b];omega
theorem Kr{e:aV}(h:e.Ok):(Po e).size<=138+e.prev.size+e.body.size:=by have b:=iz h;have c:=cR e.r h.r0 h.r1;have d:=cR e.s h.s0 h.s1;have a:(⟨#[32]⟩:ByteArray).size=1:=rfl;unfold Po;simp only[NR,a];omega
theorem aQ{w w':World}{p:Addr}{v:Value}(h:w.cell? p=some v)(g:Free.Grow w w'):w'.cell? p=some v:=by rw[Below.cell g (World.block_lt_of_cell? w _ h)];exact h
theorem nE{w a:World}(h:Free.Grow w.drew a):Below w.heap.size w a:=⟨h.os,h.tape,h.output,h.size,h.block⟩
set_option maxHeartbeats 2000000 in
theorem Lt(a:aV)(w:World)(d:a.Ok)(E:a.prev.size<=1000000000)(C:a.body.size<=1000000000)(i:cB w):
  Calls Tryz.prog 117 #[.agg (aK a).toArray] w λe w'=>e= .returned (.string (Ib a))/\Below w.heap.size w w':=by
 have n:=(ay.new w (aK a) 42)
 have N:=n.ag 0 _ rfl;have O:=n.ag 1 _ rfl;have P:=n.ag 2 _ rfl;have Q:=n.ag 3 _ rfl;have c4:=n.ag 4 _ rfl;have R:=n.ag 5 _ rfl;have S:=n.ag 6 _ rfl;have x:=i.alloc (.cells (aK a).toArray 42);have z:=h_ (λw i=>ic a w d E C i);have J:=h_ (λw i=>fg a.r w d.r0 d.r1 i);have K:=h_ (λw i=>fg a.s w d.s0 d.s1 i);have X:=Kr d;have v:=h_ (λw (i:cB w)=>DN KC (Po a) w (by omega) i.k);have L:Hid (Ib a=uB KC (Po a)):=rfl;obtain⟨U,q⟩:=x_ (Ib a)
 rw[<-q];rw[<-L.out, <-q]at v;unfold Po at v;obtain⟨u,t⟩:=x_ (gb a)
 rw[<-t]at z v;obtain⟨G,I,xd,H,xb,l,p⟩:=a;have y:=(Below.refl w.heap.size w).alloc (aL _) (.cells (aK ⟨G,I,xd,H,xb,l,p⟩).toArray 42);have M:=h_ y;have Y:u.size<=3000000000:=by have:=iz d;rw[t];simp only at this E C;omega
 have V:=cR l d.r0 d.r1;have W:=cR p d.s0 d.s1;have z1: ¬9223372036854775807<u.size+1:=by omega
 have z2: ¬9223372036854775807<u.size+1+(dec l).size:=by omega
 have z3: ¬9223372036854775807<u.size+1+(dec l).size+1:=by omega
 have z4: ¬9223372036854775807<u.size+1+(dec l).size+1+(dec p).size:=by omega
 clear i d E C X L q t n y;go_enter Tryz.func117,Tryz.ntmps117;go_wp2_with fail;refine Free.ai 15 [(1, .det (.string u)),(6, .det (.string (dec l))),(12, .det (.string (dec p))),(14, .det (.string U))] (λo=>cB o/\o.cell? ⟨w.heap.size,0,none⟩=some (.int .i64 G)/\o.cell? ⟨w.heap.size,1,none⟩=some (.int .i64 I)/\o.cell? ⟨w.heap.size,2,none⟩=some (.int .i64 xd)/\o.cell? ⟨w.heap.size,3,none⟩=some (.string H)/\o.cell? ⟨w.heap.size,4,none⟩=some (.string xb)/\o.cell? ⟨w.heap.size,5,none⟩=some (.int .i64 l)/\o.cell? ⟨w.heap.size,6,none⟩=some (.int .i64 p)) (by kernel_rfl) (by kernel_rfl) ?_ ⟨x.below (B:=w.heap.size+1) ⟨rfl,rfl,rfl,aL _,λ_ _=>rfl⟩ (by simp),N,O,P,Q,c4,R,S⟩ (λ_ _ h g=>⟨h.1.below g (aL _),aQ h.2.1 g,aQ h.2.2.1 g,aQ h.2.2.2.1 g,aQ h.2.2.2.2.1 g,aQ h.2.2.2.2.2.1 g,aQ h.2.2.2.2.2.2.1 g,aQ h.2.2.2.2.2.2.2 g⟩) ?_
 ·intro j mk r D;simp only[Free.find]at D
  repeat' split at D
  all_goals (first|cases D|skip)
 simp only[eJ,dT];clear N O P Q c4 R S x;iterate 15 (first|(apply Free.aC rfl rfl;(intro w' c m;refine Free.au (f:=16) (args:= #[.agg (aK ⟨G,I,xd,H,xb,l,p⟩).toArray]) (by clear c m;go_simp<;>rfl) ?_;refine(z.out _ c.1).mono ?_;rintro e F ⟨rfl,b⟩;exact⟨_,rfl,b,rfl⟩);simp only[Pt])|(apply Free.aC rfl rfl;(intro w' c m;refine Free.au (f:=59) (args:= #[.int .i64 l]) (by clear c m;go_simp<;>rfl) ?_;refine(J.out _ c.1).mono ?_;rintro e F ⟨rfl,b⟩;exact⟨_,rfl,b,rfl⟩);simp only[Pt])|(apply Free.aC rfl rfl;(intro w' c m;refine Free.au (f:=59) (args:= #[.int .i64 p]) (by clear c m;go_simp<;>rfl) ?_;refine(K.out _ c.1).mono ?_;rintro e F ⟨rfl,b⟩;exact⟨_,rfl,b,rfl⟩);simp only[Pt])|(apply Free.aC rfl rfl;(intro w' c m;refine Free.au (f:=138) (args:= #[.string (u++⟨#[32]⟩++dec l++⟨#[32]⟩++dec p)]) (by clear c m;go_simp<;>rfl) ?_;refine(v.out _ c.1).mono ?_;rintro e F ⟨rfl,b⟩;exact⟨_,rfl,b,rfl⟩);simp only[Pt])|(apply Free.ae (Free.wq rfl) rfl;(intro w' c m;obtain⟨Z,q0,q1,q2,q3,q4,q5,q6⟩:=c;clear m Z;go_light;go_simp<;>rfl);(try simp only[Pt])))
 apply Free.ax;intro wz _ T _;simp only[fm,fo];have hz:=nE T;have A:=h_ (M.out.trans (hz.mono (by simp)));clear T hz M z J K v
 go_wp2
 go_ret;exact⟨rfl,A.out⟩
def fF(l:List aV):ByteArray:=match l.getLast? with|none=>⟨#[]⟩|some e=>Ib e
def PG(l:List aV):Prop:=∀e∈l,e.Ok/\e.prev.size<=1000000000/\e.body.size<=1000000000
theorem zc(A:Option Addr)(c:Nat)(l:List aV)(w:World)(h:SL w 7 aK A l)(G:l.length<=9223372036854775807)(C:PG l)(j:cB w):
  Calls Tryz.prog 70 #[.slice A l.length c] w λe w'=>e= .returned (.string (fF l))/\Below w.heap.size w w':=by
 by_cases n:l= []
 ·subst n;go_enter Tryz.func70,Tryz.ntmps70
  go_wp2
  go_ret;exact⟨rfl,Below.refl _ _⟩
 ·have i:0<l.length:=List.length_pos_iff.2 n;obtain⟨x,k⟩:∃x,l[l.length-1]? =some x:=⟨_,eH (by omega)⟩
  have D:l.getLast? =some x:=by rw[List.getLast?_eq_getElem?];exact k
  have v:fF l=Ib x:=by unfold fF;rw[D]
  rw[v];obtain⟨y,z,B⟩:=C x (ue k);have o:=h_ (λw j=>Lt x w y z B j);obtain⟨b,H,rfl,a⟩:=h.at_ k;obtain⟨I,d⟩:=x_ (Ib x)
  rw[<-d]at o⊢;obtain⟨K,M,xd,L,xb,N,O⟩:=x;have p:=a 0 _ rfl;have q:=a 1 _ rfl;have r:=a 2 _ rfl;have s:=a 3 _ rfl;have c4:=a 4 _ rfl;have t:=a 5 _ rfl;have u:=a 6 _ rfl;obtain⟨m,hm⟩:∃m,l.length=m+1:=⟨l.length-1,by omega⟩
  have g:l.length-1=m:=by omega
  rw[g]at p q r s c4 t u;rw[hm]at G⊢;simp only[<-Nat.add_assoc,KO]at p q r s c4 t u;have F:=h_ j;clear h a D v y z B d C k i n hm g j;go_enter Tryz.func70,Tryz.ntmps70;go_wp2_with fail;refine(o.out _ F.out).mono ?_;rintro e J ⟨rfl,f⟩;have E:=h_ f;clear f;go_wp2_with fail;go_ret;exact⟨rfl,E.out⟩
theorem fk{o:Oper}{ops:Array Oper}{a:Act}{j t:Nat}{b d:Bool}(e:o.guard=some (j,d))(f:(ops[j]?).bind (·.dst)=some t)(g:a.tmps[t]? =some (.bool b))(c:(b==d)=false):Region.wanted o (yielded ops a.tmps)=false:=by unfold Region.wanted yielded;rw[e];simp only[f,Option.bind_some,g];simpa using c
def ql(n:Nat)(e:aV):Bool:=decide ((n:Int)<4000)&&decide ((e.body.size:Int)<=2000)
def pP(n:Nat)(e:aV)(house:Int):Bool:=(e.house==house)&&((e.seq==(n:Int))&&(decide (0<=e.day)&&decide (e.day<=2000)))
def rA(l:List aV)(e:aV):Bool:=match l.getLast? with|none=>true|some x=>decide (x.day<=e.day)
def gD(l:List aV)(e:aV)(house:Int):Int:=if ql l.length e then(if pP l.length e house then(if rA l e then 0 else 15)else 1)else 3
theorem LV(b be n:Nat)(e:aV)(w:World)(g:w.cell? ⟨b,0,none⟩=some (.int .i64 n))(f:w.cell? ⟨be,4,none⟩=some (.string e.body)):
  Calls Tryz.prog 114 #[.pointer (some ⟨b,0,none⟩), .pointer (some ⟨be,0,none⟩)] w λd w'=>d= .returned (.bool (ql n e))/\w=w':=by
 unfold ql;by_cases c:(n:Int)<4000
 ·have a:decide ((n:Int)<4000)=true:=dt c;rw[a,M8];go_enter Tryz.func114,Tryz.ntmps114
  go_wp2
  go_ret;exact⟨rfl,rfl⟩
 ·have a:decide ((n:Int)<4000)=false:=dy c;rw[a,R3];go_enter Tryz.func114,Tryz.ntmps114
  go_wp2
  go_ret;exact⟨rfl,rfl⟩
theorem K2(c be b n:Nat)(e:aV)(house:Int)(w:World)(k:w.cell? ⟨c,0,none⟩=some (.int .i64 n))(j:w.cell? ⟨b,0,none⟩=some (.int .i64 house))
  (g:w.cell? ⟨be,0,none⟩=some (.int .i64 e.house)) (h:w.cell? ⟨be,1,none⟩=some (.int .i64 e.seq)) (i:w.cell? ⟨be,2,none⟩=some (.int .i64 e.day)):
  Calls Tryz.prog 115 #[.pointer (some ⟨be,0,none⟩), .pointer (some ⟨b,0,none⟩), .pointer (some ⟨c,0,none⟩)] w λf w'=>f= .returned (.bool (pP n e house))/\w=w':=by
 unfold pP;cases e1:(e.house==house)with
 |false=>
  rw[R3];go_enter Tryz.func115,Tryz.ntmps115
  go_wp2
  go_ret;exact⟨rfl,rfl⟩
 |true=>
  rw[M8];cases e2:(e.seq==(n:Int))with
  |false=>
   rw[R3];go_enter Tryz.func115,Tryz.ntmps115
   go_wp2
   go_ret;exact⟨rfl,rfl⟩
  |true=>
   rw[M8];by_cases d:0<=e.day
   ·have a:decide (0<=e.day)=true:=dt d;rw[a,M8];go_enter Tryz.func115,Tryz.ntmps115
    go_wp2
    go_ret;exact⟨rfl,rfl⟩
   ·have a:decide (0<=e.day)=false:=dy d;rw[a,R3];go_enter Tryz.func115,Tryz.ntmps115
    go_wp2
    go_ret;exact⟨rfl,rfl⟩
theorem Mn(i be bl:Nat)(A:Option Addr)(c:Nat)(l:List aV)(e:aV)(w:World)(L:l.length<=9223372036854775807)(s:w.cell? ⟨i,0,none⟩=some (.int .i64 l.length))(y:w.cell? ⟨bl,0,none⟩=some (.slice A l.length c))
  (h:SL w 7 aK A l) (o:w.cell? ⟨be,2,none⟩=some (.int .i64 e.day)):
  Calls Tryz.prog 116 #[.pointer (some ⟨i,0,none⟩), .pointer (some ⟨be,0,none⟩), .pointer (some ⟨bl,0,none⟩)] w λK w'=>K= .returned (.bool (rA l e))/\Below w.heap.size w w':=by
 by_cases z:l= []
 ·subst z;have n:rA [] e=true:=rfl;rw[n];have t:w.drew.cell? ⟨i,0,none⟩=some (.int .i64 0):=s;clear h y n;go_enter Tryz.func116,Tryz.ntmps116;go_wp2_with fail;refine Free.ai 13 [] (λk=>k.cell? ⟨i,0,none⟩=some (.int .i64 0)) (by kernel_rfl) (by kernel_rfl) ?_ t (λ_ _ h g=>aQ h g) ?_
  ·intro j N r p;simp only[Free.find]at p;cases p
  simp only[eJ,dT];clear s t;iterate 13 (first|(apply Free.dw (by exact fk rfl rfl rfl rfl);simp only[Pt])|(apply Free.ae (Free.wq rfl) rfl;(intro w' C B;obtain P:=C;clear B;go_light;go_simp<;>rfl);(try simp only[Pt])))
  apply Free.ax;intro Q _ d _;simp only[fm,fo];have f:=h_ (nE d);clear d
  go_wp2
  go_ret;exact⟨rfl,f.out⟩
 ·have u:0<l.length:=List.length_pos_iff.2 z;obtain⟨x,E⟩:∃x,l[l.length-1]? =some x:=⟨_,eH (by omega)⟩
  have d:l.getLast? =some x:=by rw[List.getLast?_eq_getElem?];exact E
  have n:rA l e=decide (x.day<=e.day):=by unfold rA;rw[d]
  rw[n];obtain⟨b,a,rfl,G⟩:=h.at_ E;have v:=G 2 _ rfl;obtain⟨m,hm⟩:∃m,l.length=m+1:=⟨l.length-1,by omega⟩
  have q:l.length-1=m:=by omega
  rw[q]at v;rw[hm]at L s y;simp only[<-Nat.add_assoc]at v;have F:w.drew.cell? ⟨i,0,none⟩=some (.int .i64 ((m+1:Nat):Int)):=s;have H:w.drew.cell? ⟨bl,0,none⟩=some (.slice (some ⟨b,a,none⟩) (m+1) c):=y;have I:w.drew.cell? ⟨b,a+m*7+2,none⟩=some (.int .i64 x.day):=v;have J:w.drew.cell? ⟨be,2,none⟩=some (.int .i64 e.day):=o;have D:((m+1:Nat):Int)=(m:Int)+1:=by omega
  rw[D]at F;have R:((m:Int)+1==0)=false:=by simp;omega
  have M:(0:Int)<=(m:Int):=by omega
  have S:IntKind.i64.wrap (m:Int)=(m:Int):=IntWalk.i64_in _ (by omega);have O:(m:Int)<(m:Int)+1:=by omega
  clear h G d n E u z hm q s y v o;go_enter Tryz.func116,Tryz.ntmps116;go_wp2_with fail;refine Free.ai 13 [] (λk=>k.cell? ⟨i,0,none⟩=some (.int .i64 ((m:Int)+1))/\k.cell? ⟨bl,0,none⟩=some (.slice (some ⟨b,a,none⟩) (m+1) c)/\k.cell? ⟨b,a+m*7+2,none⟩=some (.int .i64 x.day)/\k.cell? ⟨be,2,none⟩=some (.int .i64 e.day)) (by kernel_rfl) (by kernel_rfl) ?_ ⟨F,H,I,J⟩ (λ_ _ h g=>⟨aQ h.1 g,aQ h.2.1 g,aQ h.2.2.1 g,aQ h.2.2.2 g⟩) ?_
  ·intro j N r p;simp only[Free.find]at p;cases p
  simp only[eJ,dT];clear F H I J;iterate 13 (apply Free.ae (Free.wq rfl) rfl;(intro w' C B;obtain⟨P,T,U,V⟩:=C;clear B;go_light;go_simp<;>rfl);(try simp only[Pt]))
  apply Free.ax;intro Q _ d _;simp only[fm,fo];have f:=h_ (nE d);clear d
  go_wp2
  go_ret;exact⟨rfl,f.out⟩
theorem Uf:(Tryz.prog.info? 205).map (·.size)=some 2:=by kernel_rfl
theorem BG(x:Int)(g:Fn)(a b:Array Value):(Tryz.prog.info? 205).map (·.size)=some (#[Value.int .i64 x, .func g a b]:Array Value).size:=Uf
theorem J8(x:Int)(g:Fn)(a b:Array Value):(#[Value.int .i64 x, .func g a b]:Array Value).all (·.oneCell')=true:=by simp[Value.oneCell']
theorem BI(x:Int)(g:Fn)(a b:Array Value):(#[Value.int .i64 0, .nilFunc]:Array Value).size=(#[Value.int .i64 x, .func g a b]:Array Value).size:=rfl
def RM(W:World)(l:List aV)(e:aV)(house:Int)(fd i:Value)(wr:World):Prop:=
 ∃k:Nat,k<=3/\i= .int .i64 k/\fd= .int .i64 0/\Below W.heap.size W wr/\(1<=k->ql l.length e=true)/\(2<=k->pP l.length e house=true)/\(3<=k->rA l e=true)
set_option maxHeartbeats 4000000 in
theorem yM(A:Option Addr)(c:Nat)(l:List aV)(a:aV)(house:Int)(w:World)(hl:l.length<=9223372036854775807)(h:SL w 7 aK A l):
  Calls Tryz.prog 69 #[.slice A l.length c, .agg (aK a).toArray, .int .i64 house] w λx w'=>x= .returned (.int .i64 (gD l a house))/\Below w.heap.size w w':=by
 obtain⟨z,B,xd,F,xb,G,H⟩:=a;have HS:=h_ h;clear h;show Calls Tryz.prog 69 #[.slice A l.length c, .agg #[.int .i64 z, .int .i64 B, .int .i64 xd, .string F, .string xb, .int .i64 G, .int .i64 H], .int .i64 house] w _;go_enter Tryz.func69,Tryz.ntmps69
 go_wp2
 obtain⟨W,D⟩:=x_ ((((w.alloc (.cells #[.slice A l.length c] 56)).alloc (.cells #[.int .i64 z, .int .i64 B, .int .i64 xd, .string F, .string xb, .int .i64 G, .int .i64 H] 42)).alloc (.cells #[.int .i64 house] 3)))
 have bl:ay W w.heap.size [.slice A l.length c] 56:=by rw[D];exact(ay.alloc (ay.alloc (ay.new w [.slice A l.length c] 56) _) _)
 have be:ay W (w.heap.size+1) [.int .i64 z, .int .i64 B, .int .i64 xd, .string F, .string xb, .int .i64 G, .int .i64 H] 42:=by have:=ay.new (w.alloc (.cells #[.slice A l.length c] 56)) [.int .i64 z, .int .i64 B, .int .i64 xd, .string F, .string xb, .int .i64 G, .int .i64 H] 42;rw[D];refine ay.alloc ?_ _;simpa using this
 have q:ay W (w.heap.size+1+1) [.int .i64 house] 3:=by have:=ay.new ((w.alloc (.cells #[.slice A l.length c] 56)).alloc (.cells #[.int .i64 z, .int .i64 B, .int .i64 xd, .string F, .string xb, .int .i64 G, .int .i64 H] 42)) [.int .i64 house] 3;rw[D];simpa using this
 have f:Below w.heap.size w W:=by rw[D];exact(((Below.refl _ w).alloc (aL _) _).alloc (by simp) _).alloc (by simp;omega) _
 rw[<-D];have c0:=bl.ag 0 _ rfl;have U:=h_ bl;have S:=h_ be;have T:=h_ q;have Y:=h_ f;clear bl be q f D
 go_step3
 go_wp2
 obtain⟨Z,u⟩:=x_ ([.int .i64 3,(.func (.func 114) #[] #[.pointer (some ⟨W.heap.size,0,none⟩), .pointer (some ⟨w.heap.size+1,0,none⟩)]), .int .i64 1,(.func (.func 115) #[] #[.pointer (some ⟨w.heap.size+1,0,none⟩), .pointer (some ⟨w.heap.size+1+1,0,none⟩), .pointer (some ⟨W.heap.size,0,none⟩)]), .int .i64 15,(.func (.func 116) #[] #[.pointer (some ⟨W.heap.size,0,none⟩), .pointer (some ⟨w.heap.size+1,0,none⟩), .pointer (some ⟨w.heap.size,0,none⟩)])]:List Value)
 obtain⟨V,C⟩:=x_ (((W.alloc (.cells #[.int .i64 l.length] 3)).alloc (.cells Z.toArray 205)))
 have n:ay V W.heap.size [.int .i64 l.length] 3:=by rw[C];exact ay.alloc (ay.new W [.int .i64 l.length] 3) _
 have bc:ay V (W.heap.size+1) Z 205:=by have:=ay.new (W.alloc (.cells #[.int .i64 l.length] 3)) Z 205;rw[C];simpa using this
 have p:Below W.heap.size W V:=by rw[C];exact((Below.refl _ W).alloc (aL _) _).alloc (by simp) _
 have K:=h_ (U.out.below p U.out.lt);have I:=h_ (S.out.below p S.out.lt);have J:=h_ (T.out.below p T.out.lt);have b:=h_ (Y.out.trans (p.mono Y.out.size));have BN:=h_ n;have BC:=h_ bc;rw[u]at C;rw[<-C];have X:=h_ u;clear n bc p C u U S T Y c0
 go_step3
 go_wp2
 obtain⟨a,ee⟩:=x_ (⟨z,B,xd,F,xb,G,H⟩:aV)
 have R:=h_ ee;have L:Hid (a.house=z/\a.seq=B/\a.day=xd/\a.body=xb):=by rw[ee];exact⟨rfl,rfl,rfl,rfl⟩
 have N:Hid (RM V l a house (.int .i64 0) (.int .i64 0) V):=⟨0,by decide,rfl,rfl,Below.refl _ _,λh=>by omega,λh=>by omega,λh=>by omega⟩
 clear ee
 go_loopw [8,23] (λfd i wr=>RM V l a house fd i wr) (λ_ i _=>3- (intOf i).toNat)
 case atStart=>exact N.out
 case round=>
  clear N;obtain⟨k,hk,rfl,rfl,f,y,E,Q⟩:=hrel;have bc:=BC.out.below f BC.out.lt;have be:=I.out.below f I.out.lt;have n:=BN.out.below f BN.out.lt;have q:=J.out.below f J.out.lt;have bl:=K.out.below f K.out.lt;rw[X.out]at bc;have an:=f.size
  match k,hk with
  |0,_=>
   have O:=bc.ag 0 _ rfl;have P:=bc.ag 1 _ rfl;have r:Hid (∀w':World,Below wr.heap.size wr w'->Calls Tryz.prog 114 #[.pointer (some ⟨W.heap.size,0,none⟩), .pointer (some ⟨w.heap.size+1,0,none⟩)] w' λx m=>x= .returned (.bool (ql l.length a))/\Below w'.heap.size w' m):=λw' h=>(LV W.heap.size (w.heap.size+1) l.length a w' ((n.below h n.lt).ag 0 _ rfl) (by rw[L.out.2.2.2];exact(be.below h be.lt).ag 4 _ rfl)).mono (by rintro e v ⟨rfl,rfl⟩;exact⟨rfl,Below.refl _ _⟩)
   have g:=h_ f;clear bc be n q bl f y E Q;go_wp2_with (with_reducible refine wpList_store_row rfl 205 (.tmp 11) (.tmp 26) rfl wr.heap.size #[.int .i64 3,(.func (.func 114) #[] #[.pointer (some ⟨W.heap.size,0,none⟩), .pointer (some ⟨w.heap.size+1,0,none⟩)])] rfl rfl 205 #[.int .i64 0, .nilFunc] (heap_alloc_last wr _) (BG _ _ _ _) (BI _ _ _ _) (J8 _ _ _ _) ?_;rw[World.setRow_alloc_new])
   refine(r.out _ ((Below.refl _ _).alloc (aL _) _)).mono ?_;rintro e m ⟨rfl,d⟩;have s:=h_ ((g.out.alloc g.out.size (.cells #[.int .i64 3,(.func (.func 114) #[] #[.pointer (some ⟨W.heap.size,0,none⟩), .pointer (some ⟨w.heap.size+1,0,none⟩)])] 205)).trans (d.mono (by simp;omega)));have cz:m.cell? ⟨wr.heap.size,0,none⟩=some (.int .i64 3):=((ay.new wr [.int .i64 3,(.func (.func 114) #[] #[.pointer (some ⟨W.heap.size,0,none⟩), .pointer (some ⟨w.heap.size+1,0,none⟩)])] 205).below d (by simp)).ag 0 _ rfl;clear d O P r;cases hL:ql l.length a with
   |true=>
    have o:Hid (RM V l a house (.int .i64 0) (.int .i64 1) m):=⟨1,by decide,rfl,rfl,s.out,λ_=>hL,λh=>by omega,λh=>by omega⟩
    clear hL;go_wp2_with fail
    go_roundw
    case rel=>
     go_light;have key:=o.out;first|exact key|((repeat apply Exists.intro);exact⟨key,rfl⟩)
    case measure=>simp[intOf]
   |false=>
    have j:=h_ (b.out.trans (s.out.mono b.out.size));have hm:gD l a house=3:=by unfold gD;rw[hL];rfl
    have t:=h_ hm;clear hm hL;go_wp2_with fail;rw[Exit.noGoto_ret];go_ret;exact⟨by rw[<-R.out,t.out];rfl,j.out⟩
  |1,_=>
   have O:=bc.ag 2 _ rfl;have P:=bc.ag 3 _ rfl;have r:Hid (∀w':World,Below wr.heap.size wr w'->Calls Tryz.prog 115 #[.pointer (some ⟨w.heap.size+1,0,none⟩), .pointer (some ⟨w.heap.size+1+1,0,none⟩), .pointer (some ⟨W.heap.size,0,none⟩)] w' λx m=>x= .returned (.bool (pP l.length a house))/\Below w'.heap.size w' m):=λw' h=>(K2 W.heap.size (w.heap.size+1) (w.heap.size+1+1) l.length a house w' ((n.below h n.lt).ag 0 _ rfl) ((q.below h q.lt).ag 0 _ rfl) (by rw[L.out.1];exact(be.below h be.lt).ag 0 _ rfl) (by rw[L.out.2.1];exact(be.below h be.lt).ag 1 _ rfl) (by rw[L.out.2.2.1];exact(be.below h be.lt).ag 2 _ rfl)).mono (by rintro e v ⟨rfl,rfl⟩;exact⟨rfl,Below.refl _ _⟩)
   have g:=h_ f;have M:=h_ (y (by decide));clear bc be n q bl f y E Q;go_wp2_with (with_reducible refine wpList_store_row rfl 205 (.tmp 11) (.tmp 26) rfl wr.heap.size #[.int .i64 1,(.func (.func 115) #[] #[.pointer (some ⟨w.heap.size+1,0,none⟩), .pointer (some ⟨w.heap.size+1+1,0,none⟩), .pointer (some ⟨W.heap.size,0,none⟩)])] rfl rfl 205 #[.int .i64 0, .nilFunc] (heap_alloc_last wr _) (BG _ _ _ _) (BI _ _ _ _) (J8 _ _ _ _) ?_;rw[World.setRow_alloc_new])
   refine(r.out _ ((Below.refl _ _).alloc (aL _) _)).mono ?_;rintro e m ⟨rfl,d⟩;have s:=h_ ((g.out.alloc g.out.size (.cells #[.int .i64 1,(.func (.func 115) #[] #[.pointer (some ⟨w.heap.size+1,0,none⟩), .pointer (some ⟨w.heap.size+1+1,0,none⟩), .pointer (some ⟨W.heap.size,0,none⟩)])] 205)).trans (d.mono (by simp;omega)));have cz:m.cell? ⟨wr.heap.size,0,none⟩=some (.int .i64 1):=((ay.new wr [.int .i64 1,(.func (.func 115) #[] #[.pointer (some ⟨w.heap.size+1,0,none⟩), .pointer (some ⟨w.heap.size+1+1,0,none⟩), .pointer (some ⟨W.heap.size,0,none⟩)])] 205).below d (by simp)).ag 0 _ rfl;clear d O P r;cases hL:pP l.length a house with
   |true=>
    have o:Hid (RM V l a house (.int .i64 0) (.int .i64 2) m):=⟨2,by decide,rfl,rfl,s.out,λ_=>M.out,λ_=>hL,λh=>by omega⟩
    clear hL;go_wp2_with fail
    go_roundw
    case rel=>
     go_light;have key:=o.out;first|exact key|((repeat apply Exists.intro);exact⟨key,rfl⟩)
    case measure=>simp[intOf]
   |false=>
    have j:=h_ (b.out.trans (s.out.mono b.out.size));have hm:gD l a house=1:=by unfold gD;rw[M.out,hL];rfl
    have t:=h_ hm;clear hm hL;go_wp2_with fail;rw[Exit.noGoto_ret];go_ret;exact⟨by rw[<-R.out,t.out];rfl,j.out⟩
  |2,_=>
   have O:=bc.ag 4 _ rfl;have P:=bc.ag 5 _ rfl;have r:Hid (∀w':World,Below wr.heap.size wr w'->Calls Tryz.prog 116 #[.pointer (some ⟨W.heap.size,0,none⟩), .pointer (some ⟨w.heap.size+1,0,none⟩), .pointer (some ⟨w.heap.size,0,none⟩)] w' λx m=>x= .returned (.bool (rA l a))/\Below w'.heap.size w' m):=λw' h=>Mn W.heap.size (w.heap.size+1) w.heap.size A c l a w' hl ((n.below h n.lt).ag 0 _ rfl) ((bl.below h bl.lt).ag 0 _ rfl) (HS.out.below ((b.out.trans (f.mono b.out.size)).trans (h.mono (fO b.out.size an))) (aL _)) (by rw[L.out.2.2.1];exact(be.below h be.lt).ag 2 _ rfl)
   have g:=h_ f;have M:=h_ (y (by decide));have G2:=h_ (E (by decide));clear bc be n q bl f y E Q;go_wp2_with (with_reducible refine wpList_store_row rfl 205 (.tmp 11) (.tmp 26) rfl wr.heap.size #[.int .i64 15,(.func (.func 116) #[] #[.pointer (some ⟨W.heap.size,0,none⟩), .pointer (some ⟨w.heap.size+1,0,none⟩), .pointer (some ⟨w.heap.size,0,none⟩)])] rfl rfl 205 #[.int .i64 0, .nilFunc] (heap_alloc_last wr _) (BG _ _ _ _) (BI _ _ _ _) (J8 _ _ _ _) ?_;rw[World.setRow_alloc_new])
   refine(r.out _ ((Below.refl _ _).alloc (aL _) _)).mono ?_;rintro e m ⟨rfl,d⟩;have s:=h_ ((g.out.alloc g.out.size (.cells #[.int .i64 15,(.func (.func 116) #[] #[.pointer (some ⟨W.heap.size,0,none⟩), .pointer (some ⟨w.heap.size+1,0,none⟩), .pointer (some ⟨w.heap.size,0,none⟩)])] 205)).trans (d.mono (by simp;omega)));have cz:m.cell? ⟨wr.heap.size,0,none⟩=some (.int .i64 15):=((ay.new wr [.int .i64 15,(.func (.func 116) #[] #[.pointer (some ⟨W.heap.size,0,none⟩), .pointer (some ⟨w.heap.size+1,0,none⟩), .pointer (some ⟨w.heap.size,0,none⟩)])] 205).below d (by simp)).ag 0 _ rfl;clear d O P r;cases hL:rA l a with
   |true=>
    have o:Hid (RM V l a house (.int .i64 0) (.int .i64 3) m):=⟨3,by decide,rfl,rfl,s.out,λ_=>M.out,λ_=>G2.out,λ_=>hL⟩
    clear hL;go_wp2_with fail
    go_roundw
    case rel=>
     go_light;have key:=o.out;first|exact key|((repeat apply Exists.intro);exact⟨key,rfl⟩)
    case measure=>simp[intOf]
   |false=>
    have j:=h_ (b.out.trans (s.out.mono b.out.size));have hm:gD l a house=15:=by unfold gD;rw[M.out,G2.out,hL];rfl
    have t:=h_ hm;clear hm hL;go_wp2_with fail;rw[Exit.noGoto_ret];go_ret;exact⟨by rw[<-R.out,t.out];rfl,j.out⟩
  |3,_=>
   have j:=h_ (b.out.trans (f.mono b.out.size));have hm:gD l a house=0:=by unfold gD;rw[y (by decide),E (by decide),Q (by decide)];rfl
   have t:=h_ hm;clear bc be n q bl f y E Q hm;go_wp2_with fail;first|rw[Exit.noGoto_ret]|skip
   go_ret;exact⟨by rw[<-R.out,t.out];rfl,j.out⟩
end Go.Proofs.YtkmbmfengcdmoaaGreatDoor
