/- Package chain: misplaced. No condition. -/
import Derived.Test.YtkmbmfengcdmoaaGreatDoorZAE
import Derived.WalkMore
import Derived.Deep.WholeRow
import Derived.Laws.Tables
set_option maxRecDepth 100000
set_option linter.all false
namespace Go.Proofs.YtkmbmfengcdmoaaGreatDoor
open Go.RowKit Go.ay Go.Opn

def Po(e:aV):ByteArray:=gb e++⟨#[32]⟩++dec e.r++⟨#[32]⟩++dec e.s
def Ib(e:aV):ByteArray:=uB KC (Po e)
theorem iz{e:aV}(h:e.Ok):(gb e).size<=94+e.prev.size+e.body.size:=by
 have:=xo h 4;have h1:e.prev.data.toList.length=e.prev.size:=by simp
 have h2:e.body.data.toList.length=e.body.size:=by simp
 show(Kq e).toArray.size<=_;rw[tY];unfold Kq;simp only[fu,kq,qA,h1,h2];omega
theorem Kr{e:aV}(h:e.Ok):(Po e).size<=138+e.prev.size+e.body.size:=by have h1:=iz h;have h2:=cR e.r h.r0 h.r1;have h3:=cR e.s h.s0 h.s1;have h4:(⟨#[32]⟩:ByteArray).size=1:=rfl;unfold Po;simp only[NR,h4];omega
theorem aQ{w w':World}{p:Addr}{v:Value}(h:w.cell? p=some v)(g:Free.Grow w w'):w'.cell? p=some v:=by rw[Below.cell g (World.block_lt_of_cell? w _ h)];exact h
theorem nE{w w2:World}(h:Free.Grow w.drew w2):Below w.heap.size w w2:=⟨h.os,h.tape,h.output,h.size,h.block⟩
set_option maxHeartbeats 2000000 in
theorem Lt(e0:aV)(w:World)(ho:e0.Ok)(hp:e0.prev.size<=1000000000)(hb:e0.body.size<=1000000000)(hT:cB w):
  Calls Tryz.prog 117 #[.agg (aK e0).toArray] w λe w'=>e= .returned (.string (Ib e0))/\Below w.heap.size w w':=by
 have B0:=(ay.new w (aK e0) 42)
 have c0:=B0.ag 0 _ rfl;have c1:=B0.ag 1 _ rfl;have c2:=B0.ag 2 _ rfl;have c3:=B0.ag 3 _ rfl;have c4:=B0.ag 4 _ rfl;have c5:=B0.ag 5 _ rfl;have c6:=B0.ag 6 _ rfl;have hT1:=hT.alloc (.cells (aK e0).toArray 42);have C1:=h_ (λw hT=>ic e0 w ho hp hb hT);have C2:=h_ (λw hT=>fg e0.r w ho.r0 ho.r1 hT);have C3:=h_ (λw hT=>fg e0.s w ho.s0 ho.s1 hT);have hs:=Kr ho;have C4:=h_ (λw (hT:cB w)=>DN KC (Po e0) w (by omega) hT.k);have ED:Hid (Ib e0=uB KC (Po e0)):=rfl;obtain⟨dg,edg⟩:=x_ (Ib e0)
 rw[<-edg];rw[<-ED.out, <-edg]at C4;unfold Po at C4;obtain⟨tt,ett⟩:=x_ (gb e0)
 rw[<-ett]at C1 C4;obtain⟨xh,xq,xd,xp,xb,xr,xs⟩:=e0;have hbw:=(Below.refl w.heap.size w).alloc (aL _) (.cells (aK ⟨xh,xq,xd,xp,xb,xr,xs⟩).toArray 42);have HB:=h_ hbw;have htt:tt.size<=3000000000:=by have:=iz ho;rw[ett];simp only at this hp hb;omega
 have hdr:=cR xr ho.r0 ho.r1;have hds:=cR xs ho.s0 ho.s1;have z1: ¬9223372036854775807<tt.size+1:=by omega
 have z2: ¬9223372036854775807<tt.size+1+(dec xr).size:=by omega
 have z3: ¬9223372036854775807<tt.size+1+(dec xr).size+1:=by omega
 have z4: ¬9223372036854775807<tt.size+1+(dec xr).size+1+(dec xs).size:=by omega
 clear hT ho hp hb hs ED edg ett B0 hbw;go_enter Tryz.func117,Tryz.ntmps117;go_wp2_with fail;refine Free.ai 15 [(1, .det (.string tt)),(6, .det (.string (dec xr))),(12, .det (.string (dec xs))),(14, .det (.string dg))] (λw2=>cB w2/\w2.cell? ⟨w.heap.size,0,none⟩=some (.int .i64 xh)/\w2.cell? ⟨w.heap.size,1,none⟩=some (.int .i64 xq)/\w2.cell? ⟨w.heap.size,2,none⟩=some (.int .i64 xd)/\w2.cell? ⟨w.heap.size,3,none⟩=some (.string xp)/\w2.cell? ⟨w.heap.size,4,none⟩=some (.string xb)/\w2.cell? ⟨w.heap.size,5,none⟩=some (.int .i64 xr)/\w2.cell? ⟨w.heap.size,6,none⟩=some (.int .i64 xs)) (by kernel_rfl) (by kernel_rfl) ?_ ⟨hT1.below (B:=w.heap.size+1) ⟨rfl,rfl,rfl,aL _,λ_ _=>rfl⟩ (by simp),c0,c1,c2,c3,c4,c5,c6⟩ (λ_ _ h g=>⟨h.1.below g (aL _),aQ h.2.1 g,aQ h.2.2.1 g,aQ h.2.2.2.1 g,aQ h.2.2.2.2.1 g,aQ h.2.2.2.2.2.1 g,aQ h.2.2.2.2.2.2.1 g,aQ h.2.2.2.2.2.2.2 g⟩) ?_
 ·intro j mk r hf;simp only[Free.find]at hf
  repeat' split at hf
  all_goals (first|cases hf|skip)
 simp only[eJ,dT];clear c0 c1 c2 c3 c4 c5 c6 hT1;iterate 15 (first|(apply Free.aC rfl rfl;(intro w' hB hA;refine Free.au (f:=16) (args:= #[.agg (aK ⟨xh,xq,xd,xp,xb,xr,xs⟩).toArray]) (by clear hB hA;go_simp<;>rfl) ?_;refine(C1.out _ hB.1).mono ?_;rintro e w3 ⟨rfl,hb3⟩;exact⟨_,rfl,hb3,rfl⟩);simp only[Pt])|(apply Free.aC rfl rfl;(intro w' hB hA;refine Free.au (f:=59) (args:= #[.int .i64 xr]) (by clear hB hA;go_simp<;>rfl) ?_;refine(C2.out _ hB.1).mono ?_;rintro e w3 ⟨rfl,hb3⟩;exact⟨_,rfl,hb3,rfl⟩);simp only[Pt])|(apply Free.aC rfl rfl;(intro w' hB hA;refine Free.au (f:=59) (args:= #[.int .i64 xs]) (by clear hB hA;go_simp<;>rfl) ?_;refine(C3.out _ hB.1).mono ?_;rintro e w3 ⟨rfl,hb3⟩;exact⟨_,rfl,hb3,rfl⟩);simp only[Pt])|(apply Free.aC rfl rfl;(intro w' hB hA;refine Free.au (f:=138) (args:= #[.string (tt++⟨#[32]⟩++dec xr++⟨#[32]⟩++dec xs)]) (by clear hB hA;go_simp<;>rfl) ?_;refine(C4.out _ hB.1).mono ?_;rintro e w3 ⟨rfl,hb3⟩;exact⟨_,rfl,hb3,rfl⟩);simp only[Pt])|(apply Free.ae (Free.wq rfl) rfl;(intro w' hB hA;obtain⟨qT,q0,q1,q2,q3,q4,q5,q6⟩:=hB;clear hA qT;go_light;go_simp<;>rfl);(try simp only[Pt])))
 apply Free.ax;intro wz _ hg _;simp only[fm,fo];have hz:=nE hg;have FIN:=h_ (HB.out.trans (hz.mono (by simp)));clear hg hz HB C1 C2 C3 C4
 go_wp2
 go_ret;exact⟨rfl,FIN.out⟩
def fF(l:List aV):ByteArray:=match l.getLast? with|none=>⟨#[]⟩|some e=>Ib e
def PG(l:List aV):Prop:=∀e∈l,e.Ok/\e.prev.size<=1000000000/\e.body.size<=1000000000
theorem zc(A:Option Addr)(c:Nat)(l:List aV)(w:World)(h:SL w 7 aK A l)(hl:l.length<=9223372036854775807)(hf:PG l)(hT:cB w):
  Calls Tryz.prog 70 #[.slice A l.length c] w λe w'=>e= .returned (.string (fF l))/\Below w.heap.size w w':=by
 by_cases h0:l= []
 ·subst h0;go_enter Tryz.func70,Tryz.ntmps70
  go_wp2
  go_ret;exact⟨rfl,Below.refl _ _⟩
 ·have hpos:0<l.length:=List.length_pos_iff.2 h0;obtain⟨x,hx⟩:∃x,l[l.length-1]? =some x:=⟨_,eH (by omega)⟩
  have hg:l.getLast? =some x:=by rw[List.getLast?_eq_getElem?];exact hx
  have ep:fF l=Ib x:=by unfold fF;rw[hg]
  rw[ep];obtain⟨f1,f2,f3⟩:=hf x (ue hx);have C1:=h_ (λw hT=>Lt x w f1 f2 f3 hT);obtain⟨b,off,rfl,hc⟩:=h.at_ hx;obtain⟨dg,edg⟩:=x_ (Ib x)
  rw[<-edg]at C1⊢;obtain⟨xh,xq,xd,xp,xb,xr,xs⟩:=x;have c0:=hc 0 _ rfl;have c1:=hc 1 _ rfl;have c2:=hc 2 _ rfl;have c3:=hc 3 _ rfl;have c4:=hc 4 _ rfl;have c5:=hc 5 _ rfl;have c6:=hc 6 _ rfl;obtain⟨m,hm⟩:∃m,l.length=m+1:=⟨l.length-1,by omega⟩
  have hm1:l.length-1=m:=by omega
  rw[hm1]at c0 c1 c2 c3 c4 c5 c6;rw[hm]at hl⊢;simp only[<-Nat.add_assoc,KO]at c0 c1 c2 c3 c4 c5 c6;have HT:=h_ hT;clear h hc hg ep f1 f2 f3 edg hf hx hpos h0 hm hm1 hT;go_enter Tryz.func70,Tryz.ntmps70;go_wp2_with fail;refine(C1.out _ HT.out).mono ?_;rintro e w1 ⟨rfl,hb1⟩;have HB:=h_ hb1;clear hb1;go_wp2_with fail;go_ret;exact⟨rfl,HB.out⟩
theorem fk{o:Oper}{ops:Array Oper}{a:Act}{j t:Nat}{b b':Bool}(hg:o.guard=some (j,b'))(hj:(ops[j]?).bind (·.dst)=some t)(ht:a.tmps[t]? =some (.bool b))(hne:(b==b')=false):Region.wanted o (yielded ops a.tmps)=false:=by unfold Region.wanted yielded;rw[hg];simp only[hj,Option.bind_some,ht];simpa using hne
def ql(n:Nat)(e:aV):Bool:=decide ((n:Int)<4000)&&decide ((e.body.size:Int)<=2000)
def pP(n:Nat)(e:aV)(house:Int):Bool:=(e.house==house)&&((e.seq==(n:Int))&&(decide (0<=e.day)&&decide (e.day<=2000)))
def rA(l:List aV)(e:aV):Bool:=match l.getLast? with|none=>true|some x=>decide (x.day<=e.day)
def gD(l:List aV)(e:aV)(house:Int):Int:=if ql l.length e then(if pP l.length e house then(if rA l e then 0 else 15)else 1)else 3
theorem LV(bn be n:Nat)(e:aV)(w:World)(hn:w.cell? ⟨bn,0,none⟩=some (.int .i64 n))(he:w.cell? ⟨be,4,none⟩=some (.string e.body)):
  Calls Tryz.prog 114 #[.pointer (some ⟨bn,0,none⟩), .pointer (some ⟨be,0,none⟩)] w λen w'=>en= .returned (.bool (ql n e))/\w=w':=by
 unfold ql;by_cases h1:(n:Int)<4000
 ·have e1:decide ((n:Int)<4000)=true:=dt h1;rw[e1,M8];go_enter Tryz.func114,Tryz.ntmps114
  go_wp2
  go_ret;exact⟨rfl,rfl⟩
 ·have e1:decide ((n:Int)<4000)=false:=dy h1;rw[e1,R3];go_enter Tryz.func114,Tryz.ntmps114
  go_wp2
  go_ret;exact⟨rfl,rfl⟩
theorem K2(bn be bh n:Nat)(e:aV)(house:Int)(w:World)(hn:w.cell? ⟨bn,0,none⟩=some (.int .i64 n))(hh:w.cell? ⟨bh,0,none⟩=some (.int .i64 house))
  (he0:w.cell? ⟨be,0,none⟩=some (.int .i64 e.house)) (he1:w.cell? ⟨be,1,none⟩=some (.int .i64 e.seq)) (he2:w.cell? ⟨be,2,none⟩=some (.int .i64 e.day)):
  Calls Tryz.prog 115 #[.pointer (some ⟨be,0,none⟩), .pointer (some ⟨bh,0,none⟩), .pointer (some ⟨bn,0,none⟩)] w λen w'=>en= .returned (.bool (pP n e house))/\w=w':=by
 unfold pP;cases e1:(e.house==house)with
 |false=>
  rw[R3];go_enter Tryz.func115,Tryz.ntmps115
  go_wp2
  go_ret;exact⟨rfl,rfl⟩
 |true=>
  rw[M8];cases e2:(e.seq==(n:Int))with
  |false=>
   rw[R3];go_enter Tryz.func115,Tryz.ntmps115
   go_wp2
   go_ret;exact⟨rfl,rfl⟩
  |true=>
   rw[M8];by_cases h3:0<=e.day
   ·have e3:decide (0<=e.day)=true:=dt h3;rw[e3,M8];go_enter Tryz.func115,Tryz.ntmps115
    go_wp2
    go_ret;exact⟨rfl,rfl⟩
   ·have e3:decide (0<=e.day)=false:=dy h3;rw[e3,R3];go_enter Tryz.func115,Tryz.ntmps115
    go_wp2
    go_ret;exact⟨rfl,rfl⟩
theorem Mn(bn be bl:Nat)(A:Option Addr)(c:Nat)(l:List aV)(e:aV)(w:World)(hl:l.length<=9223372036854775807)(hn:w.cell? ⟨bn,0,none⟩=some (.int .i64 l.length))(hs:w.cell? ⟨bl,0,none⟩=some (.slice A l.length c))
  (h:SL w 7 aK A l) (he2:w.cell? ⟨be,2,none⟩=some (.int .i64 e.day)):
  Calls Tryz.prog 116 #[.pointer (some ⟨bn,0,none⟩), .pointer (some ⟨be,0,none⟩), .pointer (some ⟨bl,0,none⟩)] w λen w'=>en= .returned (.bool (rA l e))/\Below w.heap.size w w':=by
 by_cases h0:l= []
 ·subst h0;have eo:rA [] e=true:=rfl;rw[eo];have hn':w.drew.cell? ⟨bn,0,none⟩=some (.int .i64 0):=hn;clear h hs eo;go_enter Tryz.func116,Tryz.ntmps116;go_wp2_with fail;refine Free.ai 13 [] (λw2=>w2.cell? ⟨bn,0,none⟩=some (.int .i64 0)) (by kernel_rfl) (by kernel_rfl) ?_ hn' (λ_ _ h g=>aQ h g) ?_
  ·intro j mk r hf;simp only[Free.find]at hf;cases hf
  simp only[eJ,dT];clear hn hn';iterate 13 (first|(apply Free.dw (by exact fk rfl rfl rfl rfl);simp only[Pt])|(apply Free.ae (Free.wq rfl) rfl;(intro w' hB hA;obtain q0:=hB;clear hA;go_light;go_simp<;>rfl);(try simp only[Pt])))
  apply Free.ax;intro wz _ hg _;simp only[fm,fo];have FIN:=h_ (nE hg);clear hg
  go_wp2
  go_ret;exact⟨rfl,FIN.out⟩
 ·have hpos:0<l.length:=List.length_pos_iff.2 h0;obtain⟨x,hx⟩:∃x,l[l.length-1]? =some x:=⟨_,eH (by omega)⟩
  have hg:l.getLast? =some x:=by rw[List.getLast?_eq_getElem?];exact hx
  have eo:rA l e=decide (x.day<=e.day):=by unfold rA;rw[hg]
  rw[eo];obtain⟨b,off,rfl,hc⟩:=h.at_ hx;have c2:=hc 2 _ rfl;obtain⟨m,hm⟩:∃m,l.length=m+1:=⟨l.length-1,by omega⟩
  have hm1:l.length-1=m:=by omega
  rw[hm1]at c2;rw[hm]at hl hn hs;simp only[<-Nat.add_assoc]at c2;have p0:w.drew.cell? ⟨bn,0,none⟩=some (.int .i64 ((m+1:Nat):Int)):=hn;have p1:w.drew.cell? ⟨bl,0,none⟩=some (.slice (some ⟨b,off,none⟩) (m+1) c):=hs;have p2:w.drew.cell? ⟨b,off+m*7+2,none⟩=some (.int .i64 x.day):=c2;have p3:w.drew.cell? ⟨be,2,none⟩=some (.int .i64 e.day):=he2;have hm0:((m+1:Nat):Int)=(m:Int)+1:=by omega
  rw[hm0]at p0;have m0:((m:Int)+1==0)=false:=by simp;omega
  have m00:(0:Int)<=(m:Int):=by omega
  have mw:IntKind.i64.wrap (m:Int)=(m:Int):=IntWalk.i64_in _ (by omega);have mlt:(m:Int)<(m:Int)+1:=by omega
  clear h hc hg eo hx hpos h0 hm hm1 hn hs c2 he2;go_enter Tryz.func116,Tryz.ntmps116;go_wp2_with fail;refine Free.ai 13 [] (λw2=>w2.cell? ⟨bn,0,none⟩=some (.int .i64 ((m:Int)+1))/\w2.cell? ⟨bl,0,none⟩=some (.slice (some ⟨b,off,none⟩) (m+1) c)/\w2.cell? ⟨b,off+m*7+2,none⟩=some (.int .i64 x.day)/\w2.cell? ⟨be,2,none⟩=some (.int .i64 e.day)) (by kernel_rfl) (by kernel_rfl) ?_ ⟨p0,p1,p2,p3⟩ (λ_ _ h g=>⟨aQ h.1 g,aQ h.2.1 g,aQ h.2.2.1 g,aQ h.2.2.2 g⟩) ?_
  ·intro j mk r hf;simp only[Free.find]at hf;cases hf
  simp only[eJ,dT];clear p0 p1 p2 p3;iterate 13 (apply Free.ae (Free.wq rfl) rfl;(intro w' hB hA;obtain⟨q0,q1,q2,q3⟩:=hB;clear hA;go_light;go_simp<;>rfl);(try simp only[Pt]))
  apply Free.ax;intro wz _ hg _;simp only[fm,fo];have FIN:=h_ (nE hg);clear hg
  go_wp2
  go_ret;exact⟨rfl,FIN.out⟩
theorem Uf:(Tryz.prog.info? 205).map (·.size)=some 2:=by kernel_rfl
theorem BG(x:Int)(g:Fn)(a b:Array Value):(Tryz.prog.info? 205).map (·.size)=some (#[Value.int .i64 x, .func g a b]:Array Value).size:=Uf
theorem J8(x:Int)(g:Fn)(a b:Array Value):(#[Value.int .i64 x, .func g a b]:Array Value).all (·.oneCell')=true:=by simp[Value.oneCell']
theorem BI(x:Int)(g:Fn)(a b:Array Value):(#[Value.int .i64 0, .nilFunc]:Array Value).size=(#[Value.int .i64 x, .func g a b]:Array Value).size:=rfl
def RM(W:World)(l:List aV)(e:aV)(house:Int)(fd i:Value)(wr:World):Prop:=
 ∃k:Nat,k<=3/\i= .int .i64 k/\fd= .int .i64 0/\Below W.heap.size W wr/\(1<=k->ql l.length e=true)/\(2<=k->pP l.length e house=true)/\(3<=k->rA l e=true)
set_option maxHeartbeats 4000000 in
theorem yM(A:Option Addr)(c:Nat)(l:List aV)(e0:aV)(house:Int)(w:World)(hl:l.length<=9223372036854775807)(h:SL w 7 aK A l):
  Calls Tryz.prog 69 #[.slice A l.length c, .agg (aK e0).toArray, .int .i64 house] w λen w'=>en= .returned (.int .i64 (gD l e0 house))/\Below w.heap.size w w':=by
 obtain⟨xh,xq,xd,xp,xb,xr,xs⟩:=e0;have HS:=h_ h;clear h;show Calls Tryz.prog 69 #[.slice A l.length c, .agg #[.int .i64 xh, .int .i64 xq, .int .i64 xd, .string xp, .string xb, .int .i64 xr, .int .i64 xs], .int .i64 house] w _;go_enter Tryz.func69,Tryz.ntmps69
 go_wp2
 obtain⟨W,eW⟩:=x_ ((((w.alloc (.cells #[.slice A l.length c] 56)).alloc (.cells #[.int .i64 xh, .int .i64 xq, .int .i64 xd, .string xp, .string xb, .int .i64 xr, .int .i64 xs] 42)).alloc (.cells #[.int .i64 house] 3)))
 have bl:ay W w.heap.size [.slice A l.length c] 56:=by rw[eW];exact(ay.alloc (ay.alloc (ay.new w [.slice A l.length c] 56) _) _)
 have be:ay W (w.heap.size+1) [.int .i64 xh, .int .i64 xq, .int .i64 xd, .string xp, .string xb, .int .i64 xr, .int .i64 xs] 42:=by have:=ay.new (w.alloc (.cells #[.slice A l.length c] 56)) [.int .i64 xh, .int .i64 xq, .int .i64 xd, .string xp, .string xb, .int .i64 xr, .int .i64 xs] 42;rw[eW];refine ay.alloc ?_ _;simpa using this
 have bh:ay W (w.heap.size+1+1) [.int .i64 house] 3:=by have:=ay.new ((w.alloc (.cells #[.slice A l.length c] 56)).alloc (.cells #[.int .i64 xh, .int .i64 xq, .int .i64 xd, .string xp, .string xb, .int .i64 xr, .int .i64 xs] 42)) [.int .i64 house] 3;rw[eW];simpa using this
 have hb:Below w.heap.size w W:=by rw[eW];exact(((Below.refl _ w).alloc (aL _) _).alloc (by simp) _).alloc (by simp;omega) _
 rw[<-eW];have c0:=bl.ag 0 _ rfl;have BL:=h_ bl;have BE:=h_ be;have BH:=h_ bh;have HB:=h_ hb;clear bl be bh hb eW
 go_step3
 go_wp2
 obtain⟨cs,ecs⟩:=x_ ([.int .i64 3,(.func (.func 114) #[] #[.pointer (some ⟨W.heap.size,0,none⟩), .pointer (some ⟨w.heap.size+1,0,none⟩)]), .int .i64 1,(.func (.func 115) #[] #[.pointer (some ⟨w.heap.size+1,0,none⟩), .pointer (some ⟨w.heap.size+1+1,0,none⟩), .pointer (some ⟨W.heap.size,0,none⟩)]), .int .i64 15,(.func (.func 116) #[] #[.pointer (some ⟨W.heap.size,0,none⟩), .pointer (some ⟨w.heap.size+1,0,none⟩), .pointer (some ⟨w.heap.size,0,none⟩)])]:List Value)
 obtain⟨V,eV⟩:=x_ (((W.alloc (.cells #[.int .i64 l.length] 3)).alloc (.cells cs.toArray 205)))
 have bn:ay V W.heap.size [.int .i64 l.length] 3:=by rw[eV];exact ay.alloc (ay.new W [.int .i64 l.length] 3) _
 have bc:ay V (W.heap.size+1) cs 205:=by have:=ay.new (W.alloc (.cells #[.int .i64 l.length] 3)) cs 205;rw[eV];simpa using this
 have hbv:Below W.heap.size W V:=by rw[eV];exact((Below.refl _ W).alloc (aL _) _).alloc (by simp) _
 have BL2:=h_ (BL.out.below hbv BL.out.lt);have BE2:=h_ (BE.out.below hbv BE.out.lt);have BH2:=h_ (BH.out.below hbv BH.out.lt);have HB2:=h_ (HB.out.trans (hbv.mono HB.out.size));have BN:=h_ bn;have BC:=h_ bc;rw[ecs]at eV;rw[<-eV];have ECS:=h_ ecs;clear bn bc hbv eV ecs BL BE BH HB c0
 go_step3
 go_wp2
 obtain⟨e0,ee⟩:=x_ (⟨xh,xq,xd,xp,xb,xr,xs⟩:aV)
 have EE:=h_ ee;have E0:Hid (e0.house=xh/\e0.seq=xq/\e0.day=xd/\e0.body=xb):=by rw[ee];exact⟨rfl,rfl,rfl,rfl⟩
 have HST:Hid (RM V l e0 house (.int .i64 0) (.int .i64 0) V):=⟨0,by decide,rfl,rfl,Below.refl _ _,λh=>by omega,λh=>by omega,λh=>by omega⟩
 clear ee
 go_loopw [8,23] (λfd i wr=>RM V l e0 house fd i wr) (λ_ i _=>3- (intOf i).toNat)
 case atStart=>exact HST.out
 case round=>
  clear HST;obtain⟨k,hk,rfl,rfl,hb,g1,g2,g3⟩:=hrel;have bc:=BC.out.below hb BC.out.lt;have be:=BE2.out.below hb BE2.out.lt;have bn:=BN.out.below hb BN.out.lt;have bh:=BH2.out.below hb BH2.out.lt;have bl:=BL2.out.below hb BL2.out.lt;rw[ECS.out]at bc;have hsz:=hb.size
  match k,hk with
  |0,_=>
   have d0:=bc.ag 0 _ rfl;have d1:=bc.ag 1 _ rfl;have C1:Hid (∀w':World,Below wr.heap.size wr w'->Calls Tryz.prog 114 #[.pointer (some ⟨W.heap.size,0,none⟩), .pointer (some ⟨w.heap.size+1,0,none⟩)] w' λen w2=>en= .returned (.bool (ql l.length e0))/\Below w'.heap.size w' w2):=λw' h=>(LV W.heap.size (w.heap.size+1) l.length e0 w' ((bn.below h bn.lt).ag 0 _ rfl) (by rw[E0.out.2.2.2];exact(be.below h be.lt).ag 4 _ rfl)).mono (by rintro e v ⟨rfl,rfl⟩;exact⟨rfl,Below.refl _ _⟩)
   have HBK:=h_ hb;clear bc be bn bh bl hb g1 g2 g3;go_wp2_with (with_reducible refine wpList_store_row rfl 205 (.tmp 11) (.tmp 26) rfl wr.heap.size #[.int .i64 3,(.func (.func 114) #[] #[.pointer (some ⟨W.heap.size,0,none⟩), .pointer (some ⟨w.heap.size+1,0,none⟩)])] rfl rfl 205 #[.int .i64 0, .nilFunc] (heap_alloc_last wr _) (BG _ _ _ _) (BI _ _ _ _) (J8 _ _ _ _) ?_;rw[World.setRow_alloc_new])
   refine(C1.out _ ((Below.refl _ _).alloc (aL _) _)).mono ?_;rintro e w2 ⟨rfl,hb2⟩;have H2:=h_ ((HBK.out.alloc HBK.out.size (.cells #[.int .i64 3,(.func (.func 114) #[] #[.pointer (some ⟨W.heap.size,0,none⟩), .pointer (some ⟨w.heap.size+1,0,none⟩)])] 205)).trans (hb2.mono (by simp;omega)));have cz:w2.cell? ⟨wr.heap.size,0,none⟩=some (.int .i64 3):=((ay.new wr [.int .i64 3,(.func (.func 114) #[] #[.pointer (some ⟨W.heap.size,0,none⟩), .pointer (some ⟨w.heap.size+1,0,none⟩)])] 205).below hb2 (by simp)).ag 0 _ rfl;clear hb2 d0 d1 C1;cases hL:ql l.length e0 with
   |true=>
    have KEY:Hid (RM V l e0 house (.int .i64 0) (.int .i64 1) w2):=⟨1,by decide,rfl,rfl,H2.out,λ_=>hL,λh=>by omega,λh=>by omega⟩
    clear hL;go_wp2_with fail
    go_roundw
    case rel=>
     go_light;have key:=KEY.out;first|exact key|((repeat apply Exists.intro);exact⟨key,rfl⟩)
    case measure=>simp[intOf]
   |false=>
    have FIN:=h_ (HB2.out.trans (H2.out.mono HB2.out.size));have hm:gD l e0 house=3:=by unfold gD;rw[hL];rfl
    have HM:=h_ hm;clear hm hL;go_wp2_with fail;rw[Exit.noGoto_ret];go_ret;exact⟨by rw[<-EE.out,HM.out];rfl,FIN.out⟩
  |1,_=>
   have d0:=bc.ag 2 _ rfl;have d1:=bc.ag 3 _ rfl;have C1:Hid (∀w':World,Below wr.heap.size wr w'->Calls Tryz.prog 115 #[.pointer (some ⟨w.heap.size+1,0,none⟩), .pointer (some ⟨w.heap.size+1+1,0,none⟩), .pointer (some ⟨W.heap.size,0,none⟩)] w' λen w2=>en= .returned (.bool (pP l.length e0 house))/\Below w'.heap.size w' w2):=λw' h=>(K2 W.heap.size (w.heap.size+1) (w.heap.size+1+1) l.length e0 house w' ((bn.below h bn.lt).ag 0 _ rfl) ((bh.below h bh.lt).ag 0 _ rfl) (by rw[E0.out.1];exact(be.below h be.lt).ag 0 _ rfl) (by rw[E0.out.2.1];exact(be.below h be.lt).ag 1 _ rfl) (by rw[E0.out.2.2.1];exact(be.below h be.lt).ag 2 _ rfl)).mono (by rintro e v ⟨rfl,rfl⟩;exact⟨rfl,Below.refl _ _⟩)
   have HBK:=h_ hb;have G1:=h_ (g1 (by decide));clear bc be bn bh bl hb g1 g2 g3;go_wp2_with (with_reducible refine wpList_store_row rfl 205 (.tmp 11) (.tmp 26) rfl wr.heap.size #[.int .i64 1,(.func (.func 115) #[] #[.pointer (some ⟨w.heap.size+1,0,none⟩), .pointer (some ⟨w.heap.size+1+1,0,none⟩), .pointer (some ⟨W.heap.size,0,none⟩)])] rfl rfl 205 #[.int .i64 0, .nilFunc] (heap_alloc_last wr _) (BG _ _ _ _) (BI _ _ _ _) (J8 _ _ _ _) ?_;rw[World.setRow_alloc_new])
   refine(C1.out _ ((Below.refl _ _).alloc (aL _) _)).mono ?_;rintro e w2 ⟨rfl,hb2⟩;have H2:=h_ ((HBK.out.alloc HBK.out.size (.cells #[.int .i64 1,(.func (.func 115) #[] #[.pointer (some ⟨w.heap.size+1,0,none⟩), .pointer (some ⟨w.heap.size+1+1,0,none⟩), .pointer (some ⟨W.heap.size,0,none⟩)])] 205)).trans (hb2.mono (by simp;omega)));have cz:w2.cell? ⟨wr.heap.size,0,none⟩=some (.int .i64 1):=((ay.new wr [.int .i64 1,(.func (.func 115) #[] #[.pointer (some ⟨w.heap.size+1,0,none⟩), .pointer (some ⟨w.heap.size+1+1,0,none⟩), .pointer (some ⟨W.heap.size,0,none⟩)])] 205).below hb2 (by simp)).ag 0 _ rfl;clear hb2 d0 d1 C1;cases hL:pP l.length e0 house with
   |true=>
    have KEY:Hid (RM V l e0 house (.int .i64 0) (.int .i64 2) w2):=⟨2,by decide,rfl,rfl,H2.out,λ_=>G1.out,λ_=>hL,λh=>by omega⟩
    clear hL;go_wp2_with fail
    go_roundw
    case rel=>
     go_light;have key:=KEY.out;first|exact key|((repeat apply Exists.intro);exact⟨key,rfl⟩)
    case measure=>simp[intOf]
   |false=>
    have FIN:=h_ (HB2.out.trans (H2.out.mono HB2.out.size));have hm:gD l e0 house=1:=by unfold gD;rw[G1.out,hL];rfl
    have HM:=h_ hm;clear hm hL;go_wp2_with fail;rw[Exit.noGoto_ret];go_ret;exact⟨by rw[<-EE.out,HM.out];rfl,FIN.out⟩
  |2,_=>
   have d0:=bc.ag 4 _ rfl;have d1:=bc.ag 5 _ rfl;have C1:Hid (∀w':World,Below wr.heap.size wr w'->Calls Tryz.prog 116 #[.pointer (some ⟨W.heap.size,0,none⟩), .pointer (some ⟨w.heap.size+1,0,none⟩), .pointer (some ⟨w.heap.size,0,none⟩)] w' λen w2=>en= .returned (.bool (rA l e0))/\Below w'.heap.size w' w2):=λw' h=>Mn W.heap.size (w.heap.size+1) w.heap.size A c l e0 w' hl ((bn.below h bn.lt).ag 0 _ rfl) ((bl.below h bl.lt).ag 0 _ rfl) (HS.out.below ((HB2.out.trans (hb.mono HB2.out.size)).trans (h.mono (fO HB2.out.size hsz))) (aL _)) (by rw[E0.out.2.2.1];exact(be.below h be.lt).ag 2 _ rfl)
   have HBK:=h_ hb;have G1:=h_ (g1 (by decide));have G2:=h_ (g2 (by decide));clear bc be bn bh bl hb g1 g2 g3;go_wp2_with (with_reducible refine wpList_store_row rfl 205 (.tmp 11) (.tmp 26) rfl wr.heap.size #[.int .i64 15,(.func (.func 116) #[] #[.pointer (some ⟨W.heap.size,0,none⟩), .pointer (some ⟨w.heap.size+1,0,none⟩), .pointer (some ⟨w.heap.size,0,none⟩)])] rfl rfl 205 #[.int .i64 0, .nilFunc] (heap_alloc_last wr _) (BG _ _ _ _) (BI _ _ _ _) (J8 _ _ _ _) ?_;rw[World.setRow_alloc_new])
   refine(C1.out _ ((Below.refl _ _).alloc (aL _) _)).mono ?_;rintro e w2 ⟨rfl,hb2⟩;have H2:=h_ ((HBK.out.alloc HBK.out.size (.cells #[.int .i64 15,(.func (.func 116) #[] #[.pointer (some ⟨W.heap.size,0,none⟩), .pointer (some ⟨w.heap.size+1,0,none⟩), .pointer (some ⟨w.heap.size,0,none⟩)])] 205)).trans (hb2.mono (by simp;omega)));have cz:w2.cell? ⟨wr.heap.size,0,none⟩=some (.int .i64 15):=((ay.new wr [.int .i64 15,(.func (.func 116) #[] #[.pointer (some ⟨W.heap.size,0,none⟩), .pointer (some ⟨w.heap.size+1,0,none⟩), .pointer (some ⟨w.heap.size,0,none⟩)])] 205).below hb2 (by simp)).ag 0 _ rfl;clear hb2 d0 d1 C1;cases hL:rA l e0 with
   |true=>
    have KEY:Hid (RM V l e0 house (.int .i64 0) (.int .i64 3) w2):=⟨3,by decide,rfl,rfl,H2.out,λ_=>G1.out,λ_=>G2.out,λ_=>hL⟩
    clear hL;go_wp2_with fail
    go_roundw
    case rel=>
     go_light;have key:=KEY.out;first|exact key|((repeat apply Exists.intro);exact⟨key,rfl⟩)
    case measure=>simp[intOf]
   |false=>
    have FIN:=h_ (HB2.out.trans (H2.out.mono HB2.out.size));have hm:gD l e0 house=15:=by unfold gD;rw[G1.out,G2.out,hL];rfl
    have HM:=h_ hm;clear hm hL;go_wp2_with fail;rw[Exit.noGoto_ret];go_ret;exact⟨by rw[<-EE.out,HM.out];rfl,FIN.out⟩
  |3,_=>
   have FIN:=h_ (HB2.out.trans (hb.mono HB2.out.size));have hm:gD l e0 house=0:=by unfold gD;rw[g1 (by decide),g2 (by decide),g3 (by decide)];rfl
   have HM:=h_ hm;clear bc be bn bh bl hb g1 g2 g3 hm;go_wp2_with fail;first|rw[Exit.noGoto_ret]|skip
   go_ret;exact⟨by rw[<-EE.out,HM.out];rfl,FIN.out⟩
end Go.Proofs.YtkmbmfengcdmoaaGreatDoor
