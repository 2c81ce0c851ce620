/- Package chain: Append. Condition: the variables of digest and of strconv hold their numbers. -/
import Derived.Test.YtkmbmfengcdmoaaGreatDoorZAF
import Derived.Test.YtkmbmfengcdmoaaGreatDoorZAA
import Derived.OwnWalk
import Derived.Laws.MakeOwn
set_option maxRecDepth 100000
set_option linter.all false
namespace Go.Proofs.YtkmbmfengcdmoaaGreatDoor
open Go.RowKit Go.ay Go.Opn
def iD(l:List aV)(k:Nat)(e:aV)(house pub:Int):Int:=
 if gD (l.take k) e house=0 then(if(e.prev.toList==(fF (l.take k)).toList)then(if mu pub (gb e) e.r e.s then 0 else 17)else 17)else gD (l.take k) e house
def gi(l:List aV)(house pub:Int):Nat->Nat->Int×Int
 |0,_=>(0, -1)
 |n+1,k=>match l[k]? with
  |none=>(0, -1)
  |some e=>if iD l k e house pub=0 then gi l house pub n (k+1)else(iD l k e house pub,k)
def gS(house pub:Int):Prop:=0<=house/\house<12/\1<=pub/\pub<2147483647
instance (house pub:Int):Decidable (gS house pub):=by unfold gS;infer_instance
def iA(l:List aV)(house pub:Int):Int×Int:=if gS house pub then gi l house pub l.length 0 else(1, -1)
theorem sh{l:List aV}{house pub:Int}{n k:Nat}{e:aV}(h:l[k]? =some e)(a:iD l k e house pub=0):gi l house pub (n+1) k=gi l house pub n (k+1):=by rw[gi,h];simp only;rw[if_pos a]
theorem pS{l:List aV}{house pub:Int}{n k:Nat}{e:aV}(h:l[k]? =some e)(a:iD l k e house pub≠0):gi l house pub (n+1) k=(iD l k e house pub,(k:Int)):=by rw[gi,h];simp only;rw[if_neg a]
def RK(w:World)(l:List aV)(house pub:Int)(i:Value)(wr:World):Prop:=
 ∃k:Nat,k<=l.length/\i= .int .i64 k/\Below w.heap.size w wr/\iA l house pub=gi l house pub (l.length-k) k
def Ca(w:World)(r:Int×Int)(e:Ending)(w':World):Prop:=e= .returned (.tuple #[.int .i64 r.1, .int .i64 r.2])/\Below w.heap.size w w'
set_option maxHeartbeats 8000000 in
theorem uM(A:Option Addr)(c:Nat)(l:List aV)(house pub:Int)(w:World)(h:SL w 7 aK A l)(hl:l.length<=9223372036854775807)(ge:l.length<=c)(q:PG l)(hT:cB w):
  Calls Tryz.prog 27 #[.slice A l.length c, .int .i64 house, .int .i64 pub] w (Ca w (iA l house pub)):=by
 by_cases d9:house<0
 ·have hm:iA l house pub=(1, -1):=by unfold iA;rw[if_neg (by unfold gS;omega)]
  have G:=h_ hm;clear hm;go_enter Tryz.func27,Tryz.ntmps27
  go_wp2
  go_ret2
  exact⟨by rw[G.out];rfl,Below.refl _ _⟩
 by_cases f8:12<=house
 ·have hm:iA l house pub=(1, -1):=by unfold iA;rw[if_neg (by unfold gS;omega)]
  have G:=h_ hm;clear hm;go_enter Tryz.func27,Tryz.ntmps27
  go_wp2
  go_ret2
  exact⟨by rw[G.out];rfl,Below.refl _ _⟩
 by_cases g7:pub<1
 ·have hm:iA l house pub=(1, -1):=by unfold iA;rw[if_neg (by unfold gS;omega)]
  have G:=h_ hm;clear hm;go_enter Tryz.func27,Tryz.ntmps27
  go_wp2
  go_ret2
  exact⟨by rw[G.out];rfl,Below.refl _ _⟩
 by_cases g8:2147483647<=pub
 ·have hm:iA l house pub=(1, -1):=by unfold iA;rw[if_neg (by unfold gS;omega)]
  have G:=h_ hm;clear hm;go_enter Tryz.func27,Tryz.ntmps27
  go_wp2
  go_ret2
  exact⟨by rw[G.out];rfl,Below.refl _ _⟩
 have an:Hid (RK w l house pub (.int .i64 0) w):=⟨0,gu _,rfl,Below.refl _ _,by unfold iA;rw[if_pos (by unfold gS;omega)];rfl⟩
 have HS:=h_ h;have HF:=h_ q;have HT:=h_ hT;obtain⟨R,eR⟩:=x_ (iA l house pub)
 rw[<-eR];have ER:=h_ eR;clear h q hT eR;go_enter Tryz.func27,Tryz.ntmps27;go_wp2_with fail
 go_loopw [27] (λi wr=>RK w l house pub i wr) (λi _=>l.length- (intOf i).toNat)
 case atStart=>exact an.out
 case round=>
  clear an;obtain⟨k,hk,rfl,hb,T⟩:=hrel;rw[<-ER.out]at T;by_cases co:k<l.length
  ·obtain⟨x,hx⟩:∃x,l[k]? =some x:=⟨_,eH co⟩
   obtain⟨J,t,rfl,M⟩:=(HS.out.below hb (aL _)).at_ hx;obtain⟨n,hn⟩:∃n,l.length-k=n+1:=⟨l.length-k-1,by omega⟩
   rw[hn]at T;have dl:iD l k x house pub=0->R=gi l house pub (l.length- (k+1)) (k+1):=λh0=>by
    rw[T,sh hx h0];congr 1;omega
   have N:iD l k x house pub≠0->R=(iD l k x house pub,(k:Int)):=λh0=>by rw[T,pS hx h0]
   obtain⟨f1,f2,f3⟩:=HF.out x (ue hx);have ci:PG (l.take k):=λe he=>HF.out e (List.mem_of_mem_take he)
   have W:(l.take k).length=k:=by rw[jQ];omega
   have d7:=h_ dl;have D:=h_ N;obtain⟨X,O⟩:=x_ (gD (l.take k) x house)
   obtain⟨pv,Q⟩:=x_ (fF (l.take k))
   obtain⟨tx,H⟩:=x_ (gb x)
   obtain⟨vb,S⟩:=x_ (mu pub tx x.r x.s)
   have d6:tx.size<=1000000000000:=by have:=iz f1;rw[H];omega
   have C1:Hid (∀b:World,Below w.heap.size w b->Calls Tryz.prog 69 #[.slice (some ⟨J,t,none⟩) k c, .agg (aK x).toArray, .int .i64 house] b λP a=>P= .returned (.int .i64 X)/\Below b.heap.size b a):=λb h=>by
    have:=yM (some ⟨J,t,none⟩) c (l.take k) x house b (by omega) ((HS.out.below h (aL _)).take k);rw[W, <-O]at this;exact this
   have C2:Hid (∀b:World,Below w.heap.size w b->Calls Tryz.prog 70 #[.slice (some ⟨J,t,none⟩) k c] b λP a=>P= .returned (.string pv)/\Below b.heap.size b a):=λb h=>by
    have:=zc (some ⟨J,t,none⟩) c (l.take k) b ((HS.out.below h (aL _)).take k) (by omega) ci (HT.out.below h (aL _));rw[W, <-Q]at this;exact this
   have C3:Hid (∀b:World,Below w.heap.size w b->Calls Tryz.prog 16 #[.agg (aK x).toArray] b λP a=>P= .returned (.string tx)/\Below b.heap.size b a):=λb h=>by
    have:=ic x b f1 f2 f3 (HT.out.below h (aL _));rw[<-H]at this;exact this
   have C4:Hid (∀b:World,Below w.heap.size w b->Calls Tryz.prog 15 #[.int .i64 pub, .string tx, .agg #[.int .i64 x.r, .int .i64 x.s]] b λP a=>P= .returned (.bool vb)/\Below b.heap.size b a):=λb h=>by
    have:=xt pub tx x.r x.s b d6 (HT.out.below h (aL _));rw[<-S]at this;exact this
   have c1:iD l k x house pub=if X=0 then(if(x.prev.toList==pv.toList)then(if vb then 0 else 17)else 17)else X:=by unfold iD;rw[<-O, <-Q, <-H, <-S]
   have CH:=h_ c1;obtain⟨z,B,xd,y,xb,u,v⟩:=x;have i0:=M 0 _ rfl;have i1:=M 1 _ rfl;have i2:=M 2 _ rfl;have i3:=M 3 _ rfl;have i4:=M 4 _ rfl;have i5:=M 5 _ rfl;have i6:=M 6 _ rfl;simp only[<-Nat.add_assoc,KO]at i0 i1 i2 i3 i4 i5 i6;have gc:(k:Int)<(l.length:Int):=by omega
   have ii:(0:Int)<=(k:Int):=by omega
   have f9:(k:Int)<=(c:Int):=by omega
   have HB:=h_ hb;clear M hn T dl N f1 f2 f3 ci W O Q H S d6 c1 hb hx;go_wp2_with fail;obtain⟨V,eV⟩:=x_ (wr.alloc (.cells #[.int .i64 z, .int .i64 B, .int .i64 xd, .string y, .string xb, .int .i64 u, .int .i64 v] 42))
   have K:ay V wr.heap.size [.int .i64 z, .int .i64 B, .int .i64 xd, .string y, .string xb, .int .i64 u, .int .i64 v] 42:=by rw[eV];exact ay.new wr [.int .i64 z, .int .i64 B, .int .i64 xd, .string y, .string xb, .int .i64 u, .int .i64 v] 42
   have bi:Below w.heap.size w V:=by rw[eV];exact HB.out.alloc HB.out.size _
   rw[<-eV];have c0:=K.ag 0 _ rfl;have c1:=K.ag 1 _ rfl;have c2:=K.ag 2 _ rfl;have c3:=K.ag 3 _ rfl;have c4:=K.ag 4 _ rfl;have c5:=K.ag 5 _ rfl;have c6:=K.ag 6 _ rfl;refine Free.ai 6 [(5, .det (.int .i64 X))] (λa=>Below w.heap.size w a/\a.cell? ⟨wr.heap.size,0,none⟩=some (.int .i64 z)/\a.cell? ⟨wr.heap.size,1,none⟩=some (.int .i64 B)/\a.cell? ⟨wr.heap.size,2,none⟩=some (.int .i64 xd)/\a.cell? ⟨wr.heap.size,3,none⟩=some (.string y)/\a.cell? ⟨wr.heap.size,4,none⟩=some (.string xb)/\a.cell? ⟨wr.heap.size,5,none⟩=some (.int .i64 u)/\a.cell? ⟨wr.heap.size,6,none⟩=some (.int .i64 v)) (by kernel_rfl) (by kernel_rfl) ?_ ⟨bi.drew,c0,c1,c2,c3,c4,c5,c6⟩ (λ_ _ h g=>⟨h.1.trans (Below.mono g h.1.size),aQ h.2.1 g,aQ h.2.2.1 g,aQ h.2.2.2.1 g,aQ h.2.2.2.2.1 g,aQ h.2.2.2.2.2.1 g,aQ h.2.2.2.2.2.2.1 g,aQ h.2.2.2.2.2.2.2 g⟩) ?_
   ·intro j mk r q;simp only[Free.find]at q
    repeat' split at q
    all_goals (first|cases q|skip)
   simp only[eJ,dT];clear c0 c1 c2 c3 c4 c5 c6 i0 i1 i2 i3 i4 i5 i6 eV bi K HB;iterate 6 (first|(apply Free.aC rfl rfl;(intro b d o;refine Free.au (f:=69) (args:= #[.slice (some ⟨J,t,none⟩) k c, .agg (aK ⟨z,B,xd,y,xb,u,v⟩).toArray, .int .i64 house]) (by clear d o;go_simp<;>rfl) ?_;refine(C1.out _ d.1).mono ?_;rintro e Z ⟨rfl,m⟩;exact⟨_,rfl,m,rfl⟩);simp only[Pt])|(apply Free.ae (Free.wq rfl) rfl;(intro b d o;obtain⟨Y,q0,q1,q2,q3,q4,q5,q6⟩:=d;clear o Y;go_light;go_simp<;>rfl);(try simp only[Pt])))
   apply Free.ax;intro wz p U _;simp only[fm,fo];have F:=h_ p.1;obtain⟨_,z0,z1,z2,z3,z4,z5,z6⟩:=p;clear U C1;by_cases I:X=0
   ·subst I;have p0:wz.drew.cell? ⟨wr.heap.size,0,none⟩=some (.int .i64 z):=z0;have p1:wz.drew.cell? ⟨wr.heap.size,1,none⟩=some (.int .i64 B):=z1;have p2:wz.drew.cell? ⟨wr.heap.size,2,none⟩=some (.int .i64 xd):=z2;have p3:wz.drew.cell? ⟨wr.heap.size,3,none⟩=some (.string y):=z3;have p4:wz.drew.cell? ⟨wr.heap.size,4,none⟩=some (.string xb):=z4;have p5:wz.drew.cell? ⟨wr.heap.size,5,none⟩=some (.int .i64 u):=z5;have p6:wz.drew.cell? ⟨wr.heap.size,6,none⟩=some (.int .i64 v):=z6;clear z0 z1 z2 z3 z4 z5 z6;cases hpp:(y.toList==pv.toList)with
    |false=>
     have E:R=(17,(k:Int)):=by have:=CH.out;simp only[uf,hpp,GA,B6]at this;have L:=D.out (by rw[this];decide);rw[this]at L;exact L
     have HR:=h_ E;clear E;go_wp2_with fail;refine Free.ai 16 [(5, .det (.string pv))] (λa=>Below w.heap.size w a/\a.cell? ⟨wr.heap.size,0,none⟩=some (.int .i64 z)/\a.cell? ⟨wr.heap.size,1,none⟩=some (.int .i64 B)/\a.cell? ⟨wr.heap.size,2,none⟩=some (.int .i64 xd)/\a.cell? ⟨wr.heap.size,3,none⟩=some (.string y)/\a.cell? ⟨wr.heap.size,4,none⟩=some (.string xb)/\a.cell? ⟨wr.heap.size,5,none⟩=some (.int .i64 u)/\a.cell? ⟨wr.heap.size,6,none⟩=some (.int .i64 v)) (by kernel_rfl) (by kernel_rfl) ?_ ⟨F.out.drew,p0,p1,p2,p3,p4,p5,p6⟩ (λ_ _ h g=>⟨h.1.trans (Below.mono g h.1.size),aQ h.2.1 g,aQ h.2.2.1 g,aQ h.2.2.2.1 g,aQ h.2.2.2.2.1 g,aQ h.2.2.2.2.2.1 g,aQ h.2.2.2.2.2.2.1 g,aQ h.2.2.2.2.2.2.2 g⟩) ?_
     ·intro j mk r q;simp only[Free.find]at q
      repeat' split at q
      all_goals (first|cases q|skip)
     simp only[eJ,dT];clear p0 p1 p2 p3 p4 p5 p6;iterate 16 (first|(apply Free.dw (by exact fk rfl rfl rfl rfl);simp only[Pt])|(apply Free.aC rfl rfl;(intro b d o;refine Free.au (f:=70) (args:= #[.slice (some ⟨J,t,none⟩) k c]) (by clear d o;go_simp<;>rfl) ?_;refine(C2.out _ d.1).mono ?_;rintro e Z ⟨rfl,m⟩;exact⟨_,rfl,m,rfl⟩);simp only[Pt])|(apply Free.ae (Free.wq rfl) rfl;(intro b d o;obtain⟨Y,q0,q1,q2,q3,q4,q5,q6⟩:=d;clear o Y;go_light;go_simp<;>rfl);(try simp only[Pt])))
     apply Free.ax;intro wy p U _;simp only[fm,fo];have C:=h_ p.1;clear p U C2 C3 C4;go_wp2_with fail
     go_ret2
     exact⟨by rw[HR.out];rfl,C.out⟩
    |true=>
     cases vb with
     |true=>
      have E:R=gi l house pub (l.length- (k+1)) (k+1):=d7.out (by have:=CH.out;simpa[hpp]using this);have HR:=h_ E;clear E;go_wp2_with fail;refine Free.ai 16 [(5, .det (.string pv)),(10, .det (.string tx)),(13, .det (.bool true))] (λa=>Below w.heap.size w a/\a.cell? ⟨wr.heap.size,0,none⟩=some (.int .i64 z)/\a.cell? ⟨wr.heap.size,1,none⟩=some (.int .i64 B)/\a.cell? ⟨wr.heap.size,2,none⟩=some (.int .i64 xd)/\a.cell? ⟨wr.heap.size,3,none⟩=some (.string y)/\a.cell? ⟨wr.heap.size,4,none⟩=some (.string xb)/\a.cell? ⟨wr.heap.size,5,none⟩=some (.int .i64 u)/\a.cell? ⟨wr.heap.size,6,none⟩=some (.int .i64 v)) (by kernel_rfl) (by kernel_rfl) ?_ ⟨F.out.drew,p0,p1,p2,p3,p4,p5,p6⟩ (λ_ _ h g=>⟨h.1.trans (Below.mono g h.1.size),aQ h.2.1 g,aQ h.2.2.1 g,aQ h.2.2.2.1 g,aQ h.2.2.2.2.1 g,aQ h.2.2.2.2.2.1 g,aQ h.2.2.2.2.2.2.1 g,aQ h.2.2.2.2.2.2.2 g⟩) ?_
      ·intro j mk r q;simp only[Free.find]at q
       repeat' split at q
       all_goals (first|cases q|skip)
      simp only[eJ,dT];clear p0 p1 p2 p3 p4 p5 p6;iterate 16 (first|(apply Free.aC rfl rfl;(intro b d o;refine Free.au (f:=70) (args:= #[.slice (some ⟨J,t,none⟩) k c]) (by clear d o;go_simp<;>rfl) ?_;refine(C2.out _ d.1).mono ?_;rintro e Z ⟨rfl,m⟩;exact⟨_,rfl,m,rfl⟩);simp only[Pt])|(apply Free.aC rfl rfl;(intro b d o;refine Free.au (f:=16) (args:= #[.agg (aK ⟨z,B,xd,y,xb,u,v⟩).toArray]) (by clear d o;go_simp<;>rfl) ?_;refine(C3.out _ d.1).mono ?_;rintro e Z ⟨rfl,m⟩;exact⟨_,rfl,m,rfl⟩);simp only[Pt])|(apply Free.aC rfl rfl;(intro b d o;refine Free.au (f:=15) (args:= #[.int .i64 pub, .string tx, .agg #[.int .i64 u, .int .i64 v]]) (by clear d o;go_simp<;>rfl) ?_;refine(C4.out _ d.1).mono ?_;rintro e Z ⟨rfl,m⟩;exact⟨_,rfl,m,rfl⟩);simp only[Pt])|(apply Free.ae (Free.wq rfl) rfl;(intro b d o;obtain⟨Y,q0,q1,q2,q3,q4,q5,q6⟩:=d;clear o Y;go_light;go_simp<;>rfl);(try simp only[Pt])))
      apply Free.ax;intro wy p U _;simp only[fm,fo];have C:=h_ p.1;have key:RK w l house pub (.int .i64 ((k:Int)+1)) wy:=⟨k+1,co,by go_num,C.out,by rw[<-ER.out];exact HR.out⟩
      have d8:=h_ key;clear p U C2 C3 C4 key;go_wp2_with fail
      go_roundw
      case rel=>
       go_light;have key:=d8.out;first|exact key|((repeat apply Exists.intro);exact⟨key,rfl⟩)
      case measure=>simp[intOf];omega
     |false=>
      have E:R=(17,(k:Int)):=by
       have h1:iD l k ⟨z,B,xd,y,xb,u,v⟩ house pub=17:=by have:=CH.out;simpa[hpp]using this
       have L:=D.out (by rw[h1];decide);rw[h1]at L;exact L
      have HR:=h_ E;clear E;go_wp2_with fail;refine Free.ai 16 [(5, .det (.string pv)),(10, .det (.string tx)),(13, .det (.bool false))] (λa=>Below w.heap.size w a/\a.cell? ⟨wr.heap.size,0,none⟩=some (.int .i64 z)/\a.cell? ⟨wr.heap.size,1,none⟩=some (.int .i64 B)/\a.cell? ⟨wr.heap.size,2,none⟩=some (.int .i64 xd)/\a.cell? ⟨wr.heap.size,3,none⟩=some (.string y)/\a.cell? ⟨wr.heap.size,4,none⟩=some (.string xb)/\a.cell? ⟨wr.heap.size,5,none⟩=some (.int .i64 u)/\a.cell? ⟨wr.heap.size,6,none⟩=some (.int .i64 v)) (by kernel_rfl) (by kernel_rfl) ?_ ⟨F.out.drew,p0,p1,p2,p3,p4,p5,p6⟩ (λ_ _ h g=>⟨h.1.trans (Below.mono g h.1.size),aQ h.2.1 g,aQ h.2.2.1 g,aQ h.2.2.2.1 g,aQ h.2.2.2.2.1 g,aQ h.2.2.2.2.2.1 g,aQ h.2.2.2.2.2.2.1 g,aQ h.2.2.2.2.2.2.2 g⟩) ?_
      ·intro j mk r q;simp only[Free.find]at q
       repeat' split at q
       all_goals (first|cases q|skip)
      simp only[eJ,dT];clear p0 p1 p2 p3 p4 p5 p6;iterate 16 (first|(apply Free.aC rfl rfl;(intro b d o;refine Free.au (f:=70) (args:= #[.slice (some ⟨J,t,none⟩) k c]) (by clear d o;go_simp<;>rfl) ?_;refine(C2.out _ d.1).mono ?_;rintro e Z ⟨rfl,m⟩;exact⟨_,rfl,m,rfl⟩);simp only[Pt])|(apply Free.aC rfl rfl;(intro b d o;refine Free.au (f:=16) (args:= #[.agg (aK ⟨z,B,xd,y,xb,u,v⟩).toArray]) (by clear d o;go_simp<;>rfl) ?_;refine(C3.out _ d.1).mono ?_;rintro e Z ⟨rfl,m⟩;exact⟨_,rfl,m,rfl⟩);simp only[Pt])|(apply Free.aC rfl rfl;(intro b d o;refine Free.au (f:=15) (args:= #[.int .i64 pub, .string tx, .agg #[.int .i64 u, .int .i64 v]]) (by clear d o;go_simp<;>rfl) ?_;refine(C4.out _ d.1).mono ?_;rintro e Z ⟨rfl,m⟩;exact⟨_,rfl,m,rfl⟩);simp only[Pt])|(apply Free.ae (Free.wq rfl) rfl;(intro b d o;obtain⟨Y,q0,q1,q2,q3,q4,q5,q6⟩:=d;clear o Y;go_light;go_simp<;>rfl);(try simp only[Pt])))
      apply Free.ax;intro wy p U _;simp only[fm,fo];have C:=h_ p.1;clear p U C2 C3 C4;go_wp2_with fail
      go_ret2
      exact⟨by rw[HR.out];rfl,C.out⟩
   ·have E:R=(X,(k:Int)):=by have h1:=CH.out;rw[if_neg I]at h1;have L:=D.out (by rw[h1];exact I);rw[h1]at L;exact L
    have HR:=h_ E;have gt:(X !=0)=true:=by simp[I]
    clear E;go_wp2_with fail
    go_ret2
    exact⟨by rw[HR.out];rfl,F.out⟩
  ·obtain rfl:k=l.length:=by omega
   have hm:R=(0, -1):=by rw[T,Nat.sub_self];rfl
   have G:=h_ hm;have HB:=h_ hb;clear hm hb T;go_wp2_with fail
   go_ret2
   exact⟨by rw[G.out];rfl,HB.out⟩
def nM(e:aV)(pub:Int):Bool:=mu pub (gb e) e.r e.s
def qK(a b:aV):Bool:=decide (a.house=b.house/\a.seq=b.seq/\a.day=b.day/\a.prev.toList=b.prev.toList/\a.body.toList=b.body.toList/\a.r=b.r/\a.s=b.s)
end Go.Proofs.YtkmbmfengcdmoaaGreatDoor
namespace Go.Proofs.YtkmbmfengcdmoaaGreatDoor

theorem je(a:ByteArray):a.toList=a.data.toList:=Go.ByteArray.toList_eq a
theorem BQ{a b:ByteArray}(h:a.toList=b.toList):a=b:=by rw[je,je]at h;cases a;cases b;simp at h;subst h;rfl
theorem rI(a b:aV):qK a b=true↔a=b:=by
 unfold qK;rw[decide_eq_true_iff];constructor
 ·rintro⟨e,f,g,c,d,h,i⟩;have c:=BQ c;have d:=BQ d;cases a;cases b;simp_all
 ·rintro rfl;exact⟨rfl,rfl,rfl,rfl,rfl,rfl,rfl⟩
theorem pR{l:List aV}{house pub:Int}:∀(n k:Nat),k+n=l.length->(∀i e,k<=i->l[i]? =some e->iD l i e house pub=0)->gi l house pub n k=(0, -1)
 |0,_,_,_=>rfl
 |n+1,k,hn,h=>by
  obtain⟨e,a⟩:∃e,l[k]? =some e:=⟨_,eH (by omega)⟩
  rw[sh a (h k e (aL _) a)];exact pR n (k+1) (by omega) (λi e b a=>h i e (by omega) a)
set_option maxRecDepth 10000 in
theorem si{l:List aV}{house pub:Int}:∀(n k:Nat),k+n=l.length->(gi l house pub n k).1=0->∀i e,k<=i->l[i]? =some e->iD l i e house pub=0
 |0,k,hn,_,i,e,hi,he=>by
  have:=(jS.1 he).1;omega
 |n+1,k,hn,h,i,e,hi,he=>by
  obtain⟨x,c⟩:∃x,l[k]? =some x:=⟨_,eH (by omega)⟩
  by_cases a:iD l k x house pub=0
  ·rw[sh c a]at h;by_cases b:i=k
   ·subst b;rw[c]at he;cases he
    exact a
   ·exact si n (k+1) (by omega) h i e (by omega) he
  ·rw[pS c a]at h;dsimp only at h;exact(a h).elim
theorem kC(l:List aV)(house pub:Int):(iA l house pub).1=0↔gS house pub/\∀i e,l[i]? =some e->iD l i e house pub=0:=by
 unfold iA;by_cases a:gS house pub
 ·rw[if_pos a];constructor
  ·intro h;exact⟨a,λi e b=>si l.length 0 (by omega) h i e (gu _) b⟩
  ·rintro⟨_,h⟩;rw[pR l.length 0 (by omega) (λi e _ b=>h i e b)]
 ·rw[if_neg a];constructor
  ·intro h;exact absurd h (by decide)
  ·rintro⟨h,_⟩;exact absurd h a
theorem Ou{l:List aV}{house pub:Int}(h:(iA l house pub).1=0):iA l house pub=(0, -1):=by obtain⟨c,a⟩:=(kC l house pub).1 h;unfold iA;rw[if_pos c];exact pR l.length 0 (by omega) (λi e _ b=>a i e b)
open Go.RowKit Go.ay Go.Opn Go.Apl
theorem IQ:(Tryz.prog.info? 42).map (λi=>(i.zero,i.size,i.bytes))=some (some (.agg #[.int .i64 0, .int .i64 0, .int .i64 0, .string ⟨#[]⟩, .string ⟨#[]⟩, .int .i64 0, .int .i64 0]),7,72):=by kernel_rfl
theorem bT(e:aV):(aK e).length=7:=rfl
theorem cm(e:aV):∀u∈aK e,u.oneCell'=true:=by
 intro u a;simp only[aK,lC,DR,DW]at a;rcases a with rfl|rfl|rfl|rfl|rfl|rfl|rfl<;>rfl
theorem vJ(t:ByteArray):(uB KC t).size=64:=by rw[DL];show(tM KC t).toArray.size=64;simp[zK]
theorem gW(l:List aV):(fF l).size<=64:=by
 unfold fF;cases l.getLast? with
 |none=>exact gu _
 |some e=>exact Nat.le_of_eq (vJ _)
def vn(l:List aV)(house day:Int)(body:ByteArray):aV:=⟨house,l.length,day,fF l,body,0,0⟩
def Fq(l:List aV)(house day:Int)(body:ByteArray):aV:=⟨house,l.length,day,⟨#[]⟩,body,0,0⟩
def dn(l:List aV)(house secret day:Int)(body:ByteArray):aV:=⟨house,l.length,day,fF l,body,lD secret (gb (vn l house day body)),pF secret (gb (vn l house day body))⟩
def eI(l:List aV)(house secret day:Int)(body:ByteArray):Int:=
 if fT secret then(if(iA l house (cQ secret)).1=0 then gD l (Fq l house day body) house else(iA l house (cQ secret)).1)else 1
def B9(w:World)(l:List aV)(house secret day:Int)(body:ByteArray)(e:Ending)(w':World):Prop:=
 Below w.heap.size w w'/\((eI l house secret day body≠0/\e= .returned (.tuple #[.slice none 0 0, .int .i64 (eI l house secret day body)]))\/
  (eI l house secret day body=0/\∃b,w.heap.size<=b/\e= .returned (.tuple #[.slice (some ⟨b,0,none⟩) (l.length+1) (l.length+1), .int .i64 0])/\SL w' 7 aK (some ⟨b,0,none⟩) (l++ [dn l house secret day body])))
def bO:List Value:= [.int .i64 0, .int .i64 0, .int .i64 0, .string ⟨#[]⟩, .string ⟨#[]⟩, .int .i64 0, .int .i64 0]
def Jd(n:Nat):Array Value:=madeCells bO.toArray ((n+1)*7)
theorem AZ(n:Nat):(Jd n).size=(n+1)*7:=size_madeCells _ _
theorem wN(n:Nat)(f:n<=1000000)(W:World):(Instr.makeSlice 56 (.int .i64 0) (.int .i64 ((n:Int)+1))).run Tryz.prog W= .ok (.slice (some ⟨W.heap.size,0,none⟩) 0 (n+1)) (W.alloc (.cells (Jd n) 42)):=by
 obtain⟨i,d,a,b,c⟩:=info_parts IQ;have h:=run_make (P:=Tryz.prog) W 56 42 i _ Tryz.underlying56 d a .i64 .i64 0 ((n:Int)+1) (by omega) (by omega) (by rw[c];omega) (by omega);rw[h,b];have e:((n:Int)+1).toNat=n+1:=by omega
 rw[e];rfl
set_option maxHeartbeats 4000000 in
theorem KW(A:Option Addr)(c:Nat)(l:List aV)(house secret day:Int)(body:ByteArray)(w:World)(h:SL w 7 aK A l)(hl:l.length<=1000000)(lw:l.length<=c)(L:PG l)
  (li: -9223372036854775808<=house) (lm:house<=9223372036854775807) (jp: -9223372036854775808<=day) (kw:day<=9223372036854775807) (o:body.size<=1000000000) (hT:cB w):
  Calls Tryz.prog 82 #[.slice A l.length c, .int .i64 house, .int .i64 secret, .int .i64 day, .string body] w (B9 w l house secret day body):=by
 have S:=λw=>rQ secret w
 unfold lA at S;by_cases hs:fT secret
 ·simp only[if_pos hs]at S;obtain⟨E,eE⟩:=x_ (eI l house secret day body)
  obtain⟨y,ey⟩:=x_ (cQ secret)
  have hE:E=if(iA l house y).1=0 then gD l (Fq l house day body) house else(iA l house y).1:=by rw[eE,ey];unfold eI;rw[if_pos hs]
  have f:Hid (∀e w',Below w.heap.size w w'->((E≠0/\e= .returned (.tuple #[.slice none 0 0, .int .i64 E]))\/
    (E=0/\∃b,w.heap.size<=b/\e= .returned (.tuple #[.slice (some ⟨b,0,none⟩) (l.length+1) (l.length+1), .int .i64 0])/\SL w' 7 aK (some ⟨b,0,none⟩) (l++ [dn l house secret day body])))->B9 w l house secret day body e w'):=by
   intro e w' H T;rw[eE]at T;exact⟨H,T⟩
  have C0:=h_ S;have C1:Hid (∀w',Below w.heap.size w w'->Calls Tryz.prog 27 #[.slice A l.length c, .int .i64 house, .int .i64 y] w' (Ca w' (iA l house y))):=λw' o=>uM A c l house y w' (h.below o (aL _)) (by omega) lw L (hT.below o (aL _))
  have C2:Hid (∀w',Below w.heap.size w w'->Calls Tryz.prog 69 #[.slice A l.length c, .agg (aK (Fq l house day body)).toArray, .int .i64 house] w' λG d=>G= .returned (.int .i64 (gD l (Fq l house day body) house))/\Below w'.heap.size w' d):=λw' o=>yM A c l _ house w' (by omega) (h.below o (aL _))
  have C3:Hid (∀w',Below w.heap.size w w'->Calls Tryz.prog 70 #[.slice A l.length c] w' λG d=>G= .returned (.string (fF l))/\Below w'.heap.size w' d):=λw' o=>zc A c l w' (h.below o (aL _)) (by omega) L (hT.below o (aL _))
  have m4:=gW l;have f8:(vn l house day body).Ok:=by
   refine⟨li,lm, ?_, ?_,jp,kw,(by decide:(-9223372036854775808:Int)<=0),(by decide:(0:Int)<=9223372036854775807),(by decide:(-9223372036854775808:Int)<=0),(by decide:(0:Int)<=9223372036854775807), ?_, ?_⟩
   ·show(-9223372036854775808:Int)<=(l.length:Int);omega
   ·show(l.length:Int)<=9223372036854775807;omega
   ·show(fF l).size<=_;omega
   ·show body.size<=_;omega
  have C4:Hid (∀w',Below w.heap.size w w'->Calls Tryz.prog 16 #[.agg (aK (vn l house day body)).toArray] w' λG d=>G= .returned (.string (gb (vn l house day body)))/\Below w'.heap.size w' d):=λw' t=>ic _ w' f8 (by show(fF l).size<=_;omega) o (hT.below t (aL _))
  have m5:(gb (vn l house day body)).size<=1000000000000:=by have:=iz f8;have e1:(vn l house day body).prev.size<=64:=m4;have e2:(vn l house day body).body.size<=1000000000:=o;omega
  have C5:Hid (∀w',Below w.heap.size w w'->Calls Tryz.prog 126 #[.int .i64 secret, .string (gb (vn l house day body))] w' λe d=>e= .returned (.tuple #[.agg #[.int .i64 (lD secret (gb (vn l house day body))), .int .i64 (pF secret (gb (vn l house day body)))], .int .i64 0])/\Below w'.heap.size w' d):=λw' t=>J4 secret _ w' hs m5 (hT.below t (aL _))
  have EA:Hid (aK (dn l house secret day body)= [.int .i64 house, .int .i64 l.length, .int .i64 day, .string (fF l), .string body, .int .i64 (lD secret (gb (vn l house day body))), .int .i64 (pF secret (gb (vn l house day body)))]):=rfl;obtain⟨i,g7⟩:=x_ (dn l house secret day body)
  obtain⟨ms,gt⟩:=x_ (gD l (Fq l house day body) house)
  rw[<-g7]at f EA;rw[<-gt]at hE C2;obtain⟨pv,ci⟩:=x_ (fF l)
  obtain⟨tx,co⟩:=x_ (gb (vn l house day body))
  have bi:Hid (∀w',Below w.heap.size w w'->Calls Tryz.prog 16 #[.agg #[.int .i64 house, .int .i64 l.length, .int .i64 day, .string pv, .string body, .int .i64 0, .int .i64 0]] w' λG d=>G= .returned (.string tx)/\Below w'.heap.size w' d):=by rw[ci,co];exact C4
  have an:Hid (∀w',Below w.heap.size w w'->Calls Tryz.prog 69 #[.slice A l.length c, .agg #[.int .i64 house, .int .i64 l.length, .int .i64 day, .string ⟨#[]⟩, .string body, .int .i64 0, .int .i64 0], .int .i64 house] w' λG d=>G= .returned (.int .i64 ms)/\Below w'.heap.size w' d):=C2;rw[<-co]at C5 EA;rw[<-ci]at C3 EA;obtain⟨sr,g8⟩:=x_ (lD secret tx)
  obtain⟨ss,ii⟩:=x_ (pF secret tx)
  rw[<-g8, <-ii]at C5 EA;rw[<-ey]at C0;obtain⟨cr,ge⟩:=x_ (iA l house y)
  rw[<-ge]at C1 hE;obtain⟨ce,ca⟩:=cr;simp only at hE;have f9:=h_ h;have HE:=h_ hE;obtain⟨n,G⟩:=x_ l.length
  rw[<-G]at f C1 an C3 bi EA hl lw⊢;have EN:=h_ G;clear C2 C4 hs eE ey hE S m4 f8 m5 o g7 gt ci co g8 ii ge h L hT G li lm jp kw;go_enter Tryz.func82,Tryz.ntmps82;go_wp2_with fail;refine(C0.out _).mono ?_;rintro e w' ⟨rfl,rfl⟩;clear C0;go_wp2_with fail;refine(C1.out _ (Below.refl _ _)).mono ?_;rintro e w1 ⟨rfl,i9⟩;have m:=h_ i9;clear i9 C1;simp only;by_cases U:ce=0
  ·subst U;have he:E=ms:=by rw[HE.out,if_pos rfl]
   have D:=h_ he;clear HE he;go_wp2_with fail;refine(an.out _ (m.out.alloc m.out.size _)).mono ?_;rintro e d ⟨rfl,t⟩;have B2:=h_ ((ay.new w1 [.int .i64 house, .int .i64 n, .int .i64 day, .string ⟨#[]⟩, .string body, .int .i64 0, .int .i64 0] 42).below t (by simp));have I:=h_ ((m.out.alloc m.out.size (.cells #[.int .i64 house, .int .i64 n, .int .i64 day, .string ⟨#[]⟩, .string body, .int .i64 0, .int .i64 0] 42)).trans (t.mono (by have:=m.out.size;simp;omega)));clear t an;obtain⟨q,eq⟩:=x_ w1.heap.size
   have hq:w.heap.size<=q:=by rw[eq];exact m.out.size
   rw[<-eq]at B2⊢;clear eq;by_cases d9:ms=0
   ·subst d9;go_wp2_with fail;refine(C3.out _ I.out).mono ?_;rintro e w3 ⟨rfl,dl⟩;have b3:=B2.out.below dl B2.out.lt;have f3:=b3.frozen 3;have g3:=b3.ag 3 _ rfl;have M:=b3.set 3 (.string pv);simp only[Sa,R9]at M;have B4:=h_ M;have S:=M.ag 0 _ rfl;have c1:=M.ag 1 _ rfl;have c2:=M.ag 2 _ rfl;have c3:=M.ag 3 _ rfl;have c4:=M.ag 4 _ rfl;have c5:=M.ag 5 _ rfl;have c6:=M.ag 6 _ rfl;have O:=h_ ((I.out.trans (dl.mono I.out.size)).setCell (p:=⟨q,3,none⟩) hq (.string pv));clear dl b3 M C3 B2 I;go_wp2_with fail;refine(bi.out _ O.out).mono ?_;rintro e w5 ⟨rfl,d6⟩;have B5:=h_ (B4.out.below d6 B4.out.lt);have Q:=h_ (O.out.trans (d6.mono O.out.size));clear d6 bi B4 O S c1 c2 c3 c4 c5 c6 f3 g3;go_wp2_with fail;refine(C5.out _ Q.out).mono ?_;rintro e w6 ⟨rfl,d7⟩;have b6:=B5.out.below d7 B5.out.lt;have f5:=b6.frozen 5;have f6:=b6.frozen 6;have g5:=b6.ag 5 _ rfl;have J:=b6.ag 6 _ rfl;have b7:=(b6.set 5 (.int .i64 sr)).set 6 (.int .i64 ss);simp only[Sa,R9]at b7;have B7:=h_ b7;have R:=h_ (((Q.out.trans (d7.mono Q.out.size)).setCell (p:=⟨q,5,none⟩) hq (.int .i64 sr)).setCell (p:=⟨q,6,none⟩) hq (.int .i64 ss));have mt:=λW=>wN n hl W
    obtain⟨Z,eZ⟩:=x_ (Jd n)
    have hZ:Z.size=(n+1)*7:=by rw[eZ];exact AZ n
    rw[<-eZ]at mt;have HZ:=h_ hZ;clear d7 b6 b7 C5 B5 Q eZ hZ;go_wp2_with fail;obtain⟨V,eV⟩:=x_ (((w6.setCell ⟨q,5,none⟩ (.int .i64 sr)).setCell ⟨q,6,none⟩ (.int .i64 ss)).alloc (.cells Z 42))
    obtain⟨g,eg⟩:=x_ w6.heap.size
    have X:((w6.setCell ⟨q,5,none⟩ (.int .i64 sr)).setCell ⟨q,6,none⟩ (.int .i64 ss)).heap.size=w6.heap.size:=by simp[World.setCell]
    have i':Below w.heap.size w V:=by rw[eV];exact R.out.alloc R.out.size _
    have bq:ay V q (aK i) 42:=by rw[eV,EA.out];exact B7.out.alloc _
    have ld:V.heap[g]? =some (.cells Z 42 (0,0)):=by rw[eV,eg, <-X];exact heap_alloc_last _ _
    have nl:q≠g:=by have:=B7.out.lt;rw[X]at this;omega
    have no:w.heap.size<=g:=by have:=R.out.size;rw[X]at this;omega
    rw[<-eV, <-eg];obtain⟨i0,hi,m6,m7,ol⟩:=info_parts IQ;have HI:=h_ hi;have gc:=h_ m6;have F:=h_ m7;have i8:(l.flatMap aK).length=n*7:=by rw[jZ bT,EN.out]
    have HX:=h_ i8
    letI:Fre2.Rel:=⟨lx g 42 (l.flatMap aK) (aK i),lx.refl,lx.trans⟩
    clear eV eg X mt B7 R hi m6 m7 ol f5 f6 g5 J i8;refine Fre2.ai 6 [(2, .ind (λ_=> .slice (some ⟨g,0,none⟩) n (n+1)) (λ_ d=> ∃a:Array Value,d.heap[g]? =some (.cells a 42 (0,0))/\a.size=(n+1)*7/\a.toList.take (l.flatMap aK).length=l.flatMap aK)),
      (4, .ind (λJ=> .slice (some ⟨J,0,none⟩) 1 1) (λJ d=>ay d J (aK i) 42/\J≠g)),
      (5, .ind (λ_=> .slice (some ⟨g,0,none⟩) (n+1) (n+1)) (λ_ d=> ∃a:Array Value,d.heap[g]? =some (.cells a 42 (0,0))/\a.toList=l.flatMap aK++aK i))]
     (λd=>Below w.heap.size w d/\ay d q (aK i) 42/\∃a:Array Value,d.heap[g]? =some (.cells a 42 (0,0))/\a.size=(n+1)*7) (by kernel_rfl) (by kernel_rfl) ?_ ⟨i'.drew,bq.drew,Z,ld,HZ.out⟩
     (λw1 d h r=> ?_) ?_
    ·intro j mk r L y w1 d hr rr;have rr:lx g 42 (l.flatMap aK) (aK i) w1 d:=rr;simp only[Free.find]at L
     repeat' split at L
     ·cases L
      obtain⟨a,H,T,K⟩:=hr;obtain⟨c2,k1,k2,k3,_⟩:=rr.row a H;exact⟨c2,k1,k2.trans T,k3 K⟩
     ·cases L;exact⟨hr.1.bG (rr.block _ hr.1.lt hr.2),hr.2⟩
     ·cases L
      obtain⟨a,H,T⟩:=hr;obtain⟨c2,k1,_,_,k4⟩:=rr.row a H;exact⟨c2,k1,k4 T⟩
     ·cases L
    ·have r:lx g 42 (l.flatMap aK) (aK i) w1 d:=r;obtain⟨H,T,a,K,N⟩:=h;obtain⟨c2,k1,k2,_,_⟩:=r.row a K;refine⟨⟨r.os.trans H.os,r.tape.trans H.tape,r.output.trans H.output,fO H.size r.size,λk hk=>(r.block k (nX hk H.size) (by omega)).trans (H.block k hk)⟩,T.bG (r.block _ T.lt nl),c2,k1,k2.trans N⟩
    simp only[eJ,dT];clear i' bq ld;iterate 2 (apply Fre2.ae (Free.wq rfl) rfl;(intro w' Y hA;obtain⟨q0,q1,q2⟩:=Y;clear hA q0 q1 q2;go_light;go_simp<;>rfl);(try simp only[Pt]))
    apply Fre2.aR rfl rfl
    ·intro w' Y hA;obtain⟨o,_,a,K,N⟩:=Y;obtain⟨d,C,d8,z⟩:=qH (P:=Tryz.prog) w' 56 56 42 i0 Tryz.underlying56 HI.out F.out bT cm g 0 (n+1) a K A c l (f9.out.below o (aL _)) (by have:=EN.out;omega) N;rw[nW, <-EN.out]at C;rw[Nat.zero_mul]at z;refine Free.cq (v:= .slice (some ⟨g,0,none⟩) n (n+1)) (w':=d) (dL (s:= .tmp 68) (x:= .tmp 69) rfl rfl rfl C) ⟨?_,0,rfl,_,z, ?_,mn a _⟩
     ·exact lx.Jq d8 K z (Apk.fH _ _ _ (by rw[HX.out,N];omega)) (λ_=>mn a _) (tJ a _ _)
     ·rw[Apk.fH _ _ _ (by rw[HX.out,N];omega)];exact N
    intro y0;simp only[Pt];apply Fre2.ae rfl rfl
    ·intro w' Y hA;exact oC rfl (by rfl) Y.2.1 Tryz.underlying42 rfl (by rw[tY,bT];kernel_rfl)
    simp only[Pt];apply Fre2.aR rfl rfl
    ·intro w' Y hA;refine Free.cq (v:= .slice (some ⟨w'.heap.size,0,none⟩) 1 1) (w':=w'.alloc (.cells (aK i).toArray 42)) ?_ ⟨lx.grow ((Below.refl _ _).alloc (aL _) _),w'.heap.size,rfl,ay.new w' (aK i) 42, ?_⟩
     ·have o:=Apk.fj (P:=Tryz.prog) w' 56 42 i0 _ Tryz.underlying56 HI.out gc.out (aK i).toArray (by rw[tY,bT,F.out]) (by rw[F.out];decide) (by rw[F.out];decide);exact fB rfl o
     ·obtain⟨_,_,a,K,_⟩:=Y
      have:=(iS.1 K).1;omega
    intro J;simp only[Pt];apply Fre2.aR rfl rfl
    ·intro w' Y hA;have h6:ay w' J (aK i) 42/\J≠g:=hA _ dH (by kernel_rfl);obtain⟨a,K,N,h5⟩:∃a:Array Value,w'.heap[g]? =some (.cells a 42 (0,0))/\a.size=(n+1)*7/\a.toList.take (l.flatMap aK).length=l.flatMap aK:=hA _ (iB _ dH) (by kernel_rfl);have n8:SL w' 7 aK (some ⟨J,0,none⟩) [i]:=cO bT h6.1 (λj u hu=>by simpa using hu);obtain⟨d,C,d8,z⟩:=qH (P:=Tryz.prog) w' 56 56 42 i0 Tryz.underlying56 HI.out F.out bT cm g n (n+1) a K (some ⟨J,0,none⟩) 1 [i] n8 (aL _) N;have e1: [i].flatMap aK=aK i:=by simp
     rw[e1, <-HX.out]at z;have B:=uz a (l.flatMap aK) (aK i) h5 (by rw[N,HX.out,bT];omega);refine Free.cq (v:= .slice (some ⟨g,0,none⟩) (n+1) (n+1)) (w':=d) (dL (s:= .tmp 70) (x:= .tmp 72) rfl rfl rfl C) ⟨?_,0,rfl,_,z,B⟩;exact lx.Jq d8 K z (Apk.fH _ _ _ (by rw[HX.out,N,bT];omega)) (λ_=>by rw[B];simp) (λ_=>B)
    intro y1;simp only[Pt];apply Fre2.ax;intro wz io hg hh;obtain⟨a,h7,h8⟩:∃a:Array Value,wz.heap[g]? =some (.cells a 42 (0,0))/\a.toList=l.flatMap aK++aK i:=hh _ dH;have ip:SL wz 7 aK (some ⟨g,0,none⟩) (l++ [i]):=cO bT h7 (λj u hu=>by
     have e1:(l++ [i]).flatMap aK=a.toList:=by rw[h8];simp
     rw[e1]at hu;simpa using hu)
    have m8:=h_ (f.out (.returned (.tuple #[.slice (some ⟨g,0,none⟩) (n+1) (n+1), .int .i64 0])) wz io.1 (.inr ⟨D.out,g,no,rfl,ip⟩));simp only[fm,fo];clear io hg hh h7 h8 ip f HI gc F HX f9 EN EA HZ
    go_wp2
    go_ret2
    exact m8.out
   ·have m9:(ms !=0)=true:=by simp[d9]
    go_wp2_with fail
    go_ret2
    exact f.out _ _ I.out (.inl ⟨by rw[D.out];exact d9,by rw[D.out];rfl⟩)
  ·have he:E=ce:=by rw[HE.out,if_neg U]
   have D:=h_ he;have m9:(ce !=0)=true:=by simp[U]
   clear HE he;go_wp2_with fail
   go_ret2
   exact f.out _ _ m.out (.inl ⟨by rw[D.out];exact U,by rw[D.out];rfl⟩)
 ·have he:eI l house secret day body=1:=by unfold eI;rw[if_neg hs]
  simp only[if_neg hs]at S;have C0:=h_ S;have HE:=h_ he;obtain⟨y,ey⟩:=x_ (cQ secret)
  rw[<-ey]at C0;clear S he h L hT ey;go_enter Tryz.func82,Tryz.ntmps82;go_wp2_with fail;refine(C0.out _).mono ?_;rintro e w' ⟨rfl,rfl⟩;go_wp2_with fail
  go_ret2
  exact⟨Below.refl _ _, .inl ⟨by rw[HE.out];decide,by rw[HE.out];rfl⟩⟩
end Go.Proofs.YtkmbmfengcdmoaaGreatDoor
