/- Package chain: Append. Condition: the variables of digest and of strconv hold their numbers. -/
import Derived.Test.YtkmbmfengcdmoaaGreatDoorZAF
import Derived.Test.YtkmbmfengcdmoaaGreatDoorZAA
import Derived.OwnWalk
import Derived.Laws.MakeOwn
set_option maxRecDepth 100000
set_option linter.all false
namespace Go.Proofs.YtkmbmfengcdmoaaGreatDoor
open Go.RowKit Go.ay Go.Opn
def iD(l:List aV)(k:Nat)(e:aV)(house pub:Int):Int:=
 if gD (l.take k) e house=0 then(if(e.prev.toList==(fF (l.take k)).toList)then(if mu pub (gb e) e.r e.s then 0 else 17)else 17)else gD (l.take k) e house
def gi(l:List aV)(house pub:Int):Nat->Nat->Int×Int
 |0,_=>(0, -1)
 |n+1,k=>match l[k]? with
  |none=>(0, -1)
  |some e=>if iD l k e house pub=0 then gi l house pub n (k+1)else(iD l k e house pub,k)
def gS(house pub:Int):Prop:=0<=house/\house<12/\1<=pub/\pub<2147483647
instance (house pub:Int):Decidable (gS house pub):=by unfold gS;infer_instance
def iA(l:List aV)(house pub:Int):Int×Int:=if gS house pub then gi l house pub l.length 0 else(1, -1)
theorem sh{l:List aV}{house pub:Int}{n k:Nat}{e:aV}(h:l[k]? =some e)(h0:iD l k e house pub=0):gi l house pub (n+1) k=gi l house pub n (k+1):=by rw[gi,h];simp only;rw[if_pos h0]
theorem pS{l:List aV}{house pub:Int}{n k:Nat}{e:aV}(h:l[k]? =some e)(h0:iD l k e house pub≠0):gi l house pub (n+1) k=(iD l k e house pub,(k:Int)):=by rw[gi,h];simp only;rw[if_neg h0]
def RK(w:World)(l:List aV)(house pub:Int)(i:Value)(wr:World):Prop:=
 ∃k:Nat,k<=l.length/\i= .int .i64 k/\Below w.heap.size w wr/\iA l house pub=gi l house pub (l.length-k) k
def Ca(w:World)(r:Int×Int)(e:Ending)(w':World):Prop:=e= .returned (.tuple #[.int .i64 r.1, .int .i64 r.2])/\Below w.heap.size w w'
set_option maxHeartbeats 8000000 in
theorem uM(A:Option Addr)(c:Nat)(l:List aV)(house pub:Int)(w:World)(h:SL w 7 aK A l)(hl:l.length<=9223372036854775807)(hlc:l.length<=c)(hf:PG l)(hT:cB w):
  Calls Tryz.prog 27 #[.slice A l.length c, .int .i64 house, .int .i64 pub] w (Ca w (iA l house pub)):=by
 by_cases hh0:house<0
 ·have hm:iA l house pub=(1, -1):=by unfold iA;rw[if_neg (by unfold gS;omega)]
  have HM:=h_ hm;clear hm;go_enter Tryz.func27,Tryz.ntmps27
  go_wp2
  go_ret2
  exact⟨by rw[HM.out];rfl,Below.refl _ _⟩
 by_cases hh1:12<=house
 ·have hm:iA l house pub=(1, -1):=by unfold iA;rw[if_neg (by unfold gS;omega)]
  have HM:=h_ hm;clear hm;go_enter Tryz.func27,Tryz.ntmps27
  go_wp2
  go_ret2
  exact⟨by rw[HM.out];rfl,Below.refl _ _⟩
 by_cases hp0:pub<1
 ·have hm:iA l house pub=(1, -1):=by unfold iA;rw[if_neg (by unfold gS;omega)]
  have HM:=h_ hm;clear hm;go_enter Tryz.func27,Tryz.ntmps27
  go_wp2
  go_ret2
  exact⟨by rw[HM.out];rfl,Below.refl _ _⟩
 by_cases hp1:2147483647<=pub
 ·have hm:iA l house pub=(1, -1):=by unfold iA;rw[if_neg (by unfold gS;omega)]
  have HM:=h_ hm;clear hm;go_enter Tryz.func27,Tryz.ntmps27
  go_wp2
  go_ret2
  exact⟨by rw[HM.out];rfl,Below.refl _ _⟩
 have HST:Hid (RK w l house pub (.int .i64 0) w):=⟨0,gu _,rfl,Below.refl _ _,by unfold iA;rw[if_pos (by unfold gS;omega)];rfl⟩
 have HS:=h_ h;have HF:=h_ hf;have HT:=h_ hT;obtain⟨R,eR⟩:=x_ (iA l house pub)
 rw[<-eR];have ER:=h_ eR;clear h hf hT eR;go_enter Tryz.func27,Tryz.ntmps27;go_wp2_with fail
 go_loopw [27] (λi wr=>RK w l house pub i wr) (λi _=>l.length- (intOf i).toNat)
 case atStart=>exact HST.out
 case round=>
  clear HST;obtain⟨k,hk,rfl,hb,hR⟩:=hrel;rw[<-ER.out]at hR;by_cases hlt:k<l.length
  ·obtain⟨x,hx⟩:∃x,l[k]? =some x:=⟨_,eH hlt⟩
   obtain⟨bb,off,rfl,hc⟩:=(HS.out.below hb (aL _)).at_ hx;obtain⟨n,hn⟩:∃n,l.length-k=n+1:=⟨l.length-k-1,by omega⟩
   rw[hn]at hR;have hno:iD l k x house pub=0->R=gi l house pub (l.length- (k+1)) (k+1):=λh0=>by
    rw[hR,sh hx h0];congr 1;omega
   have hyes:iD l k x house pub≠0->R=(iD l k x house pub,(k:Int)):=λh0=>by rw[hR,pS hx h0]
   obtain⟨f1,f2,f3⟩:=HF.out x (ue hx);have hft:PG (l.take k):=λe he=>HF.out e (List.mem_of_mem_take he)
   have hlk:(l.take k).length=k:=by rw[jQ];omega
   have HNO:=h_ hno;have HYES:=h_ hyes;obtain⟨ms,ems⟩:=x_ (gD (l.take k) x house)
   obtain⟨pv,epv⟩:=x_ (fF (l.take k))
   obtain⟨tx,etx⟩:=x_ (gb x)
   obtain⟨vb,evb⟩:=x_ (mu pub tx x.r x.s)
   have htx:tx.size<=1000000000000:=by have:=iz f1;rw[etx];omega
   have C1:Hid (∀w':World,Below w.heap.size w w'->Calls Tryz.prog 69 #[.slice (some ⟨bb,off,none⟩) k c, .agg (aK x).toArray, .int .i64 house] w' λen w2=>en= .returned (.int .i64 ms)/\Below w'.heap.size w' w2):=λw' h=>by
    have:=yM (some ⟨bb,off,none⟩) c (l.take k) x house w' (by omega) ((HS.out.below h (aL _)).take k);rw[hlk, <-ems]at this;exact this
   have C2:Hid (∀w':World,Below w.heap.size w w'->Calls Tryz.prog 70 #[.slice (some ⟨bb,off,none⟩) k c] w' λen w2=>en= .returned (.string pv)/\Below w'.heap.size w' w2):=λw' h=>by
    have:=zc (some ⟨bb,off,none⟩) c (l.take k) w' ((HS.out.below h (aL _)).take k) (by omega) hft (HT.out.below h (aL _));rw[hlk, <-epv]at this;exact this
   have C3:Hid (∀w':World,Below w.heap.size w w'->Calls Tryz.prog 16 #[.agg (aK x).toArray] w' λen w2=>en= .returned (.string tx)/\Below w'.heap.size w' w2):=λw' h=>by
    have:=ic x w' f1 f2 f3 (HT.out.below h (aL _));rw[<-etx]at this;exact this
   have C4:Hid (∀w':World,Below w.heap.size w w'->Calls Tryz.prog 15 #[.int .i64 pub, .string tx, .agg #[.int .i64 x.r, .int .i64 x.s]] w' λen w2=>en= .returned (.bool vb)/\Below w'.heap.size w' w2):=λw' h=>by
    have:=xt pub tx x.r x.s w' htx (HT.out.below h (aL _));rw[<-evb]at this;exact this
   have c1:iD l k x house pub=if ms=0 then(if(x.prev.toList==pv.toList)then(if vb then 0 else 17)else 17)else ms:=by unfold iD;rw[<-ems, <-epv, <-etx, <-evb]
   have CH:=h_ c1;obtain⟨xh,xq,xd,xp,xb,xr,xs⟩:=x;have i0:=hc 0 _ rfl;have i1:=hc 1 _ rfl;have i2:=hc 2 _ rfl;have i3:=hc 3 _ rfl;have i4:=hc 4 _ rfl;have i5:=hc 5 _ rfl;have i6:=hc 6 _ rfl;simp only[<-Nat.add_assoc,KO]at i0 i1 i2 i3 i4 i5 i6;have hki:(k:Int)<(l.length:Int):=by omega
   have k00:(0:Int)<=(k:Int):=by omega
   have hkc:(k:Int)<=(c:Int):=by omega
   have HB:=h_ hb;clear hc hn hR hno hyes f1 f2 f3 hft hlk ems epv etx evb htx c1 hb hx;go_wp2_with fail;obtain⟨V,eV⟩:=x_ (wr.alloc (.cells #[.int .i64 xh, .int .i64 xq, .int .i64 xd, .string xp, .string xb, .int .i64 xr, .int .i64 xs] 42))
   have bk:ay V wr.heap.size [.int .i64 xh, .int .i64 xq, .int .i64 xd, .string xp, .string xb, .int .i64 xr, .int .i64 xs] 42:=by rw[eV];exact ay.new wr [.int .i64 xh, .int .i64 xq, .int .i64 xd, .string xp, .string xb, .int .i64 xr, .int .i64 xs] 42
   have hbV:Below w.heap.size w V:=by rw[eV];exact HB.out.alloc HB.out.size _
   rw[<-eV];have c0:=bk.ag 0 _ rfl;have c1:=bk.ag 1 _ rfl;have c2:=bk.ag 2 _ rfl;have c3:=bk.ag 3 _ rfl;have c4:=bk.ag 4 _ rfl;have c5:=bk.ag 5 _ rfl;have c6:=bk.ag 6 _ rfl;refine Free.ai 6 [(5, .det (.int .i64 ms))] (λw2=>Below w.heap.size w w2/\w2.cell? ⟨wr.heap.size,0,none⟩=some (.int .i64 xh)/\w2.cell? ⟨wr.heap.size,1,none⟩=some (.int .i64 xq)/\w2.cell? ⟨wr.heap.size,2,none⟩=some (.int .i64 xd)/\w2.cell? ⟨wr.heap.size,3,none⟩=some (.string xp)/\w2.cell? ⟨wr.heap.size,4,none⟩=some (.string xb)/\w2.cell? ⟨wr.heap.size,5,none⟩=some (.int .i64 xr)/\w2.cell? ⟨wr.heap.size,6,none⟩=some (.int .i64 xs)) (by kernel_rfl) (by kernel_rfl) ?_ ⟨hbV.drew,c0,c1,c2,c3,c4,c5,c6⟩ (λ_ _ h g=>⟨h.1.trans (Below.mono g h.1.size),aQ h.2.1 g,aQ h.2.2.1 g,aQ h.2.2.2.1 g,aQ h.2.2.2.2.1 g,aQ h.2.2.2.2.2.1 g,aQ h.2.2.2.2.2.2.1 g,aQ h.2.2.2.2.2.2.2 g⟩) ?_
   ·intro j mk r hf;simp only[Free.find]at hf
    repeat' split at hf
    all_goals (first|cases hf|skip)
   simp only[eJ,dT];clear c0 c1 c2 c3 c4 c5 c6 i0 i1 i2 i3 i4 i5 i6 eV hbV bk HB;iterate 6 (first|(apply Free.aC rfl rfl;(intro w' hB hA;refine Free.au (f:=69) (args:= #[.slice (some ⟨bb,off,none⟩) k c, .agg (aK ⟨xh,xq,xd,xp,xb,xr,xs⟩).toArray, .int .i64 house]) (by clear hB hA;go_simp<;>rfl) ?_;refine(C1.out _ hB.1).mono ?_;rintro e w3 ⟨rfl,hb3⟩;exact⟨_,rfl,hb3,rfl⟩);simp only[Pt])|(apply Free.ae (Free.wq rfl) rfl;(intro w' hB hA;obtain⟨qT,q0,q1,q2,q3,q4,q5,q6⟩:=hB;clear hA qT;go_light;go_simp<;>rfl);(try simp only[Pt])))
   apply Free.ax;intro wz hBz hg _;simp only[fm,fo];have HBZ:=h_ hBz.1;obtain⟨_,z0,z1,z2,z3,z4,z5,z6⟩:=hBz;clear hg C1;by_cases hms:ms=0
   ·subst hms;have p0:wz.drew.cell? ⟨wr.heap.size,0,none⟩=some (.int .i64 xh):=z0;have p1:wz.drew.cell? ⟨wr.heap.size,1,none⟩=some (.int .i64 xq):=z1;have p2:wz.drew.cell? ⟨wr.heap.size,2,none⟩=some (.int .i64 xd):=z2;have p3:wz.drew.cell? ⟨wr.heap.size,3,none⟩=some (.string xp):=z3;have p4:wz.drew.cell? ⟨wr.heap.size,4,none⟩=some (.string xb):=z4;have p5:wz.drew.cell? ⟨wr.heap.size,5,none⟩=some (.int .i64 xr):=z5;have p6:wz.drew.cell? ⟨wr.heap.size,6,none⟩=some (.int .i64 xs):=z6;clear z0 z1 z2 z3 z4 z5 z6;cases hpp:(xp.toList==pv.toList)with
    |false=>
     have hr:R=(17,(k:Int)):=by have:=CH.out;simp only[uf,hpp,GA,B6]at this;have h2:=HYES.out (by rw[this];decide);rw[this]at h2;exact h2
     have HR:=h_ hr;clear hr;go_wp2_with fail;refine Free.ai 16 [(5, .det (.string pv))] (λw2=>Below w.heap.size w w2/\w2.cell? ⟨wr.heap.size,0,none⟩=some (.int .i64 xh)/\w2.cell? ⟨wr.heap.size,1,none⟩=some (.int .i64 xq)/\w2.cell? ⟨wr.heap.size,2,none⟩=some (.int .i64 xd)/\w2.cell? ⟨wr.heap.size,3,none⟩=some (.string xp)/\w2.cell? ⟨wr.heap.size,4,none⟩=some (.string xb)/\w2.cell? ⟨wr.heap.size,5,none⟩=some (.int .i64 xr)/\w2.cell? ⟨wr.heap.size,6,none⟩=some (.int .i64 xs)) (by kernel_rfl) (by kernel_rfl) ?_ ⟨HBZ.out.drew,p0,p1,p2,p3,p4,p5,p6⟩ (λ_ _ h g=>⟨h.1.trans (Below.mono g h.1.size),aQ h.2.1 g,aQ h.2.2.1 g,aQ h.2.2.2.1 g,aQ h.2.2.2.2.1 g,aQ h.2.2.2.2.2.1 g,aQ h.2.2.2.2.2.2.1 g,aQ h.2.2.2.2.2.2.2 g⟩) ?_
     ·intro j mk r hf;simp only[Free.find]at hf
      repeat' split at hf
      all_goals (first|cases hf|skip)
     simp only[eJ,dT];clear p0 p1 p2 p3 p4 p5 p6;iterate 16 (first|(apply Free.dw (by exact fk rfl rfl rfl rfl);simp only[Pt])|(apply Free.aC rfl rfl;(intro w' hB hA;refine Free.au (f:=70) (args:= #[.slice (some ⟨bb,off,none⟩) k c]) (by clear hB hA;go_simp<;>rfl) ?_;refine(C2.out _ hB.1).mono ?_;rintro e w3 ⟨rfl,hb3⟩;exact⟨_,rfl,hb3,rfl⟩);simp only[Pt])|(apply Free.ae (Free.wq rfl) rfl;(intro w' hB hA;obtain⟨qT,q0,q1,q2,q3,q4,q5,q6⟩:=hB;clear hA qT;go_light;go_simp<;>rfl);(try simp only[Pt])))
     apply Free.ax;intro wy hBz hg _;simp only[fm,fo];have HBY:=h_ hBz.1;clear hBz hg C2 C3 C4;go_wp2_with fail
     go_ret2
     exact⟨by rw[HR.out];rfl,HBY.out⟩
    |true=>
     cases vb with
     |true=>
      have hr:R=gi l house pub (l.length- (k+1)) (k+1):=HNO.out (by have:=CH.out;simpa[hpp]using this);have HR:=h_ hr;clear hr;go_wp2_with fail;refine Free.ai 16 [(5, .det (.string pv)),(10, .det (.string tx)),(13, .det (.bool true))] (λw2=>Below w.heap.size w w2/\w2.cell? ⟨wr.heap.size,0,none⟩=some (.int .i64 xh)/\w2.cell? ⟨wr.heap.size,1,none⟩=some (.int .i64 xq)/\w2.cell? ⟨wr.heap.size,2,none⟩=some (.int .i64 xd)/\w2.cell? ⟨wr.heap.size,3,none⟩=some (.string xp)/\w2.cell? ⟨wr.heap.size,4,none⟩=some (.string xb)/\w2.cell? ⟨wr.heap.size,5,none⟩=some (.int .i64 xr)/\w2.cell? ⟨wr.heap.size,6,none⟩=some (.int .i64 xs)) (by kernel_rfl) (by kernel_rfl) ?_ ⟨HBZ.out.drew,p0,p1,p2,p3,p4,p5,p6⟩ (λ_ _ h g=>⟨h.1.trans (Below.mono g h.1.size),aQ h.2.1 g,aQ h.2.2.1 g,aQ h.2.2.2.1 g,aQ h.2.2.2.2.1 g,aQ h.2.2.2.2.2.1 g,aQ h.2.2.2.2.2.2.1 g,aQ h.2.2.2.2.2.2.2 g⟩) ?_
      ·intro j mk r hf;simp only[Free.find]at hf
       repeat' split at hf
       all_goals (first|cases hf|skip)
      simp only[eJ,dT];clear p0 p1 p2 p3 p4 p5 p6;iterate 16 (first|(apply Free.aC rfl rfl;(intro w' hB hA;refine Free.au (f:=70) (args:= #[.slice (some ⟨bb,off,none⟩) k c]) (by clear hB hA;go_simp<;>rfl) ?_;refine(C2.out _ hB.1).mono ?_;rintro e w3 ⟨rfl,hb3⟩;exact⟨_,rfl,hb3,rfl⟩);simp only[Pt])|(apply Free.aC rfl rfl;(intro w' hB hA;refine Free.au (f:=16) (args:= #[.agg (aK ⟨xh,xq,xd,xp,xb,xr,xs⟩).toArray]) (by clear hB hA;go_simp<;>rfl) ?_;refine(C3.out _ hB.1).mono ?_;rintro e w3 ⟨rfl,hb3⟩;exact⟨_,rfl,hb3,rfl⟩);simp only[Pt])|(apply Free.aC rfl rfl;(intro w' hB hA;refine Free.au (f:=15) (args:= #[.int .i64 pub, .string tx, .agg #[.int .i64 xr, .int .i64 xs]]) (by clear hB hA;go_simp<;>rfl) ?_;refine(C4.out _ hB.1).mono ?_;rintro e w3 ⟨rfl,hb3⟩;exact⟨_,rfl,hb3,rfl⟩);simp only[Pt])|(apply Free.ae (Free.wq rfl) rfl;(intro w' hB hA;obtain⟨qT,q0,q1,q2,q3,q4,q5,q6⟩:=hB;clear hA qT;go_light;go_simp<;>rfl);(try simp only[Pt])))
      apply Free.ax;intro wy hBz hg _;simp only[fm,fo];have HBY:=h_ hBz.1;have key:RK w l house pub (.int .i64 ((k:Int)+1)) wy:=⟨k+1,hlt,by go_num,HBY.out,by rw[<-ER.out];exact HR.out⟩
      have KEY:=h_ key;clear hBz hg C2 C3 C4 key;go_wp2_with fail
      go_roundw
      case rel=>
       go_light;have key:=KEY.out;first|exact key|((repeat apply Exists.intro);exact⟨key,rfl⟩)
      case measure=>simp[intOf];omega
     |false=>
      have hr:R=(17,(k:Int)):=by
       have h1:iD l k ⟨xh,xq,xd,xp,xb,xr,xs⟩ house pub=17:=by have:=CH.out;simpa[hpp]using this
       have h2:=HYES.out (by rw[h1];decide);rw[h1]at h2;exact h2
      have HR:=h_ hr;clear hr;go_wp2_with fail;refine Free.ai 16 [(5, .det (.string pv)),(10, .det (.string tx)),(13, .det (.bool false))] (λw2=>Below w.heap.size w w2/\w2.cell? ⟨wr.heap.size,0,none⟩=some (.int .i64 xh)/\w2.cell? ⟨wr.heap.size,1,none⟩=some (.int .i64 xq)/\w2.cell? ⟨wr.heap.size,2,none⟩=some (.int .i64 xd)/\w2.cell? ⟨wr.heap.size,3,none⟩=some (.string xp)/\w2.cell? ⟨wr.heap.size,4,none⟩=some (.string xb)/\w2.cell? ⟨wr.heap.size,5,none⟩=some (.int .i64 xr)/\w2.cell? ⟨wr.heap.size,6,none⟩=some (.int .i64 xs)) (by kernel_rfl) (by kernel_rfl) ?_ ⟨HBZ.out.drew,p0,p1,p2,p3,p4,p5,p6⟩ (λ_ _ h g=>⟨h.1.trans (Below.mono g h.1.size),aQ h.2.1 g,aQ h.2.2.1 g,aQ h.2.2.2.1 g,aQ h.2.2.2.2.1 g,aQ h.2.2.2.2.2.1 g,aQ h.2.2.2.2.2.2.1 g,aQ h.2.2.2.2.2.2.2 g⟩) ?_
      ·intro j mk r hf;simp only[Free.find]at hf
       repeat' split at hf
       all_goals (first|cases hf|skip)
      simp only[eJ,dT];clear p0 p1 p2 p3 p4 p5 p6;iterate 16 (first|(apply Free.aC rfl rfl;(intro w' hB hA;refine Free.au (f:=70) (args:= #[.slice (some ⟨bb,off,none⟩) k c]) (by clear hB hA;go_simp<;>rfl) ?_;refine(C2.out _ hB.1).mono ?_;rintro e w3 ⟨rfl,hb3⟩;exact⟨_,rfl,hb3,rfl⟩);simp only[Pt])|(apply Free.aC rfl rfl;(intro w' hB hA;refine Free.au (f:=16) (args:= #[.agg (aK ⟨xh,xq,xd,xp,xb,xr,xs⟩).toArray]) (by clear hB hA;go_simp<;>rfl) ?_;refine(C3.out _ hB.1).mono ?_;rintro e w3 ⟨rfl,hb3⟩;exact⟨_,rfl,hb3,rfl⟩);simp only[Pt])|(apply Free.aC rfl rfl;(intro w' hB hA;refine Free.au (f:=15) (args:= #[.int .i64 pub, .string tx, .agg #[.int .i64 xr, .int .i64 xs]]) (by clear hB hA;go_simp<;>rfl) ?_;refine(C4.out _ hB.1).mono ?_;rintro e w3 ⟨rfl,hb3⟩;exact⟨_,rfl,hb3,rfl⟩);simp only[Pt])|(apply Free.ae (Free.wq rfl) rfl;(intro w' hB hA;obtain⟨qT,q0,q1,q2,q3,q4,q5,q6⟩:=hB;clear hA qT;go_light;go_simp<;>rfl);(try simp only[Pt])))
      apply Free.ax;intro wy hBz hg _;simp only[fm,fo];have HBY:=h_ hBz.1;clear hBz hg C2 C3 C4;go_wp2_with fail
      go_ret2
      exact⟨by rw[HR.out];rfl,HBY.out⟩
   ·have hr:R=(ms,(k:Int)):=by have h1:=CH.out;rw[if_neg hms]at h1;have h2:=HYES.out (by rw[h1];exact hms);rw[h1]at h2;exact h2
    have HR:=h_ hr;have hmb:(ms !=0)=true:=by simp[hms]
    clear hr;go_wp2_with fail
    go_ret2
    exact⟨by rw[HR.out];rfl,HBZ.out⟩
  ·obtain rfl:k=l.length:=by omega
   have hm:R=(0, -1):=by rw[hR,Nat.sub_self];rfl
   have HM:=h_ hm;have HB:=h_ hb;clear hm hb hR;go_wp2_with fail
   go_ret2
   exact⟨by rw[HM.out];rfl,HB.out⟩
def nM(e:aV)(pub:Int):Bool:=mu pub (gb e) e.r e.s
def qK(a b:aV):Bool:=decide (a.house=b.house/\a.seq=b.seq/\a.day=b.day/\a.prev.toList=b.prev.toList/\a.body.toList=b.body.toList/\a.r=b.r/\a.s=b.s)
end Go.Proofs.YtkmbmfengcdmoaaGreatDoor
namespace Go.Proofs.YtkmbmfengcdmoaaGreatDoor

theorem je(a:ByteArray):a.toList=a.data.toList:=Go.ByteArray.toList_eq a
theorem BQ{a b:ByteArray}(h:a.toList=b.toList):a=b:=by rw[je,je]at h;cases a;cases b;simp at h;subst h;rfl
theorem rI(a b:aV):qK a b=true↔a=b:=by
 unfold qK;rw[decide_eq_true_iff];constructor
 ·rintro⟨h1,h2,h3,h4,h5,h6,h7⟩;have h4:=BQ h4;have h5:=BQ h5;cases a;cases b;simp_all
 ·rintro rfl;exact⟨rfl,rfl,rfl,rfl,rfl,rfl,rfl⟩
theorem pR{l:List aV}{house pub:Int}:∀(n k:Nat),k+n=l.length->(∀i e,k<=i->l[i]? =some e->iD l i e house pub=0)->gi l house pub n k=(0, -1)
 |0,_,_,_=>rfl
 |n+1,k,hn,h=>by
  obtain⟨e,he⟩:∃e,l[k]? =some e:=⟨_,eH (by omega)⟩
  rw[sh he (h k e (aL _) he)];exact pR n (k+1) (by omega) (λi e hi he=>h i e (by omega) he)
set_option maxRecDepth 10000 in
theorem si{l:List aV}{house pub:Int}:∀(n k:Nat),k+n=l.length->(gi l house pub n k).1=0->∀i e,k<=i->l[i]? =some e->iD l i e house pub=0
 |0,k,hn,_,i,e,hi,he=>by
  have:=(jS.1 he).1;omega
 |n+1,k,hn,h,i,e,hi,he=>by
  obtain⟨x,hx⟩:∃x,l[k]? =some x:=⟨_,eH (by omega)⟩
  by_cases h0:iD l k x house pub=0
  ·rw[sh hx h0]at h;by_cases hik:i=k
   ·subst hik;rw[hx]at he;cases he
    exact h0
   ·exact si n (k+1) (by omega) h i e (by omega) he
  ·rw[pS hx h0]at h;dsimp only at h;exact(h0 h).elim
theorem kC(l:List aV)(house pub:Int):(iA l house pub).1=0↔gS house pub/\∀i e,l[i]? =some e->iD l i e house pub=0:=by
 unfold iA;by_cases hk:gS house pub
 ·rw[if_pos hk];constructor
  ·intro h;exact⟨hk,λi e he=>si l.length 0 (by omega) h i e (gu _) he⟩
  ·rintro⟨_,h⟩;rw[pR l.length 0 (by omega) (λi e _ he=>h i e he)]
 ·rw[if_neg hk];constructor
  ·intro h;exact absurd h (by decide)
  ·rintro⟨h,_⟩;exact absurd h hk
theorem Ou{l:List aV}{house pub:Int}(h:(iA l house pub).1=0):iA l house pub=(0, -1):=by obtain⟨hk,ha⟩:=(kC l house pub).1 h;unfold iA;rw[if_pos hk];exact pR l.length 0 (by omega) (λi e _ he=>ha i e he)
open Go.RowKit Go.ay Go.Opn Go.Apl
theorem IQ:(Tryz.prog.info? 42).map (λi=>(i.zero,i.size,i.bytes))=some (some (.agg #[.int .i64 0, .int .i64 0, .int .i64 0, .string ⟨#[]⟩, .string ⟨#[]⟩, .int .i64 0, .int .i64 0]),7,72):=by kernel_rfl
theorem bT(e:aV):(aK e).length=7:=rfl
theorem cm(e:aV):∀u∈aK e,u.oneCell'=true:=by
 intro u hu;simp only[aK,lC,DR,DW]at hu;rcases hu with rfl|rfl|rfl|rfl|rfl|rfl|rfl<;>rfl
theorem vJ(t:ByteArray):(uB KC t).size=64:=by rw[DL];show(tM KC t).toArray.size=64;simp[zK]
theorem gW(l:List aV):(fF l).size<=64:=by
 unfold fF;cases l.getLast? with
 |none=>exact gu _
 |some e=>exact Nat.le_of_eq (vJ _)
def vn(l:List aV)(house day:Int)(body:ByteArray):aV:=⟨house,l.length,day,fF l,body,0,0⟩
def Fq(l:List aV)(house day:Int)(body:ByteArray):aV:=⟨house,l.length,day,⟨#[]⟩,body,0,0⟩
def dn(l:List aV)(house secret day:Int)(body:ByteArray):aV:=⟨house,l.length,day,fF l,body,lD secret (gb (vn l house day body)),pF secret (gb (vn l house day body))⟩
def eI(l:List aV)(house secret day:Int)(body:ByteArray):Int:=
 if fT secret then(if(iA l house (cQ secret)).1=0 then gD l (Fq l house day body) house else(iA l house (cQ secret)).1)else 1
def B9(w:World)(l:List aV)(house secret day:Int)(body:ByteArray)(e:Ending)(w':World):Prop:=
 Below w.heap.size w w'/\((eI l house secret day body≠0/\e= .returned (.tuple #[.slice none 0 0, .int .i64 (eI l house secret day body)]))\/
  (eI l house secret day body=0/\∃b,w.heap.size<=b/\e= .returned (.tuple #[.slice (some ⟨b,0,none⟩) (l.length+1) (l.length+1), .int .i64 0])/\SL w' 7 aK (some ⟨b,0,none⟩) (l++ [dn l house secret day body])))
def bO:List Value:= [.int .i64 0, .int .i64 0, .int .i64 0, .string ⟨#[]⟩, .string ⟨#[]⟩, .int .i64 0, .int .i64 0]
def Jd(n:Nat):Array Value:=madeCells bO.toArray ((n+1)*7)
theorem AZ(n:Nat):(Jd n).size=(n+1)*7:=size_madeCells _ _
theorem wN(n:Nat)(hn:n<=1000000)(W:World):(Instr.makeSlice 56 (.int .i64 0) (.int .i64 ((n:Int)+1))).run Tryz.prog W= .ok (.slice (some ⟨W.heap.size,0,none⟩) 0 (n+1)) (W.alloc (.cells (Jd n) 42)):=by
 obtain⟨i,hi,hz0,hz1,hz2⟩:=info_parts IQ;have h:=run_make (P:=Tryz.prog) W 56 42 i _ Tryz.underlying56 hi hz0 .i64 .i64 0 ((n:Int)+1) (by omega) (by omega) (by rw[hz2];omega) (by omega);rw[h,hz1];have e:((n:Int)+1).toNat=n+1:=by omega
 rw[e];rfl
set_option maxHeartbeats 4000000 in
theorem KW(A:Option Addr)(c:Nat)(l:List aV)(house secret day:Int)(body:ByteArray)(w:World)(h:SL w 7 aK A l)(hl:l.length<=1000000)(hlc:l.length<=c)(hf:PG l)
  (hh0: -9223372036854775808<=house) (hh1:house<=9223372036854775807) (hd0: -9223372036854775808<=day) (hd1:day<=9223372036854775807) (hb:body.size<=1000000000) (hT:cB w):
  Calls Tryz.prog 82 #[.slice A l.length c, .int .i64 house, .int .i64 secret, .int .i64 day, .string body] w (B9 w l house secret day body):=by
 have c0:=λw=>rQ secret w
 unfold lA at c0;by_cases hs:fT secret
 ·simp only[if_pos hs]at c0;obtain⟨E,eE⟩:=x_ (eI l house secret day body)
  obtain⟨y,ey⟩:=x_ (cQ secret)
  have hE:E=if(iA l house y).1=0 then gD l (Fq l house day body) house else(iA l house y).1:=by rw[eE,ey];unfold eI;rw[if_pos hs]
  have POST:Hid (∀e w',Below w.heap.size w w'->((E≠0/\e= .returned (.tuple #[.slice none 0 0, .int .i64 E]))\/
    (E=0/\∃b,w.heap.size<=b/\e= .returned (.tuple #[.slice (some ⟨b,0,none⟩) (l.length+1) (l.length+1), .int .i64 0])/\SL w' 7 aK (some ⟨b,0,none⟩) (l++ [dn l house secret day body])))->B9 w l house secret day body e w'):=by
   intro e w' h1 h2;rw[eE]at h2;exact⟨h1,h2⟩
  have C0:=h_ c0;have C1:Hid (∀w',Below w.heap.size w w'->Calls Tryz.prog 27 #[.slice A l.length c, .int .i64 house, .int .i64 y] w' (Ca w' (iA l house y))):=λw' hb=>uM A c l house y w' (h.below hb (aL _)) (by omega) hlc hf (hT.below hb (aL _))
  have C2:Hid (∀w',Below w.heap.size w w'->Calls Tryz.prog 69 #[.slice A l.length c, .agg (aK (Fq l house day body)).toArray, .int .i64 house] w' λen w2=>en= .returned (.int .i64 (gD l (Fq l house day body) house))/\Below w'.heap.size w' w2):=λw' hb=>yM A c l _ house w' (by omega) (h.below hb (aL _))
  have C3:Hid (∀w',Below w.heap.size w w'->Calls Tryz.prog 70 #[.slice A l.length c] w' λen w2=>en= .returned (.string (fF l))/\Below w'.heap.size w' w2):=λw' hb=>zc A c l w' (h.below hb (aL _)) (by omega) hf (hT.below hb (aL _))
  have hps:=gW l;have hok:(vn l house day body).Ok:=by
   refine⟨hh0,hh1, ?_, ?_,hd0,hd1,(by decide:(-9223372036854775808:Int)<=0),(by decide:(0:Int)<=9223372036854775807),(by decide:(-9223372036854775808:Int)<=0),(by decide:(0:Int)<=9223372036854775807), ?_, ?_⟩
   ·show(-9223372036854775808:Int)<=(l.length:Int);omega
   ·show(l.length:Int)<=9223372036854775807;omega
   ·show(fF l).size<=_;omega
   ·show body.size<=_;omega
  have C4:Hid (∀w',Below w.heap.size w w'->Calls Tryz.prog 16 #[.agg (aK (vn l house day body)).toArray] w' λen w2=>en= .returned (.string (gb (vn l house day body)))/\Below w'.heap.size w' w2):=λw' hb2=>ic _ w' hok (by show(fF l).size<=_;omega) hb (hT.below hb2 (aL _))
  have htx:(gb (vn l house day body)).size<=1000000000000:=by have:=iz hok;have e1:(vn l house day body).prev.size<=64:=hps;have e2:(vn l house day body).body.size<=1000000000:=hb;omega
  have C5:Hid (∀w',Below w.heap.size w w'->Calls Tryz.prog 126 #[.int .i64 secret, .string (gb (vn l house day body))] w' λe w2=>e= .returned (.tuple #[.agg #[.int .i64 (lD secret (gb (vn l house day body))), .int .i64 (pF secret (gb (vn l house day body)))], .int .i64 0])/\Below w'.heap.size w' w2):=λw' hb2=>J4 secret _ w' hs htx (hT.below hb2 (aL _))
  have EA:Hid (aK (dn l house secret day body)= [.int .i64 house, .int .i64 l.length, .int .i64 day, .string (fF l), .string body, .int .i64 (lD secret (gb (vn l house day body))), .int .i64 (pF secret (gb (vn l house day body)))]):=rfl;obtain⟨nw,enw⟩:=x_ (dn l house secret day body)
  obtain⟨ms,ems⟩:=x_ (gD l (Fq l house day body) house)
  rw[<-enw]at POST EA;rw[<-ems]at hE C2;obtain⟨pv,epv⟩:=x_ (fF l)
  obtain⟨tx,etx⟩:=x_ (gb (vn l house day body))
  have C4':Hid (∀w',Below w.heap.size w w'->Calls Tryz.prog 16 #[.agg #[.int .i64 house, .int .i64 l.length, .int .i64 day, .string pv, .string body, .int .i64 0, .int .i64 0]] w' λen w2=>en= .returned (.string tx)/\Below w'.heap.size w' w2):=by rw[epv,etx];exact C4
  have C2':Hid (∀w',Below w.heap.size w w'->Calls Tryz.prog 69 #[.slice A l.length c, .agg #[.int .i64 house, .int .i64 l.length, .int .i64 day, .string ⟨#[]⟩, .string body, .int .i64 0, .int .i64 0], .int .i64 house] w' λen w2=>en= .returned (.int .i64 ms)/\Below w'.heap.size w' w2):=C2;rw[<-etx]at C5 EA;rw[<-epv]at C3 EA;obtain⟨sr,esr⟩:=x_ (lD secret tx)
  obtain⟨ss,ess⟩:=x_ (pF secret tx)
  rw[<-esr, <-ess]at C5 EA;rw[<-ey]at C0;obtain⟨cr,ecr⟩:=x_ (iA l house y)
  rw[<-ecr]at C1 hE;obtain⟨ce,ca⟩:=cr;simp only at hE;have HSL:=h_ h;have HE:=h_ hE;obtain⟨n,en⟩:=x_ l.length
  rw[<-en]at POST C1 C2' C3 C4' EA hl hlc⊢;have EN:=h_ en;clear C2 C4 hs eE ey hE c0 hps hok htx hb enw ems epv etx esr ess ecr h hf hT en hh0 hh1 hd0 hd1;go_enter Tryz.func82,Tryz.ntmps82;go_wp2_with fail;refine(C0.out _).mono ?_;rintro e w' ⟨rfl,rfl⟩;clear C0;go_wp2_with fail;refine(C1.out _ (Below.refl _ _)).mono ?_;rintro e w1 ⟨rfl,hb1⟩;have HB1:=h_ hb1;clear hb1 C1;simp only;by_cases hce:ce=0
  ·subst hce;have he:E=ms:=by rw[HE.out,if_pos rfl]
   have HE2:=h_ he;clear HE he;go_wp2_with fail;refine(C2'.out _ (HB1.out.alloc HB1.out.size _)).mono ?_;rintro e w2 ⟨rfl,hb2⟩;have B2:=h_ ((ay.new w1 [.int .i64 house, .int .i64 n, .int .i64 day, .string ⟨#[]⟩, .string body, .int .i64 0, .int .i64 0] 42).below hb2 (by simp));have HB2:=h_ ((HB1.out.alloc HB1.out.size (.cells #[.int .i64 house, .int .i64 n, .int .i64 day, .string ⟨#[]⟩, .string body, .int .i64 0, .int .i64 0] 42)).trans (hb2.mono (by have:=HB1.out.size;simp;omega)));clear hb2 C2';obtain⟨q,eq⟩:=x_ w1.heap.size
   have hq:w.heap.size<=q:=by rw[eq];exact HB1.out.size
   rw[<-eq]at B2⊢;clear eq;by_cases hms:ms=0
   ·subst hms;go_wp2_with fail;refine(C3.out _ HB2.out).mono ?_;rintro e w3 ⟨rfl,hb3⟩;have b3:=B2.out.below hb3 B2.out.lt;have f3:=b3.frozen 3;have g3:=b3.ag 3 _ rfl;have b4:=b3.set 3 (.string pv);simp only[Sa,R9]at b4;have B4:=h_ b4;have c0:=b4.ag 0 _ rfl;have c1:=b4.ag 1 _ rfl;have c2:=b4.ag 2 _ rfl;have c3:=b4.ag 3 _ rfl;have c4:=b4.ag 4 _ rfl;have c5:=b4.ag 5 _ rfl;have c6:=b4.ag 6 _ rfl;have HB4:=h_ ((HB2.out.trans (hb3.mono HB2.out.size)).setCell (p:=⟨q,3,none⟩) hq (.string pv));clear hb3 b3 b4 C3 B2 HB2;go_wp2_with fail;refine(C4'.out _ HB4.out).mono ?_;rintro e w5 ⟨rfl,hb5⟩;have B5:=h_ (B4.out.below hb5 B4.out.lt);have HB5:=h_ (HB4.out.trans (hb5.mono HB4.out.size));clear hb5 C4' B4 HB4 c0 c1 c2 c3 c4 c5 c6 f3 g3;go_wp2_with fail;refine(C5.out _ HB5.out).mono ?_;rintro e w6 ⟨rfl,hb6⟩;have b6:=B5.out.below hb6 B5.out.lt;have f5:=b6.frozen 5;have f6:=b6.frozen 6;have g5:=b6.ag 5 _ rfl;have g6:=b6.ag 6 _ rfl;have b7:=(b6.set 5 (.int .i64 sr)).set 6 (.int .i64 ss);simp only[Sa,R9]at b7;have B7:=h_ b7;have HB7:=h_ (((HB5.out.trans (hb6.mono HB5.out.size)).setCell (p:=⟨q,5,none⟩) hq (.int .i64 sr)).setCell (p:=⟨q,6,none⟩) hq (.int .i64 ss));have hmk:=λW=>wN n hl W
    obtain⟨Z,eZ⟩:=x_ (Jd n)
    have hZ:Z.size=(n+1)*7:=by rw[eZ];exact AZ n
    rw[<-eZ]at hmk;have HZ:=h_ hZ;clear hb6 b6 b7 C5 B5 HB5 eZ hZ;go_wp2_with fail;obtain⟨V,eV⟩:=x_ (((w6.setCell ⟨q,5,none⟩ (.int .i64 sr)).setCell ⟨q,6,none⟩ (.int .i64 ss)).alloc (.cells Z 42))
    obtain⟨g,eg⟩:=x_ w6.heap.size
    have hz6:((w6.setCell ⟨q,5,none⟩ (.int .i64 sr)).setCell ⟨q,6,none⟩ (.int .i64 ss)).heap.size=w6.heap.size:=by simp[World.setCell]
    have hbV:Below w.heap.size w V:=by rw[eV];exact HB7.out.alloc HB7.out.size _
    have bq:ay V q (aK nw) 42:=by rw[eV,EA.out];exact B7.out.alloc _
    have hgV:V.heap[g]? =some (.cells Z 42 (0,0)):=by rw[eV,eg, <-hz6];exact heap_alloc_last _ _
    have hgq:q≠g:=by have:=B7.out.lt;rw[hz6]at this;omega
    have hgw:w.heap.size<=g:=by have:=HB7.out.size;rw[hz6]at this;omega
    rw[<-eV, <-eg];obtain⟨i0,hi,hz0,hz1,hz2⟩:=info_parts IQ;have HI:=h_ hi;have HZ0:=h_ hz0;have HZ1:=h_ hz1;have hXl:(l.flatMap aK).length=n*7:=by rw[jZ bT,EN.out]
    have HX:=h_ hXl
    letI:Fre2.Rel:=⟨lx g 42 (l.flatMap aK) (aK nw),lx.refl,lx.trans⟩
    clear eV eg hz6 hmk B7 HB7 hi hz0 hz1 hz2 f5 f6 g5 g6 hXl;refine Fre2.ai 6 [(2, .ind (λ_=> .slice (some ⟨g,0,none⟩) n (n+1)) (λ_ w2=> ∃cc:Array Value,w2.heap[g]? =some (.cells cc 42 (0,0))/\cc.size=(n+1)*7/\cc.toList.take (l.flatMap aK).length=l.flatMap aK)),
      (4, .ind (λg6=> .slice (some ⟨g6,0,none⟩) 1 1) (λg6 w2=>ay w2 g6 (aK nw) 42/\g6≠g)),
      (5, .ind (λ_=> .slice (some ⟨g,0,none⟩) (n+1) (n+1)) (λ_ w2=> ∃cc:Array Value,w2.heap[g]? =some (.cells cc 42 (0,0))/\cc.toList=l.flatMap aK++aK nw))]
     (λw2=>Below w.heap.size w w2/\ay w2 q (aK nw) 42/\∃cc:Array Value,w2.heap[g]? =some (.cells cc 42 (0,0))/\cc.size=(n+1)*7) (by kernel_rfl) (by kernel_rfl) ?_ ⟨hbV.drew,bq.drew,Z,hgV,HZ.out⟩
     (λw1 w2 h r=> ?_) ?_
    ·intro j mk r hf y w1 w2 hr rr;have rr:lx g 42 (l.flatMap aK) (aK nw) w1 w2:=rr;simp only[Free.find]at hf
     repeat' split at hf
     ·cases hf
      obtain⟨cc,h1,h2,h3⟩:=hr;obtain⟨c2,k1,k2,k3,_⟩:=rr.row cc h1;exact⟨c2,k1,k2.trans h2,k3 h3⟩
     ·cases hf;exact⟨hr.1.bG (rr.block _ hr.1.lt hr.2),hr.2⟩
     ·cases hf
      obtain⟨cc,h1,h2⟩:=hr;obtain⟨c2,k1,_,_,k4⟩:=rr.row cc h1;exact⟨c2,k1,k4 h2⟩
     ·cases hf
    ·have r:lx g 42 (l.flatMap aK) (aK nw) w1 w2:=r;obtain⟨h1,h2,cc,h3,h4⟩:=h;obtain⟨c2,k1,k2,_,_⟩:=r.row cc h3;refine⟨⟨r.os.trans h1.os,r.tape.trans h1.tape,r.output.trans h1.output,fO h1.size r.size,λk hk=>(r.block k (nX hk h1.size) (by omega)).trans (h1.block k hk)⟩,h2.bG (r.block _ h2.lt hgq),c2,k1,k2.trans h4⟩
    simp only[eJ,dT];clear hbV bq hgV;iterate 2 (apply Fre2.ae (Free.wq rfl) rfl;(intro w' hB hA;obtain⟨q0,q1,q2⟩:=hB;clear hA q0 q1 q2;go_light;go_simp<;>rfl);(try simp only[Pt]))
    apply Fre2.aR rfl rfl
    ·intro w' hB hA;obtain⟨hb,_,cc,h3,h4⟩:=hB;obtain⟨w2,hrun,hgr,hhp⟩:=qH (P:=Tryz.prog) w' 56 56 42 i0 Tryz.underlying56 HI.out HZ1.out bT cm g 0 (n+1) cc h3 A c l (HSL.out.below hb (aL _)) (by have:=EN.out;omega) h4;rw[nW, <-EN.out]at hrun;rw[Nat.zero_mul]at hhp;refine Free.cq (v:= .slice (some ⟨g,0,none⟩) n (n+1)) (w':=w2) (dL (s:= .tmp 68) (x:= .tmp 69) rfl rfl rfl hrun) ⟨?_,0,rfl,_,hhp, ?_,mn cc _⟩
     ·exact lx.Jq hgr h3 hhp (Apk.fH _ _ _ (by rw[HX.out,h4];omega)) (λ_=>mn cc _) (tJ cc _ _)
     ·rw[Apk.fH _ _ _ (by rw[HX.out,h4];omega)];exact h4
    intro y0;simp only[Pt];apply Fre2.ae rfl rfl
    ·intro w' hB hA;exact oC rfl (by rfl) hB.2.1 Tryz.underlying42 rfl (by rw[tY,bT];kernel_rfl)
    simp only[Pt];apply Fre2.aR rfl rfl
    ·intro w' hB hA;refine Free.cq (v:= .slice (some ⟨w'.heap.size,0,none⟩) 1 1) (w':=w'.alloc (.cells (aK nw).toArray 42)) ?_ ⟨lx.grow ((Below.refl _ _).alloc (aL _) _),w'.heap.size,rfl,ay.new w' (aK nw) 42, ?_⟩
     ·have hb:=Apk.fj (P:=Tryz.prog) w' 56 42 i0 _ Tryz.underlying56 HI.out HZ0.out (aK nw).toArray (by rw[tY,bT,HZ1.out]) (by rw[HZ1.out];decide) (by rw[HZ1.out];decide);exact fB rfl hb
     ·obtain⟨_,_,cc,h3,_⟩:=hB
      have:=(iS.1 h3).1;omega
    intro g6;simp only[Pt];apply Fre2.aR rfl rfl
    ·intro w' hB hA;have h6:ay w' g6 (aK nw) 42/\g6≠g:=hA _ dH (by kernel_rfl);obtain⟨cc,h3,h4,h5⟩:∃cc:Array Value,w'.heap[g]? =some (.cells cc 42 (0,0))/\cc.size=(n+1)*7/\cc.toList.take (l.flatMap aK).length=l.flatMap aK:=hA _ (iB _ dH) (by kernel_rfl);have hs1:SL w' 7 aK (some ⟨g6,0,none⟩) [nw]:=cO bT h6.1 (λj u hu=>by simpa using hu);obtain⟨w2,hrun,hgr,hhp⟩:=qH (P:=Tryz.prog) w' 56 56 42 i0 Tryz.underlying56 HI.out HZ1.out bT cm g n (n+1) cc h3 (some ⟨g6,0,none⟩) 1 [nw] hs1 (aL _) h4;have e1: [nw].flatMap aK=aK nw:=by simp
     rw[e1, <-HX.out]at hhp;have hlast:=uz cc (l.flatMap aK) (aK nw) h5 (by rw[h4,HX.out,bT];omega);refine Free.cq (v:= .slice (some ⟨g,0,none⟩) (n+1) (n+1)) (w':=w2) (dL (s:= .tmp 70) (x:= .tmp 72) rfl rfl rfl hrun) ⟨?_,0,rfl,_,hhp,hlast⟩;exact lx.Jq hgr h3 hhp (Apk.fH _ _ _ (by rw[HX.out,h4,bT];omega)) (λ_=>by rw[hlast];simp) (λ_=>hlast)
    intro y1;simp only[Pt];apply Fre2.ax;intro wz hBz hg hh;obtain⟨cc,h7,h8⟩:∃cc:Array Value,wz.heap[g]? =some (.cells cc 42 (0,0))/\cc.toList=l.flatMap aK++aK nw:=hh _ dH;have hSL:SL wz 7 aK (some ⟨g,0,none⟩) (l++ [nw]):=cO bT h7 (λj u hu=>by
     have e1:(l++ [nw]).flatMap aK=cc.toList:=by rw[h8];simp
     rw[e1]at hu;simpa using hu)
    have FIN:=h_ (POST.out (.returned (.tuple #[.slice (some ⟨g,0,none⟩) (n+1) (n+1), .int .i64 0])) wz hBz.1 (.inr ⟨HE2.out,g,hgw,rfl,hSL⟩));simp only[fm,fo];clear hBz hg hh h7 h8 hSL POST HI HZ0 HZ1 HX HSL EN EA HZ
    go_wp2
    go_ret2
    exact FIN.out
   ·have hcb:(ms !=0)=true:=by simp[hms]
    go_wp2_with fail
    go_ret2
    exact POST.out _ _ HB2.out (.inl ⟨by rw[HE2.out];exact hms,by rw[HE2.out];rfl⟩)
  ·have he:E=ce:=by rw[HE.out,if_neg hce]
   have HE2:=h_ he;have hcb:(ce !=0)=true:=by simp[hce]
   clear HE he;go_wp2_with fail
   go_ret2
   exact POST.out _ _ HB1.out (.inl ⟨by rw[HE2.out];exact hce,by rw[HE2.out];rfl⟩)
 ·have he:eI l house secret day body=1:=by unfold eI;rw[if_neg hs]
  simp only[if_neg hs]at c0;have C0:=h_ c0;have HE:=h_ he;obtain⟨y,ey⟩:=x_ (cQ secret)
  rw[<-ey]at C0;clear c0 he h hf hT ey;go_enter Tryz.func82,Tryz.ntmps82;go_wp2_with fail;refine(C0.out _).mono ?_;rintro e w' ⟨rfl,rfl⟩;go_wp2_with fail
  go_ret2
  exact⟨Below.refl _ _, .inl ⟨by rw[HE.out];decide,by rw[HE.out];rfl⟩⟩
end Go.Proofs.YtkmbmfengcdmoaaGreatDoor
