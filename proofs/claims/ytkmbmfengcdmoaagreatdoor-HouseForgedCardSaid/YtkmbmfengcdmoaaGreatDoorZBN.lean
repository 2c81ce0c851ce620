/- The reference of layer 32: two files with the same facts, without orders, are the same. No condition. -/
import Derived.Test.YtkmbmfengcdmoaaGreatDoorZBM
import Derived.Test.YtkmbmfengcdmoaaGreatDoorZAI
import Derived.Test.YtkmbmfengcdmoaaGreatDoorZAR
import Derived.Test.YtkmbmfengcdmoaaGreatDoorZAE
import Derived.Test.YtkmbmfengcdmoaaGreatDoorZAL
import Derived.Test.YtkmbmfengcdmoaaGreatDoorZBL
import Derived.Test.YtkmbmfengcdmoaaGreatDoorZAS
import Derived.Test.YtkmbmfengcdmoaaGreatDoorFree
set_option maxRecDepth 100000
set_option linter.all false
namespace Go.Proofs.YtkmbmfengcdmoaaGreatDoor
open Go.RowKit Go.W32 Go.ay Go.Cs Go.Lib Go.Opn Go.Mg Go.Cv Go.Apl
structure xE where
 kind:Int
 x:ei
 l:Rl
 e:aV
 after:Int
 writes:Int
 bytes:Int
def cM(a:xE):List Value:= [.int .i64 a.kind]++bU a.x++fq a.l++aK a.e++ [.int .i64 a.after, .int .i64 a.writes, .int .i64 a.bytes]
theorem qa(a:xE):(cM a).length=42:=rfl
def Fl(x:Let):Bool:=decide (x.patch.cl.length<=450)&&(decide (x.patch.new.start.length<=20)&&decide (x.sum.size<=100))
def oP(a:xE):Bool:=Fl a.l.1&&(decide (a.e.prev.size<=100)&&decide (a.e.body.size<=2100))
def okB(c:cZ)(n:Nat)(l:List xE):Bool:=l.all oP&&(iR 20 c&&(decide (n<=13)&&decide (l.length<=14)))
set_option maxHeartbeats 1000000 in
theorem AX(r:Rl)(W:World):Calls Tryz.prog 44 #[.agg (fq r).toArray] W λe w'=>e= .returned (.bool (Fl r.1))/\Below W.heap.size W w':=by
 obtain⟨R,eR⟩:=x_ (λe w'=>e= .returned (.bool (Fl r.1))/\Below W.heap.size W w':Ending->World->Prop)
 rw[<-eR];obtain⟨cs,ecs⟩:=x_ (fq r)
 obtain⟨V,eV⟩:=x_ (W.alloc (.cells cs.toArray 38))
 have hb:Below W.heap.size W V:=by rw[eV];exact(Below.refl _ _).alloc (aL _) _
 have hbk:ay V W.heap.size cs 38:=by rw[eV];exact ay.new W cs _
 have c6:=hbk.ag 6 (SU r.1.patch r.2) (by rw[ecs];rfl);have c11:=hbk.ag 11 (Tq r.1.patch r.2) (by rw[ecs];rfl);have c24:=hbk.ag 24 (.string r.1.sum) (by rw[ecs];rfl);unfold SU at c6;unfold Tq at c11;have EV:Hid (W.alloc (.cells cs.toArray 38)=V):=h_ eV.symm;have FIN:Hid (∀v,v=Fl r.1->R (.returned (.bool v)) V):=h_ λv h=>by rw[eR,h];exact⟨rfl,hb⟩
 have i1:decide ((r.1.patch.cl.length:Int)<=450)=decide (r.1.patch.cl.length<=450):=PC.2 (by omega);have i2:decide ((r.1.patch.new.start.length:Int)<=20)=decide (r.1.patch.new.start.length<=20):=PC.2 (by omega);have i3:decide ((r.1.sum.size:Int)<=100)=decide (r.1.sum.size<=100):=PC.2 (by omega);obtain⟨b1,e1⟩:=x_ (decide (r.1.patch.cl.length<=450))
 obtain⟨b2,e2⟩:=x_ (decide (r.1.patch.new.start.length<=20))
 obtain⟨b3,e3⟩:=x_ (decide (r.1.sum.size<=100))
 have HL:Hid (Fl r.1=(b1&&(b2&&b3))):=h_ (by rw[e1,e2,e3];rfl);rw[<-e1]at i1;rw[<-e2]at i2;rw[<-e3]at i3;rw[<-ecs];clear eR eV hb hbk ecs e1 e2 e3;cases b1 with
 |false=>
  have HF:=h_ (FIN.out false (by rw[HL.out];rfl));go_enter Tryz.func44,Tryz.ntmps44;go_wp2_with (simp only[EV.out])
  (try go_ret);exact HF.out
 |true=>
  cases b2 with
  |false=>
   have HF:=h_ (FIN.out false (by rw[HL.out];rfl));go_enter Tryz.func44,Tryz.ntmps44;go_wp2_with (simp only[EV.out])
   (try go_ret);exact HF.out
  |true=>
   have HF:=h_ (FIN.out b3 (by rw[HL.out];rfl));go_enter Tryz.func44,Tryz.ntmps44;go_wp2_with (simp only[EV.out])
   (try go_ret);exact HF.out
theorem D9{l:List xE}{k:Nat}{x:xE}(hx:l[k]? =some x)(h:(l.take k).all oP=true)(hf:oP x=true):(l.take (k+1)).all oP=true:=by rw[zX,hx,RZ,h];simp[hf]
theorem pO{l:List xE}{k:Nat}{x:xE}(hx:l[k]? =some x)(hf:oP x=false):l.all oP=false:=by
 cases h:l.all oP with
 |false=>rfl
 |true=>rw[GJ.1 h x (ue hx)]at hf;cases hf
theorem IU(cs:List Value)(h:cs.length=25):(Tryz.prog.info? 38).map (·.size)=some cs.length:=by rw[h];kernel_rfl
set_option maxHeartbeats 4000000 in
theorem OX(c:cZ)(sA:Option Addr)(sc n:Nat)(A:Option Addr)(lc:Nat)(l:List xE)(W:World)(hc:dV W c)(hz:lk c)(hl:SL W 42 cM A l)(hn:l.length<=4611686018427387903)(hs:n<=9223372036854775807):
  Calls Tryz.prog 10 #[.agg (cD c).toArray, .slice sA n sc, .slice A l.length lc] W λe w'=>e= .returned (.bool (okB c n l))/\Below W.heap.size W w':=by
 obtain⟨R,eR⟩:=x_ (λe w'=>e= .returned (.bool (okB c n l))/\Below W.heap.size W w':Ending->World->Prop)
 rw[<-eR];have FIN:Hid (∀w' v,v=okB c n l->Below W.heap.size W w'->R (.returned (.bool v)) w'):=h_ λw' v h hb=>by rw[eR,h];exact⟨rfl,hb⟩
 clear eR;obtain⟨W1,cs,hx⟩:=uh W c;have E1:=h_ hx.e;have HB1:=h_ hx.below;have HI:=h_ (ig cs (by rw[hx.cs];rfl));have HM:Hid (∀w',Below W1.heap.size W1 w'->w'.rangeAt W.heap.size 0 cs):=h_ λw' hb'=>(hx.row.below hb' hx.row.lt).rg
 have HL:Hid (∀w',Below W1.heap.size W1 w'->SL w' 42 cM A l):=h_ λw' hb'=>hl.below (hx.below.trans (hb'.mono hx.below.size)) (aL _)
 have CS:=h_ (λw' (hb':Below W1.heap.size W1 w')=>zF 20 c w' (hc.below (hx.below.trans (hb'.mono hx.below.size)) (aL _)) hz (by decide));have HN:=h_ hn;have HS:=h_ hs;rw[<-hx.cs]at CS⊢;clear hx hc hz hl hn hs;go_enter Tryz.func10,Tryz.ntmps10;go_wp2_with (simp only[E1.out])
 go_loopw [7] (λv wr=> ∃k:Nat,v= .int .i64 (k:Int)/\k<=l.length/\Below W1.heap.size W1 wr/\Hid ((l.take k).all oP=true)) (λv _=>(l.length:Int).toNat- (RowKit.intOf v).toNat)
 case atStart=>exact⟨0,rfl,gu _,Below.refl _ _,h_ rfl⟩
 case round=>
  obtain⟨k,rfl,hk,hbk,HA⟩:=hrel;have hnl:=HN.out;have HBK:=h_ hbk;rcases pC hk with hkl|hkl
  ·have hki:(k:Int)<(l.length:Int):=by omega
   obtain⟨x,ex⟩:∃x,l[k]? =some x:=⟨_,eH hkl⟩
   obtain⟨ba,oa,ea⟩:=cG (HL.out W1 (Below.refl _ _)) (by intro e;rw[e]at hkl;simp at hkl);subst ea;have HR:Hid (∀w',Below wr.heap.size wr w'->w'.rangeAt ba (oa+k*42) (cM x)):=h_ λw' h=>dq (HL.out w' (hbk.trans (h.mono hbk.size))) ex
   have HRL:Hid (wr.rangeAt ba (oa+k*42+7) (fq x.l)):=h_ λj v hj=>by
    have hj25:j<25:=by have:=(jS.1 hj).1;exact this
    have h:=HR.out wr (Below.refl _ _) (7+j) v (by
     have e:(cM x)[7+j]? =(fq x.l++(aK x.e++ [.int .i64 x.after, .int .i64 x.writes, .int .i64 x.bytes]))[j]? :=by unfold cM;rw[List.append_assoc,List.append_assoc,List.append_assoc];rw[BW (by show 1<=7+j;omega),BW (by show 6<=7+j-1;omega)];congr 1;show 7+j-1-6=j;omega
     rw[e,xL (by show j<25;exact hj25)];exact hj)
    rw[show oa+k*42+7+j=oa+k*42+(7+j) by omega];exact h
   have CL:=h_ (AX x.l wr);obtain⟨ls,els⟩:=x_ (fq x.l)
   have HIL:=h_ (IU ls (by rw[els];rfl));obtain⟨LB,eLB⟩:=x_ (Fl x.l.1)
   rw[<-els, <-eLB]at CL;rw[<-els]at HRL;have ELB:=h_ eLB;have EX:=h_ ex;have HKL:=h_ hkl;clear ex els eLB hk hkl hbk;go_wp2_with (refine aH (.tmp 17) ?_;refine wpList_load_mid rfl 38 (.tmp 17) rfl ba (oa+k*42+7) rfl ls _ HRL.out Tryz.underlying38 rfl HIL.out ?_)
   refine CL.out.mono ?_;rintro e w5 ⟨rfl,hb5⟩;have HB5:=h_ (HBK.out.trans (hb5.mono HBK.out.size));have q3:w5.cell? ⟨ba,oa+k*42+35,none⟩=some (.string x.e.prev):=HR.out w5 hb5 35 (.string x.e.prev) rfl;have q4:w5.cell? ⟨ba,oa+k*42+36,none⟩=some (.string x.e.body):=HR.out w5 hb5 36 (.string x.e.body) rfl;clear hb5 CL;cases LB with
   |false=>
    have HF:=h_ (FIN.out w5 false (by unfold okB;rw[pO EX.out (by unfold oP;rw[<-ELB.out];rfl)];rfl) (HB1.out.trans (HB5.out.mono HB1.out.size)));clear FIN q3 q4;go_wp2_with fail;(try go_ret);exact HF.out
   |true=>
   by_cases h3:x.e.prev.size<=100;rotate_left
   ·have t3:decide ((100:Int)<(x.e.prev.size:Int))=true:=dt (by omega);have HF:=h_ (FIN.out w5 false (by unfold okB;rw[pO EX.out (by unfold oP;rw[dy h3];simp)];rfl) (HB1.out.trans (HB5.out.mono HB1.out.size)));clear FIN h3 q4;go_wp2_with fail;(try go_ret);exact HF.out
   have t3:decide ((100:Int)<(x.e.prev.size:Int))=false:=dy (by omega);by_cases h4:x.e.body.size<=2100;rotate_left
   ·have t4:decide ((2100:Int)<(x.e.body.size:Int))=true:=dt (by omega);have HF:=h_ (FIN.out w5 false (by unfold okB;rw[pO EX.out (by unfold oP;rw[dy h4];simp)];rfl) (HB1.out.trans (HB5.out.mono HB1.out.size)));clear FIN h3 h4;go_wp2_with fail;(try go_ret);exact HF.out
   have t4:decide ((2100:Int)<(x.e.body.size:Int))=false:=dy (by omega);have HM2:=h_ (D9 EX.out HA.out (by unfold oP;rw[<-ELB.out,dt h3,dt h4];rfl));clear h3 h4;go_wp2_with fail
   go_roundw
   case rel=>exact⟨k+1,rfl,HKL.out,HB5.out,HM2⟩
   case measure=>have:=HKL.out;simp[RowKit.intOf];omega
  ·have hki: ¬(k:Int)<(l.length:Int):=by omega
   have HAL:Hid (l.all oP=true):=h_ (by have h:=HA.out;rw[np (by omega)]at h;exact h);have HM1:=h_ (HM.out wr HBK.out);have C2:=h_ (CS.out wr HBK.out);obtain⟨SB,eSB⟩:=x_ (iR 20 c)
   rw[<-eSB]at C2;have HOK:Hid (okB c n l=(SB&&(decide (n<=13)&&decide (l.length<=14)))):=h_ (by unfold okB;rw[HAL.out,eSB];rfl);clear hbk hk hkl HA HM CS eSB;go_wp2_with (refine aH (.tmp 3) ?_;refine wpList_load_mid rfl 27 (.tmp 3) rfl W.heap.size 0 rfl cs _ HM1.out Tryz.underlying27 rfl HI.out ?_)
   refine C2.out.mono ?_;rintro e w5 ⟨rfl,hb5⟩;have HB5:=h_ (HB1.out.trans ((HBK.out.trans (hb5.mono HBK.out.size)).mono HB1.out.size));have hsz:=HS.out;clear hb5 C2;have i1:decide ((n:Int)<=13)=decide (n<=13):=PC.2 (by omega);have i2:decide ((l.length:Int)<=14)=decide (l.length<=14):=PC.2 (by omega);obtain⟨b1,e1⟩:=x_ (decide (n<=13))
   obtain⟨b2,e2⟩:=x_ (decide (l.length<=14))
   rw[<-e1, <-e2]at HOK;rw[<-e1]at i1;rw[<-e2]at i2;clear e1 e2;cases SB with
   |false=>
    have HF:=h_ (FIN.out w5 false (by rw[HOK.out];rfl) HB5.out);clear FIN;go_wp2_with fail;(try go_ret);exact HF.out
   |true=>
    cases b1 with
    |false=>
     have HF:=h_ (FIN.out w5 false (by rw[HOK.out];rfl) HB5.out);clear FIN;go_wp2_with fail;(try go_ret);exact HF.out
    |true=>
     have HF:=h_ (FIN.out w5 b2 (by rw[HOK.out];rfl) HB5.out);clear FIN;go_wp2_with fail;(try go_ret);exact HF.out
end Go.Proofs.YtkmbmfengcdmoaaGreatDoor
namespace Go.Proofs.YtkmbmfengcdmoaaGreatDoor
open Go.RowKit Go.ay Go.Cs Go.Jn Go.Dk Go.Ho Go.Apl Go.Sg Go.Cv
theorem GH.QG{n m:Nat}{s:HS}(h:GH n s m)(hn:4<=n)(hm:m<900000){l:List aV}(hl:Own s s.me l)(hk:s.pubs.getD s.me.toNat 0=cQ s.secret)(ha:s.js.d.bH=false){x:ei}(hx:x.Ok):
  ∃s' e c,s.file n x=(s',e,c)/\((c≠0/\s'=s/\e=aM)\/(c=0/\e=dn l s.me s.secret x.cJ (iT x)/\dA n s m e s'/\Own s' s.me (l++ [e]))):=by
 rcases h.file hn hm hl hk hx with⟨c,q1,q2,_⟩|⟨q1,_,_,q3,q4⟩|⟨_,_,_,q⟩
 ·exact⟨_,_,_,q1, .inl ⟨q2,rfl,rfl⟩⟩
 ·exact⟨_,_,_,mK q1, .inr ⟨rfl,rfl,q3,q4⟩⟩
 ·have:=q.arm;rw[ha]at this;cases this
structure LH (n:Nat) (s:HS) (m:Nat) (l:List aV):Prop where
 gh:GH n s m
 own:Own s s.me l
 key:s.pubs.getD s.me.toNat 0=cQ s.secret
 arm:s.js.d.bH=false
theorem LH.file{n m:Nat}{s:HS}{l:List aV}(h:LH n s m l)(hn:4<=n)(hm:m<900000){x:ei}(hx:x.Ok):
  ∃s' e c,s.file n x=(s',e,c)/\((c≠0/\s'=s/\e=aM)\/(c=0/\e=dn l s.me s.secret x.cJ (iT x)/\dA n s m e s'/\LH n s' (m+1) (l++ [e]))):=by
 obtain⟨s',e,c,h1,h2|⟨h2,h3,h4,h5⟩⟩:=h.gh.QG hn hm h.own h.key h.arm hx
 ·exact⟨s',e,c,h1, .inl h2⟩
 ·obtain⟨p1,p2,p3,_⟩:=h4.pubs;exact⟨s',e,c,h1, .inr ⟨h2,h3,h4,h4.gh,by rw[p2];exact h5,by rw[p1,p2,p3];exact h.key,by rw[h4.arm];exact h.arm⟩⟩
theorem Jh{c:cZ}{own secret:Int}{pubs:List Int}{n:Nat}(h4:4<=n)(hn:n<=4000)(h:oO c own secret pubs=true):LH n (yR c own secret pubs n) 0 []:=by obtain⟨_,h2,h3,_⟩:=tf h;exact⟨Ba h4 hn h,Dq h h2 h3,Jy h,rfl⟩
def changed(y ch:aV):aV:=⟨y.house,IntKind.i64.wrap (y.seq+ch.seq),IntKind.i64.wrap (y.day+ch.day),y.prev++ch.prev,if ch.body.size=0 then y.body else ch.body,y.r,IntKind.i64.wrap (y.s+ch.s)⟩
theorem kn(n:Int): -9223372036854775808<=IntKind.i64.wrap n/\IntKind.i64.wrap n<=9223372036854775807:=by rw[IntKind.wrap_i64];omega
theorem sf{y ch:aV}(h:y.Ok)(hp:y.prev.size<=64)(hb:y.body.size<=2100)(hcp:ch.prev.size<=100)(hcb:ch.body.size<=2100):(changed y ch).Ok/\(changed y ch).prev.size<=164/\(changed y ch).body.size<=2100:=by
 have h1:(changed y ch).prev.size<=164:=by show(y.prev++ch.prev).size<=_;rw[NR];omega
 have h2:(changed y ch).body.size<=2100:=by unfold changed;dsimp only;split<;>omega
 exact⟨⟨h.h0,h.h1,(kn _).1,(kn _).2,(kn _).1,(kn _).2,h.r0,h.r1,(kn _).1,(kn _).2,by omega,by omega⟩,h1,h2⟩
theorem yD{n m:Nat}{s:HS}(hn:n=300)(h:GH n s m)(hm:m<900000)(ha:s.js.d.bH=false){x y ch:aV}(hs:s.aw= [(aP x,x)])(hx:x.prev.size=0)(hy:y.prev.size≠0)(hyo:y.Ok)(hyp:y.prev.size<=64)(hyb:y.body.size<=2100)(hcp:ch.prev.size<=100)(hcb:ch.body.size<=2100)
  (hg:gB s.aj s.pubs y (aP y)=true):
  ∃s' c,s.take n (changed y ch)=(s',c)/\((c=0/\dA n s m (changed y ch) s'/\nM (changed y ch) (s.pubs.getD y.house.toNat 0)=true)\/
   (c≠0/\s'=s/\changed y ch≠y/\(c=17->nM (changed y ch) (s.pubs.getD y.house.toNat 0)=false))):=by
 subst hn;obtain⟨o1,o2,o3⟩:=sf hyo hyp hyb hcp hcb;have hroom:dG s.js.bW<=2004:=by have:=h.room;rw[hs]at this;exact this
 have hysz:=(dB hg).2.1;have hhouse:(changed y ch).house=y.house:=rfl;rcases h.take (by decide) hm o1 (by omega) (by omega)with⟨c,q1,q2,q3,_,q5⟩|⟨q1,_,q3⟩|⟨_,q⟩|⟨q1,q2⟩|⟨_,q⟩
 ·refine⟨s,c,q1, .inr ⟨q2,rfl,λe=> ?_,λe=>absurd e q3⟩⟩;rw[e]at q5
  have:=(q5 hg).2;omega
 ·refine⟨s,17,q1, .inr ⟨by decide,rfl,λe=> ?_,λ_=>by rw[hhouse]at q3;exact q3⟩⟩;rw[e]at q3
  have:=(dB hg).2.2;rw[q3]at this;cases this
 ·rw[hs]at q;have q':=vU.1 q;have e:changed y ch=x:=congrArg Prod.snd q';have h1:(changed y ch).prev.size=x.prev.size:=by rw[e]
  have h2:(changed y ch).prev.size=y.prev.size+ch.prev.size:=by show(y.prev++ch.prev).size=_;rw[NR]
  omega
 ·exact⟨_,0,mK q1, .inl ⟨rfl,q2,(dB q2.gen).2.2⟩⟩
 ·have:=q.arm;rw[ha]at this;cases this
theorem FO(x:aV)(house secret day:Int)(body:ByteArray):(dn [x] house secret day body).prev.size=64:=vJ _
end Go.Proofs.YtkmbmfengcdmoaaGreatDoor
namespace Go.Proofs.YtkmbmfengcdmoaaGreatDoor
open Go.RowKit Go.W32 Go.ay Go.Cs Go.Jn Go.Dk Go.Ho Go.Opn Go.Maps Go.WideMaps Go.Apl Go.Mg Go.Rf Go.Lib Go.Cv
def od(S n:Nat)(x:Nat)(w:World):Prop:=∃bs bm,aI w x bs bm (.slice none 0 0) (DD.new n) n/\∀k,Fp x bs bm (.slice none 0 0) k->S<=k
theorem od.grow{S n x:Nat}{w w':World}(h:od S n x w)(hb:Below w.heap.size w w'):od S n x w':=by obtain⟨bs,bm,h1,h2⟩:=h;exact⟨bs,bm,h1.below hb,h2⟩
theorem l5(S n:Nat)(w:World)(h4:4<=n)(hn:n<=4000)(hS:S<=w.heap.size):Calls Tryz.prog 19 #[.int .i64 n] w λe w'=> ∃b,e= .returned (.pointer (some ⟨b,0,none⟩))/\od S n b w'/\Below w.heap.size w w':=by
 refine(Mc n w (by omega) hn).mono ?_;rintro e w' ⟨b,bs,bm,h1,h2,h3,h4,h5,h6⟩;refine⟨b,h1,⟨bs,bm,h2, ?_⟩,h3⟩;rintro k (rfl|rfl|rfl|e)
 ·omega
 ·omega
 ·omega
 ·cases e
def DY(we:World)(S n:Nat)(c:cZ)(own secret:Int)(pubs:List Int)(b:Nat)(x:Nat)(w:World):Prop:=
 ∃p:Pl,p.o.hb=x/\p.b=b/\HC we w n p (yR c own secret pubs n)/\∀k,p.F k->S<=k
theorem DY.grow{we:World}{S n:Nat}{c:cZ}{own secret:Int}{pubs:List Int}{b x:Nat}{w w':World}(h:DY we S n c own secret pubs b x w)(hb:Below w.heap.size w w'):DY we S n c own secret pubs b x w':=by obtain⟨p,h1,h2,h3,h4⟩:=h;exact⟨p,h1,h2,h3.grow hb,h4⟩
theorem AG{n:Nat}(hn:4<=n):dR n (DD.new n)=(0,some ((0,0,0),0,[])):=th rfl hn (qm hn).1
theorem mH{we w:World}{S b n:Nat}{c:cZ}{own secret:Int}{pA:Option Addr}{pc:Nat}{pubs:List Int}(h4:4<=n)(hT:cB we)(hE:gK we)(hb:Below we.heap.size we w)(hS0:we.heap.size<=S)(hS:S<=w.heap.size)(hd:od S n b w)
  (hc:dV w c) (hz:lk c) (hp:SL w 1 Cs.encI pA pubs) (hpl:pubs.length<=4611686018427387903):
  Calls Tryz.prog 20 #[.agg (cD c).toArray, .int .i64 own, .int .i64 secret, .slice pA pubs.length pc, .pointer (some ⟨b,0,none⟩)] w λe w'=>Below w.heap.size w w'/\
   ((oO c own secret pubs=false/\e= .returned (.tuple #[.pointer none, .int .i64 1]))\/(oO c own secret pubs=true/\∃x,e= .returned (.tuple #[.pointer (some ⟨x,0,none⟩), .int .i64 0])/\DY we S n c own secret pubs b x w')):=by
 obtain⟨bs,bm,h1,h2⟩:=hd;refine(uY (es:= []) hT hE hb h1 (λk hk=>fO hS0 (h2 k hk)) (AG h4) rfl hc hz hp hpl (λe he=>by cases he) List.nodup_nil (gu _)).mono ?_;rintro e w' ⟨q1,⟨q2,q3⟩|⟨q2,p,q3,q4,q5,q6,q7,q8,q9⟩⟩
 ·exact⟨q1, .inl ⟨q2,q3⟩⟩
 ·exact⟨q1, .inr ⟨q2,p.o.hb,q8,p,rfl,q3,q9,λk hk=>(q7 k hk).elim (λh=>h2 k h) (λh=>fO hS h)⟩⟩
theorem Rg{K:List (Nat×Free.gN)}{S n:Nat}{v:Value}(hK:K= [(7, .ind (λx=> .pointer (some ⟨x,0,none⟩)) (od S n)),(8, .det v)]):Free.dm K:=by
 subst hK;intro j mk r hf y w1 w2 hr rr;simp only[Free.find]at hf
 repeat' split at hf
 ·cases hf;exact hr.grow rr
 ·cases hf
 ·cases hf
def KU(r:Nat->Nat->World->Prop)(x:Nat)(w:World):Prop:=∃b,r b x w
theorem Rh{K:List (Nat×Free.gN)}{we:World}{S n:Nat}{c:cZ}{own secret:Int}{pubs:List Int}(hK:K= [(7, .ind (λx=> .pointer (some ⟨x,0,none⟩)) (od S n)),(8, .ind (λx=> .tuple #[.pointer (some ⟨x,0,none⟩), .int .i64 0]) (KU (DY we S n c own secret pubs)))]):Free.dm K:=by
 subst hK;intro j mk r hf y w1 w2 hr rr;simp only[Free.find]at hf
 repeat' split at hf
 ·cases hf;exact hr.grow rr
 ·cases hf;obtain⟨b,hr⟩:=hr;exact⟨b,hr.grow rr⟩
 ·cases hf
def vV(we W:World)(c:cZ)(own:Int)(cF pubs:List Int)(e:Ending)(w':World):Prop:=
 Below W.heap.size W w'/\((¬(0<=own/\own<(cF.length:Int)/\oO c own (cF.getD own.toNat 0) pubs=true)/\e= .returned (.pointer none))\/
  (0<=own/\own<(cF.length:Int)/\oO c own (cF.getD own.toNat 0) pubs=true/\∃b x,e= .returned (.pointer (some ⟨x,0,none⟩))/\DY we W.heap.size 300 c own (cF.getD own.toNat 0) pubs b x w'))
set_option maxHeartbeats 4000000 in
theorem Bc{we W:World}(c:cZ)(own:Int)(sA:Option Addr)(sc:Nat)(cF:List Int)(pA:Option Addr)(pc:Nat)(pubs:List Int)(hT:cB we)(hE:gK we)(hb:Below we.heap.size we W)(hc:dV W c)(hz:lk c)(hs:SL W 1 Cs.encI sA cF)(hsl:cF.length<=4611686018427387903)(hp:SL W 1 Cs.encI pA pubs)(hpl:pubs.length<=4611686018427387903):
  Calls Tryz.prog 11 #[.agg (cD c).toArray, .int .i64 own, .slice sA cF.length sc, .slice pA pubs.length pc] W (vV we W c own cF pubs):=by
 obtain⟨R,eR⟩:=x_ (vV we W c own cF pubs)
 rw[<-eR];have FN:Hid (∀w',¬(0<=own/\own<(cF.length:Int)/\oO c own (cF.getD own.toNat 0) pubs=true)->Below W.heap.size W w'->R (.returned (.pointer none)) w'):=h_ λw' h hb'=>by rw[eR];exact⟨hb', .inl ⟨h,rfl⟩⟩
 have FY:Hid (∀w' b x,0<=own->own<(cF.length:Int)->oO c own (cF.getD own.toNat 0) pubs=true->Below W.heap.size W w'->DY we W.heap.size 300 c own (cF.getD own.toNat 0) pubs b x w'->R (.returned (.pointer (some ⟨x,0,none⟩))) w'):=h_ λw' b x h0 h1 h2 hb' h3=>by rw[eR];exact⟨hb', .inr ⟨h0,h1,h2,b,x,rfl,h3⟩⟩
 clear eR;obtain⟨W1,cs,hx⟩:=uh W c;have E1:=h_ hx.e;have HB1:=h_ hx.below;have HI:=h_ (ig cs (by rw[hx.cs];rfl));have HM:Hid (∀w',Below W1.heap.size W1 w'->w'.rangeAt W.heap.size 0 cs):=h_ λw' hb'=>(hx.row.below hb' hx.row.lt).rg
 have HS:=h_ (hs.below hx.below (aL _));have HSL:=h_ hsl;have CO:=h_ (fun(secret:Int) b w' (hb':Below W1.heap.size W1 w') (hd:od W.heap.size 300 b w')=>mH (own:=own) (secret:=secret) (pc:=pc) (by decide) hT hE (hb.trans ((hx.below.trans (hb'.mono hx.below.size)).mono hb.size)) hb.size (fO hx.below.size hb'.size) hd
  (hc.below (hx.below.trans (hb'.mono hx.below.size)) (aL _)) hz (hp.below (hx.below.trans (hb'.mono hx.below.size)) (aL _)) hpl)
 rw[<-hx.cs]at CO⊢;clear hx hT hE hb hc hz hs hsl hp hpl;go_enter Tryz.func11,Tryz.ntmps11;by_cases h1:own<0
 ·have t1:decide (own<0)=true:=dt h1;have HF:=h_ (FN.out W1 (λh=>by omega) HB1.out);clear FN FY h1;go_wp2_with (simp only[E1.out])
  (try go_ret);exact HF.out
 have t1:decide (own<0)=false:=dy h1;by_cases h2:(cF.length:Int)<=own
 ·have t2:decide ((cF.length:Int)<=own)=true:=dt h2;have HF:=h_ (FN.out W1 (λh=>by omega) HB1.out);clear FN FY h1 h2;go_wp2_with (simp only[E1.out])
  (try go_ret);exact HF.out
 have t2:decide ((cF.length:Int)<=own)=false:=dy h2;obtain⟨j,rfl⟩:∃j:Nat,own=(j:Int):=⟨own.toNat,by omega⟩
 have hj:j<cF.length:=by omega
 obtain⟨y,ey⟩:∃y,cF[j]? =some y:=⟨_,eH hj⟩
 obtain⟨ba,oa,ea⟩:=cG HS.out (by intro e;rw[e]at hj;simp at hj);subst ea;have hq:=fi HS.out ey;have HQ:Hid (∀w',Below W1.heap.size W1 w'->w'.cell? ⟨ba,oa+j,none⟩=some (.int .i64 y)):=h_ λw' h=>aO hq h
 have EY:Hid (cF.getD (j:Int).toNat 0=y):=h_ (by rw[tZ,BX,ey];rfl);have HJ:Hid ((0:Int)<=(j:Int)/\(j:Int)<(cF.length:Int)):=h_ (by omega);have hji:(j:Int)<(cF.length:Int):=by omega
 have hsn:=HSL.out;clear h1 h2 hj ey hq;go_wp2_with (simp only[E1.out])
 clear t1 t2;cases hob:oO c (j:Int) y pubs with
 |false=>
  refine Free.ai 14 [(7, .ind (λx=> .pointer (some ⟨x,0,none⟩)) (od W.heap.size 300)),(8, .det (.tuple #[.pointer none, .int .i64 1]))] (λw'=>Below W1.heap.size W1 w') (by kernel_rfl) (by kernel_rfl) (Rg rfl) (Below.refl _ _).drew (λ_ _ h g=>h.trans (Below.mono g h.size)) ?_;simp only[eJ,dT];apply Free.ae (Free.wq rfl) rfl
  ·intro w' hB hA;exact Hk.aU 27 (.tmp 4) rfl W.heap.size 0 rfl cs _ (HM.out w' hB) Tryz.underlying27 rfl HI.out
  simp only[Pt];iterate 6 (apply Free.ae (Free.wq rfl) rfl;(intro w' hB hA;have q1:=HQ.out w' hB;clear hA hB;go_light;go_simp<;>rfl);(try simp only[Pt]))
  apply Free.aR (Free.wq rfl) rfl
  ·intro w' hB hA;refine Free.au (f:=19) (args:= #[.int .i64 300]) (by clear hB hA;go_simp<;>rfl) ?_;refine(l5 W.heap.size 300 w' (by decide) (by decide) (fO HB1.out.size hB.size)).mono ?_;rintro e w3 ⟨b,rfl,hn3,hb3⟩;exact⟨_,rfl,hb3,b,rfl,hn3⟩
  intro x7;simp only[Pt];apply Free.aC (Free.wq rfl) rfl
  ·intro w' hB hA;have h7:=hA (7,_) dH (by kernel_rfl);dsimp only at h7;refine Free.au (f:=20) (args:= #[.agg cs.toArray, .int .i64 (j:Int), .int .i64 y, .slice pA pubs.length pc, .pointer (some ⟨x7,0,none⟩)]) (by clear hB hA h7;go_simp<;>rfl) ?_;refine(CO.out y x7 w' hB h7).mono ?_;rintro e w3 ⟨hb3,⟨_,rfl⟩|⟨q,_⟩⟩
   ·exact⟨_,rfl,hb3,rfl⟩
   ·rw[hob]at q;cases q
  simp only[Pt];iterate 5 (apply Free.ae (Free.wq rfl) rfl;(intro w' hB hA;have q1:=HQ.out w' hB;clear hA hB;go_light;go_simp<;>rfl);(try simp only[Pt]))
  apply Free.ax;intro wz hz _ _;simp only[fm,fo];have HF:=h_ (FN.out wz (λh=>by rw[EY.out,hob]at h;cases h.2.2) (HB1.out.trans (hz.mono HB1.out.size)));clear FN FY hob hz;go_wp2_with fail;(try go_ret);exact HF.out
 |true=>
  refine Free.ai 14 [(7, .ind (λx=> .pointer (some ⟨x,0,none⟩)) (od W.heap.size 300)),(8, .ind (λx=> .tuple #[.pointer (some ⟨x,0,none⟩), .int .i64 0]) (KU (DY we W.heap.size 300 c (j:Int) y pubs)))] (λw'=>Below W1.heap.size W1 w') (by kernel_rfl) (by kernel_rfl) (Rh rfl) (Below.refl _ _).drew (λ_ _ h g=>h.trans (Below.mono g h.size)) ?_;simp only[eJ,dT];apply Free.ae (Free.wq rfl) rfl
  ·intro w' hB hA;exact Hk.aU 27 (.tmp 4) rfl W.heap.size 0 rfl cs _ (HM.out w' hB) Tryz.underlying27 rfl HI.out
  simp only[Pt];iterate 6 (apply Free.ae (Free.wq rfl) rfl;(intro w' hB hA;have q1:=HQ.out w' hB;clear hA hB;go_light;go_simp<;>rfl);(try simp only[Pt]))
  apply Free.aR (Free.wq rfl) rfl
  ·intro w' hB hA;refine Free.au (f:=19) (args:= #[.int .i64 300]) (by clear hB hA;go_simp<;>rfl) ?_;refine(l5 W.heap.size 300 w' (by decide) (by decide) (fO HB1.out.size hB.size)).mono ?_;rintro e w3 ⟨b,rfl,hn3,hb3⟩;exact⟨_,rfl,hb3,b,rfl,hn3⟩
  intro x7;simp only[Pt];apply Free.aR (Free.wq rfl) rfl
  ·intro w' hB hA;have h7:=hA (7,_) dH (by kernel_rfl);dsimp only at h7;refine Free.au (f:=20) (args:= #[.agg cs.toArray, .int .i64 (j:Int), .int .i64 y, .slice pA pubs.length pc, .pointer (some ⟨x7,0,none⟩)]) (by clear hB hA h7;go_simp<;>rfl) ?_;refine(CO.out y x7 w' hB h7).mono ?_;rintro e w3 ⟨hb3,⟨q,_⟩|⟨_,x,rfl,hx3⟩⟩
   ·rw[hob]at q;cases q
   ·exact⟨_,rfl,hb3,x,rfl,x7,hx3⟩
  intro x8;simp only[Pt];iterate 5 (apply Free.ae (Free.wq rfl) rfl;(intro w' hB hA;have q1:=HQ.out w' hB;clear hA hB;go_light;go_simp<;>rfl);(try simp only[Pt]))
  apply Free.ax;intro wz hz _ hh;have h8:=hh _ dH;dsimp only at h8;obtain⟨b8,h8⟩:=h8;simp only[fm,fo];have HF:=h_ (FY.out wz b8 x8 HJ.out.1 HJ.out.2 (by rw[EY.out];exact hob) (HB1.out.trans (hz.mono HB1.out.size)) (by rw[EY.out];exact h8));clear FN FY hob hz hh h8;go_wp2_with fail;(try go_ret);exact HF.out
end Go.Proofs.YtkmbmfengcdmoaaGreatDoor
namespace Go.Proofs.YtkmbmfengcdmoaaGreatDoor
open Go.RowKit Go.ay Go.Lib Go.Opn Go.Mg Go.Apl

def pZ(h:Int)(A:Option Addr)(n c:Nat):List Value:= [.int .i64 h, .slice A n c, .slice none 0 0]
theorem oI(cs:List Value)(h:cs.length=6):(Tryz.prog.info? 29).map (·.size)=some cs.length:=by rw[h];kernel_rfl
theorem Im(x:ei):wu x x=true:=by unfold wu;simp
set_option maxHeartbeats 2000000 in
theorem Bs(h:Int)(A B:Option Addr)(c d:Nat)(l:List ei)(W:World)(ha:SL W 6 bU A l)(hb:SL W 6 bU B l)(hn:l.length<=4611686018427387903):
  Calls Tryz.prog 40 #[.agg (pZ h A l.length c).toArray, .agg (pZ h B l.length d).toArray] W λe w'=>e= .returned (.bool true)/\Below W.heap.size W w':=by
 obtain⟨R,eR⟩:=x_ (λe w'=>e= .returned (.bool true)/\Below W.heap.size W w':Ending->World->Prop)
 rw[<-eR];obtain⟨xs,exs⟩:=x_ (pZ h A l.length c)
 obtain⟨bs,ebs⟩:=x_ (pZ h B l.length d)
 obtain⟨V,eV⟩:=x_ ((W.alloc (.cells xs.toArray 81)).alloc (.cells bs.toArray 81))
 have hbV:Below W.heap.size W V:=by rw[eV];exact((Below.refl _ _).alloc (aL _) _).alloc (by simp) _
 have b1:ay V W.heap.size xs 81:=by rw[eV];exact(ay.new W xs _).alloc _
 have b2:ay V (W.heap.size+1) bs 81:=by rw[eV];exact ay.made (l:=bs) (by simp) rfl
 have HQ:Hid (∀w',Below V.heap.size V w'->w'.cell? ⟨W.heap.size,1,none⟩=some (.slice A l.length c)/\w'.cell? ⟨W.heap.size+1,1,none⟩=some (.slice B l.length d)):=h_ λw' h=>⟨(b1.below h b1.lt).ag 1 _ (by rw[exs];rfl),(b2.below h b2.lt).ag 1 _ (by rw[ebs];rfl)⟩
 have HQ2:Hid (∀w',Below V.heap.size V w'->w'.cell? ⟨W.heap.size,0,none⟩=some (.int .i64 h)/\w'.cell? ⟨W.heap.size+1,0,none⟩=some (.int .i64 h)/\w'.cell? ⟨W.heap.size,2,none⟩=some (.slice none 0 0)/\w'.cell? ⟨W.heap.size+1,2,none⟩=some (.slice none 0 0)):=h_ λw' h=>
  ⟨(b1.below h b1.lt).ag 0 _ (by rw[exs];rfl),(b2.below h b2.lt).ag 0 _ (by rw[ebs];rfl),(b1.below h b1.lt).ag 2 _ (by rw[exs];rfl),(b2.below h b2.lt).ag 2 _ (by rw[ebs];rfl)⟩
 have HA:Hid (∀w',Below V.heap.size V w'->SL w' 6 bU A l):=h_ λw' h=>ha.below (hbV.trans (h.mono hbV.size)) (aL _)
 have HB:Hid (∀w',Below V.heap.size V w'->SL w' 6 bU B l):=h_ λw' h=>hb.below (hbV.trans (h.mono hbV.size)) (aL _)
 have FIN:Hid (∀w',Below V.heap.size V w'->R (.returned (.bool true)) w'):=h_ λw' h=>by rw[eR];exact⟨rfl,hbV.trans (h.mono hbV.size)⟩
 have EV:Hid ((W.alloc (.cells xs.toArray 81)).alloc (.cells bs.toArray 81)=V):=h_ eV.symm;rw[<-exs, <-ebs];have HN:=h_ hn;obtain⟨q1,q2⟩:=HQ.out V (Below.refl _ _);obtain⟨q3,q4,q5,q6⟩:=HQ2.out V (Below.refl _ _);clear eR exs ebs eV hbV b1 b2 ha hb hn;go_enter Tryz.func40,Tryz.ntmps40;go_wp2_with (simp only[EV.out])
 clear q1 q2 q3 q4 q5 q6
 go_loopw [5] (λv wr=> ∃k:Nat,v= .int .i64 (k:Int)/\k<=l.length/\Below V.heap.size V wr) (λv _=>(l.length:Int).toNat- (RowKit.intOf v).toNat)
 case atStart=>exact⟨0,rfl,gu _,Below.refl _ _⟩
 case round=>
  obtain⟨k,rfl,hk,hbw⟩:=hrel;have hnl:=HN.out;have HBW:=h_ hbw;obtain⟨q1,q2⟩:=HQ.out wr hbw;obtain⟨q3,q4,q5,q6⟩:=HQ2.out wr hbw;rcases pC hk with hkl|hkl
  ·have hki:(k:Int)<(l.length:Int):=by omega
   obtain⟨x,ex⟩:∃x,l[k]? =some x:=⟨_,eH hkl⟩
   obtain⟨ba,oa,ea⟩:=cG (HA.out wr hbw) (by intro e;rw[e]at hkl;simp at hkl);obtain⟨bb,ob,eb⟩:=cG (HB.out wr hbw) (by intro e;rw[e]at hkl;simp at hkl);subst ea;subst eb;have HM1:Hid (∀w',Below wr.heap.size wr w'->w'.rangeAt ba (oa+k*6) (bU x)):=h_ λw' h=>dq (HA.out w' (hbw.trans (h.mono hbw.size))) ex
   have HM2:Hid (∀w',Below wr.heap.size wr w'->w'.rangeAt bb (ob+k*6) (bU x)):=h_ λw' h=>dq (HB.out w' (hbw.trans (h.mono hbw.size))) ex
   have HI:=h_ (oI (bU x) rfl);have HQ':Hid (∀w',Below wr.heap.size wr w'->w'.cell? ⟨W.heap.size,1,none⟩=some (.slice (some ⟨ba,oa,none⟩) l.length c)/\w'.cell? ⟨W.heap.size+1,1,none⟩=some (.slice (some ⟨bb,ob,none⟩) l.length d)):=h_ λw' h=>HQ.out w' (hbw.trans (h.mono hbw.size))
   have HKL:=h_ hkl;have hwr:IntKind.i64.wrap (k:Int)=(k:Int):=IntWalk.i64_in _ ⟨by omega,by omega⟩;clear ex hbw hk hkl HQ;have HQ:=HQ';clear HQ';go_wp2_with fail;clear q1 q2 q3 q4 q5 q6;refine Free.ai 11 [] (λw'=>Below wr.heap.size wr w') (by kernel_rfl) (by kernel_rfl) (Free.aW (λj mk r hf=>by cases hf)) (Below.refl _ _).drew (λ_ _ h g=>h.trans (Below.mono g h.size)) ?_;simp only[eJ,dT];iterate 11 (first|(apply Free.ae (Free.wq rfl) rfl;(intro w' hB hA;exact Hk.aU 29 (.tmp 40) rfl ba (oa+k*6) rfl (bU x) _ (HM1.out w' hB) Tryz.underlying29 rfl HI.out);simp only[Pt])|(apply Free.ae (Free.wq rfl) rfl;(intro w' hB hA;exact Hk.aU 29 (.tmp 45) rfl bb (ob+k*6) rfl (bU x) _ (HM2.out w' hB) Tryz.underlying29 rfl HI.out);simp only[Pt])|(apply Free.ae (Free.wq rfl) rfl;(intro w' hB hA;exact Ew rfl rfl rfl (show(!wu x x)=false by rw[Im];rfl));simp only[Pt])|(apply Free.ae (Free.wq rfl) rfl;(intro w' hB hA;cases HQ.out w' hB;clear hA hB;go_light;go_simp<;>rfl);(try simp only[Pt])))
   apply Free.ax;intro wz hz _ _;simp only[fm,fo];have HBZ:=h_ (HBW.out.trans (hz.mono HBW.out.size));clear hz;go_wp2_with fail
   go_roundw
   case rel=>exact⟨k+1,rfl,HKL.out,HBZ.out⟩
   case measure=>have:=HKL.out;simp[RowKit.intOf];omega
  ·have hki: ¬(k:Int)<(l.length:Int):=by omega
   clear hbw hk hkl;go_wp2_with fail;clear q1 q2 q3 q4 q5 q6
   go_loopw [6] (λv wi=>v= .int .i64 0/\wi=wr) (λv _=>0)
   case atStart=>exact⟨rfl,rfl⟩
   case round=>
    obtain⟨rfl,rfl⟩:=hrel;obtain⟨q3,q4,q5,q6⟩:=HQ2.out wr HBW.out;have HF:=h_ (FIN.out wr HBW.out);clear FIN;go_wp2_with fail;(try go_ret);exact HF.out
end Go.Proofs.YtkmbmfengcdmoaaGreatDoor
