/- The law HouseForged, walked. Conditions: the variables of digest and strconv hold their values; the arguments lie in memory. -/
import Derived.Test.YtkmbmfengcdmoaaGreatDoorLHd47
import Derived.Test.YtkmbmfengcdmoaaGreatDoorLKy47
import Derived.Test.YtkmbmfengcdmoaaGreatDoorZBN
set_option maxRecDepth 100000
set_option linter.all false
namespace Go.Proofs.YtkmbmfengcdmoaaGreatDoor
open Go.RowKit Go.W32 Go.ay Go.Cs Go.Jn Go.Dk Go.Ho Go.Opn Go.Maps Go.WideMaps Go.Apl Go.Mg Go.Rf Go.Lib Go.Cv Go.Sg

theorem JP{own:Int}{n me:Nat}(h0:0<=own)(h1:own<=255)(hn:n*8<=140737488355328)(e:me=own.toNat % n):own.tmod (n:Int)=(me:Int):=by
 obtain⟨k,rfl⟩:∃k:Nat,own=(k:Int):=⟨own.toNat,by omega⟩
 have hk:(k:Int).toNat=k:=by simp
 rw[hk]at e;have h2:(k:Int).tmod (n:Int)=((k % n:Nat):Int):=by rw[Int.tmod_eq_emod_of_nonneg (by omega)];simp
 rw[h2, <-e]
theorem Nz{K:List (Nat×Free.gN)}{we w5:World}{n:Nat}{c:cZ}{own secret:Int}{pubs:List Int}(hK:K= [(8, .ind (λx=> .pointer (some ⟨x,0,none⟩)) (λx w=> ∃S b,w5.heap.size<=S/\DY we S n c own secret pubs b x w))]):Free.dm K:=by
 subst hK;intro j mk r hf y w1 w2 hr rr;simp only[Free.find]at hf
 repeat' split at hf
 ·cases hf;obtain⟨S,b,h1,hr⟩:=hr;exact⟨S,b,h1,hr.grow rr⟩
 ·cases hf
theorem Qq{P:Program}{ops:Array Oper}{rest:List Oper}{a:Act}{Q:Exit->Act->World->Prop}(x:Operand){t t2:TypeId}{y:Operand}{d:Option Tmp}{ty:TypeId}{ps:String}{af:Array Edge}{g:Option (Nat×Bool)}{w:World}
  (h:wpList P ops Q (⟨d, .binOp .neq t x y t2,ty,ps,af,g⟩::rest) a w):wpList P ops Q (⟨d, .binOp .neq t x y t2,ty,ps,af,g⟩::rest) a w:=h
theorem It{a:xE}{j:Nat}{v:Value}(h:(bU a.x)[j]? =some v):(cM a)[1+j]? =some v:=by
 have hj:j<6:=(jS.1 h).1;have e:(cM a)[1+j]? =(bU a.x++(fq a.l++(aK a.e++ [.int .i64 a.after, .int .i64 a.writes, .int .i64 a.bytes])))[j]? :=by unfold cM;rw[List.append_assoc,List.append_assoc,List.append_assoc,BW (by show 1<=1+j;omega)];congr 1;show 1+j-1=j;omega
 rw[e,xL (by show j<6;exact hj)];exact h
theorem Hh{P:Program}{ops:Array Oper}{rest:List Oper}{a:Act}{Q:Exit->Act->World->Prop}(x:Operand){t:TypeId}{n:Nat}{p q:Nat×Operand}{d:Option Tmp}{ty:TypeId}{ps:String}{af:Array Edge}{g:Option (Nat×Bool)}{w:World}
  (h:wpList P ops Q (⟨d, .buildSlice t n #[(0,x),p,q],ty,ps,af,g⟩::rest) a w):wpList P ops Q (⟨d, .buildSlice t n #[(0,x),p,q],ty,ps,af,g⟩::rest) a w:=h
theorem qL{P:Program}{o:Oper}{ρ:Operand->Value}{w w':World}{t:TypeId}{x y z:Operand}{v:Value}(ho:o.op= .buildSlice t 3 #[(0,x),(1,y),(2,z)])(h:(Instr.buildSlice t 3 #[(0,ρ x),(1,ρ y),(2,ρ z)]).run P w= .ok v w'):(execOp ρ o).run P w= .ok (.value v) w':=by unfold execOp;simp[ho,h]
theorem Gu(a b z:xE)(w:World):(Instr.buildSlice 49 3 #[(0, .agg (cM a).toArray),(1, .agg (cM b).toArray),(2, .agg (cM z).toArray)]).run Tryz.prog w= .ok (.slice (some ⟨w.heap.size,0,none⟩) 3 3) (w.alloc (.cells (cM a++cM b++cM z).toArray 44)):=by kernel_rfl
theorem De(cs:List Value)(h:cs.length=42):(Tryz.prog.info? 44).map (·.size)=some cs.length:=by rw[h];kernel_rfl
theorem AI(W:World)(a b c d:List Value)(T U V X:TypeId):∃w,w=(((W.alloc (.cells a.toArray T)).alloc (.cells b.toArray U)).alloc (.cells c.toArray V)).alloc (.cells d.toArray X)/\Below W.heap.size W w/\ay w W.heap.size a T/\ay w (W.heap.size+1) b U/\ay w (W.heap.size+1+1) c V/\ay w (W.heap.size+1+1+1) d X:=by
 refine⟨_,rfl,(((Below.refl _ W).alloc (aL _) _).alloc (by simp) _).alloc (by simp;omega) _|>.alloc (by simp;omega) _, ?_, ?_, ?_, ?_⟩
 ·exact(((ay.new W a T).alloc _).alloc _).alloc _
 ·exact((ay.made (l:=b) (by simp) rfl).alloc _).alloc _
 ·exact(ay.made (l:=c) (by simp) rfl).alloc _
 ·exact ay.made (l:=d) (by simp) rfl
def Ty:ei:=⟨0,0,0,0,0,false⟩
def Tz:Rl:=(⟨0,0,0,0,0,kv.zero,⟨#[]⟩⟩,⟨none,0,none,0⟩)
def yW(e:aV):xE:=⟨0,Ty,Tz,e,0,0,0⟩
set_option maxHeartbeats 8000000 in
theorem AF(c:cZ)(own other:Int)(sA:Option Addr)(sc:Nat)(cF:List Int)(a b:xE)(ch:aV)(W:World)(hT:cB W)(hE:gK W)(hc:dV W c)(hz:lk c)(hs:SL W 1 Cs.encI sA cF)(hs8:cF.length*8<=140737488355328)
  (ho0:0<=own) (ho1:own<=255) (hq0:0<=other) (hq1:other<=255) (hax:a.x.Ok) (AN:b.x.Ok) (hch:ch.Ok):
  Calls Tryz.prog 3 #[.agg (cD c).toArray, .int .u8 own, .int .u8 other, .slice sA cF.length sc, .agg (cM a).toArray, .agg (cM b).toArray, .agg (aK ch).toArray] W λe w'=>e= .returned (.bool true)/\Below W.heap.size W w':=by
 obtain⟨R,eR⟩:=x_ (λe w'=>e= .returned (.bool true)/\Below W.heap.size W w':Ending->World->Prop)
 rw[<-eR];have FIN:Hid (∀w',Below W.heap.size W w'->R (.returned (.bool true)) w'):=h_ λw' h=>by rw[eR];exact⟨rfl,h⟩
 clear eR;obtain⟨cs,ecs⟩:=x_ (cD c)
 obtain⟨xa,exa⟩:=x_ (cM a)
 obtain⟨xb,exb⟩:=x_ (cM b)
 obtain⟨V,eV,hbV,k0,k1,k2,k3⟩:=AI W cs xa xb (aK ch) 27 44 44 42;rw[<-ecs, <-exa, <-exb];have EV:Hid ((((W.alloc (.cells cs.toArray 27)).alloc (.cells xa.toArray 44)).alloc (.cells xb.toArray 44)).alloc (.cells (aK ch).toArray 42)=V):=h_ eV.symm;have HI:=h_ (ig cs (by rw[ecs];rfl));have HIA:=h_ (De xa (by rw[exa];rfl));have HIB:=h_ (De xb (by rw[exb];rfl));have HBV:=h_ hbV;have HT:=h_ (hT.below hbV (aL _));have HE:=h_ (hE.below hbV (aL _));have HK:Hid (∀w',Below V.heap.size V w'->ay w' W.heap.size cs 27/\ay w' (W.heap.size+1) xa 44/\ay w' (W.heap.size+1+1) xb 44/\ay w' (W.heap.size+1+1+1) (aK ch) 42/\dV w' c/\SL w' 1 Cs.encI sA cF):=h_ λw' h=>
  ⟨k0.below h k0.lt,k1.below h k1.lt,k2.below h k2.lt,k3.below h k3.lt,hc.below (hbV.trans (h.mono hbV.size)) (aL _),hs.below (hbV.trans (h.mono hbV.size)) (aL _)⟩
 have ECS:=h_ ecs;have EXA:=h_ exa;have EXB:=h_ exb;have HZ:=h_ hz;have HS8:=h_ hs8;have HOW:Hid (0<=own/\own<=255/\0<=other/\other<=255):=h_ ⟨ho0,ho1,hq0,hq1⟩;have HAX:=h_ hax;have HBX:=h_ AN;have HCH:=h_ hch;have C1:=h_ (AO V HT.out HE.out);clear eV hbV k0 k1 k2 k3 hT hE hc hz hs hs8 ho0 ho1 hq0 hq1 hax AN hch ecs exa exb;go_enter Tryz.func3,Tryz.ntmps3;go_wp2_with (first
  |(simp only[EV.out]))
 refine C1.out.mono ?_;rintro e w1 ⟨rfl,hb1⟩;have C2:=h_ (IX sA sc cF w1 (HK.out w1 hb1).2.2.2.2.2 HS8.out);have HB1:=h_ hb1;clear hb1 C1;go_wp2_with fail;refine C2.out.mono ?_;rintro e w2 ⟨hb2,hky⟩;have HB2:=h_ (HB1.out.trans (hb2.mono HB1.out.size));obtain⟨q0,q1,q2,q3,q4,q5⟩:=HK.out w2 HB2.out;have HM0:=h_ (rg_of q0);have HM1:=h_ (rg_of q1);have HM2:=h_ (rg_of q2);have hbs:=Gu a b (yW ch) w2;rw[<-EXA.out, <-EXB.out]at hbs;obtain⟨w3,e3⟩:=x_ (w2.alloc (.cells (xa++xb++cM (yW ch)).toArray 44))
 rw[<-e3]at hbs;have HBS:=h_ hbs;have hb3:Below w2.heap.size w2 w3:=by rw[e3];exact(Below.refl _ _).alloc (aL _) _
 have HB3:=h_ (HB2.out.trans (hb3.mono HB2.out.size));have HB23:=h_ hb3;have hsl:SL w3 42 cM (some ⟨w2.heap.size,0,none⟩) [a,b,yW ch]:=cO qa (show ay w3 w2.heap.size (xa++xb++cM (yW ch)) 44 by rw[e3];exact ay.new w2 _ _) (λj u hj=>by
  rw[EXA.out,EXB.out];have e: [a,b,yW ch].flatMap cM=cM a++cM b++cM (yW ch):=by simp[BZ]
  rw[e]at hj;simpa using hj)
 have C3:=h_ (OX c sA sc cF.length (some ⟨w2.heap.size,0,none⟩) 3 [a,b,yW ch] w3 (HK.out w3 HB3.out).2.2.2.2.1 HZ.out hsl (by show 3<=_;decide) (by have:=HS8.out;omega));rw[<-ECS.out]at C3;clear hbs e3 hb2 hb3 hsl C2 q0 q1 q2 q4 q5;obtain⟨OK,eOK⟩:=x_ (okB c cF.length [a,b,yW ch])
 rw[<-eOK]at C3;have EOK:=h_ eOK;clear eOK;have c0:=q3.ag 0 _ rfl;have c1:=q3.ag 1 _ rfl;have c2:=q3.ag 2 _ rfl;have c3:=q3.ag 3 _ rfl;have c4:=q3.ag 4 _ rfl;have c5:=q3.ag 5 _ rfl;have c6:=q3.ag 6 _ rfl;clear q3;rcases hky with⟨hsb,rfl⟩|⟨hsb,pv,rfl,hoi⟩
 ·have HX:=h_ HB3.out;go_wp2_with (first
   |(refine aH (.tmp 7) ?_;refine wpList_load_mid rfl 27 (.tmp 7) rfl W.heap.size 0 rfl cs _ HM0.out Tryz.underlying27 rfl HI.out ?_)
   |(refine aH (.tmp 11) ?_;refine wpList_load_mid rfl 44 (.tmp 11) rfl (W.heap.size+1) 0 rfl xa _ HM1.out Tryz.underlying44 rfl HIA.out ?_)
   |(refine aH (.tmp 12) ?_;refine wpList_load_mid rfl 44 (.tmp 12) rfl (W.heap.size+1+1) 0 rfl xb _ HM2.out Tryz.underlying44 rfl HIB.out ?_)
   |(refine Hh (.tmp 37) ?_;refine Row.yP rfl (qL rfl HBS.out) ?_;simp only[Pt]))
  refine C3.out.mono ?_;rintro e w4 ⟨rfl,hb4⟩;have HF:=h_ (FIN.out w4 (HBV.out.trans ((HB3.out.trans (hb4.mono HB3.out.size)).mono HBV.out.size)));clear FIN hb4;cases OK with
  |false=>
   go_wp2_with fail;(try go_ret);exact HF.out
  |true=>
   go_wp2_with fail;(try go_ret);exact HF.out
 go_wp2_with (first
  |(refine aH (.tmp 7) ?_;refine wpList_load_mid rfl 27 (.tmp 7) rfl W.heap.size 0 rfl cs _ HM0.out Tryz.underlying27 rfl HI.out ?_)
  |(refine aH (.tmp 11) ?_;refine wpList_load_mid rfl 44 (.tmp 11) rfl (W.heap.size+1) 0 rfl xa _ HM1.out Tryz.underlying44 rfl HIA.out ?_)
  |(refine aH (.tmp 12) ?_;refine wpList_load_mid rfl 44 (.tmp 12) rfl (W.heap.size+1+1) 0 rfl xb _ HM2.out Tryz.underlying44 rfl HIB.out ?_)
  |(refine Hh (.tmp 37) ?_;refine Row.yP rfl (qL rfl HBS.out) ?_;simp only[Pt]))
 refine C3.out.mono ?_;rintro e w4 ⟨rfl,hb4⟩;have HB4:=h_ (HB3.out.trans (hb4.mono HB3.out.size));have HB24:Hid (Below w2.heap.size w2 w4):=h_ (HB23.out.trans (hb4.mono HB23.out.size));clear c0 c1 c2 c3 c4 c5 c6 C3 HBS HM0 HM1 HM2;cases OK with
 |false=>
  have HF:=h_ (FIN.out w4 (HBV.out.trans (HB4.out.mono HBV.out.size)));clear FIN hb4;go_wp2_with fail;(try go_ret);exact HF.out
 |true=>
 by_cases hn0:cF.length=0
 ·have t0:((cF.length:Int)==0)=true:=by simp[hn0]
  have HF:=h_ (FIN.out w4 (HBV.out.trans (HB4.out.mono HBV.out.size)));clear FIN hb4 hn0;go_wp2_with fail;(try go_ret);exact HF.out
 have t0:((cF.length:Int)==0)=false:=by
  have: ¬((cF.length:Int)=0):=by omega
  simpa using this
 obtain⟨me,eme⟩:=x_ (own.toNat % cF.length:Nat)
 obtain⟨ot,eot⟩:=x_ (other.toNat % cF.length:Nat)
 have hme:me<cF.length:=by rw[eme];exact M3 _ (by omega)
 have hot:ot<cF.length:=by rw[eot];exact M3 _ (by omega)
 have HME:=h_ hme;have HOT:=h_ hot;have r1:own.tmod (cF.length:Int)=(me:Int):=JP HOW.out.1 HOW.out.2.1 HS8.out eme;have r2:other.tmod (cF.length:Int)=(ot:Int):=JP HOW.out.2.2.1 HOW.out.2.2.2 HS8.out eot;have v1:IntKind.i64.wrap own=own:=IntWalk.i64_in _ (by have:=HOW.out;omega);have v2:IntKind.i64.wrap other=other:=IntWalk.i64_in _ (by have:=HOW.out;omega);have z0: ¬((cF.length:Int)=0):=by omega
 have z1: ¬(cF= []):=λe=>hn0 (by rw[e];rfl)
 have HNZ:=h_ hn0;clear eme eot hme hot hn0 hb4;obtain⟨pubs,epu⟩:=x_ (cF.map cQ)
 rw[<-epu]at hoi;have HPL:Hid (pubs.length=cF.length):=h_ (by rw[epu,rm]);obtain⟨pA,pc,rfl,_,hps⟩:=gV (ec:=Cs.encI) (λ_=>rfl) hoi.own;have HPS:Hid (∀w',Below w4.heap.size w4 w'->SL w' 1 Cs.encI pA pubs):=h_ λw' h=>hps.below (HB24.out.trans (h.mono HB24.out.size)) (aL _)
 have EPU:=h_ epu;have HP4:=h_ (HT.out.below HB4.out (aL _));have HE4:=h_ (HE.out.below HB4.out (aL _));have HK4:Hid (∀w',Below w4.heap.size w4 w'->ay w' W.heap.size cs 27/\ay w' (W.heap.size+1) xa 44/\ay w' (W.heap.size+1+1) xb 44/\ay w' (W.heap.size+1+1+1) (aK ch) 42/\dV w' c/\SL w' 1 Cs.encI sA cF):=h_ λw' h=>HK.out w' (HB4.out.trans (h.mono HB4.out.size))
 have HW4:Hid (∀w',Below w4.heap.size w4 w'->Below W.heap.size W w'):=h_ λw' h=>HBV.out.trans ((HB4.out.trans (h.mono HB4.out.size)).mono HBV.out.size)
 have CO:=h_ (fun(k:Nat) w' (h:Below w4.heap.size w4 w')=>Bc (we:=w4) c (k:Int) sA sc cF pA pc pubs HP4.out HE4.out h (HK4.out w' h).2.2.2.2.1 HZ.out (HK4.out w' h).2.2.2.2.2 (by have:=HS8.out;omega) (HPS.out w' h) (by rw[HPL.out];have:=HS8.out;omega));rw[<-ECS.out]at CO;obtain⟨sM,esM⟩:=x_ (cF.getD (me:Int).toNat 0)
 obtain⟨sT,esT⟩:=x_ (cF.getD (ot:Int).toNat 0)
 have C6:=h_ (CO.out me w4 (Below.refl _ _));unfold vV at C6;rw[<-esM]at C6;have HM4:=h_ (rg_of (HK4.out w4 (Below.refl _ _)).1);have ESM:=h_ esM;have EST:=h_ esT;have hmi:(0:Int)<=(me:Int)/\(me:Int)<(cF.length:Int):=by have:=HME.out;omega
 have hti:(0:Int)<=(ot:Int)/\(ot:Int)<(cF.length:Int):=by have:=HOT.out;omega
 have HMI:=h_ hmi;have HTI:=h_ hti;clear epu hoi hps esM esT hmi hti HK HB4 HB3 HB2 HB1 HB24 hsb;go_wp2_with (first
  |(refine aH (.tmp 7) ?_;refine wpList_load_mid rfl 27 (.tmp 7) rfl W.heap.size 0 rfl cs _ HM4.out Tryz.underlying27 rfl HI.out ?_))
 refine C6.out.mono ?_;rintro e w5 ⟨hb5,hcase⟩;have HB5:=h_ hb5;have HM5:Hid (∀w',Below w5.heap.size w5 w'->w'.rangeAt W.heap.size 0 cs):=h_ λw' h=>rg_of (HK4.out w' (HB5.out.trans (h.mono HB5.out.size))).1
 have C7:=h_ (λw' (h:Below w5.heap.size w5 w')=>CO.out ot w' (HB5.out.trans (h.mono HB5.out.size)));unfold vV at C7;rw[<-EST.out]at C7;clear C6 CO HM4 hb5;rcases hcase with⟨hM,rfl⟩|⟨_,_,hM,bM,xM,rfl,hOM⟩
 ·by_cases hT:oO c (ot:Int) sT pubs=true
  ·go_wp2_with fail;refine Free.ai 10 [(8, .ind (λx=> .pointer (some ⟨x,0,none⟩)) (λx w=> ∃S b,w5.heap.size<=S/\DY w4 S 300 c (ot:Int) sT pubs b x w))] (λw'=>Below w5.heap.size w5 w') (by kernel_rfl) (by kernel_rfl) (Nz rfl) (Below.refl _ _).drew (λ_ _ h g=>h.trans (Below.mono g h.size)) ?_;simp only[eJ,dT];apply Free.ae (Free.wq rfl) rfl
   ·intro w' hB hA;exact Hk.aU 27 (.tmp 7) rfl W.heap.size 0 rfl cs _ (HM5.out w' hB) Tryz.underlying27 rfl HI.out
   simp only[Pt];iterate 7 (apply Free.ae (Free.wq rfl) rfl;(intro w' hB hA;skip;clear hA hB;go_light;go_simp<;>rfl);(try simp only[Pt]))
   apply Free.aR (Free.wq rfl) rfl
   ·intro w' hB hA;refine Free.au (f:=11) (args:= #[.agg cs.toArray, .int .i64 (ot:Int), .slice sA cF.length sc, .slice pA pubs.length pc]) (by clear hB hA;go_simp<;>rfl) ?_;refine(C7.out w' hB).mono ?_;rintro e w3' ⟨hb3,⟨q,_⟩|⟨_,_,_,b,x,rfl,hx⟩⟩
    ·exact absurd ⟨HTI.out.1,HTI.out.2,hT⟩ q
    ·exact⟨_,rfl,hb3,x,rfl,w'.heap.size,b,hB.size,hx⟩
   intro x8;simp only[Pt];iterate 1 (apply Free.ae (Free.wq rfl) rfl;(intro w' hB hA;skip;clear hA hB;go_light;go_simp<;>rfl);(try simp only[Pt]))
   apply Free.ax;intro w6 hb6 _ hh;simp only[fm,fo];have HF:=h_ (FIN.out w6 (HW4.out w6 (HB5.out.trans (hb6.mono HB5.out.size))));clear FIN hb6 hh;go_wp2_with fail;(try go_ret);exact HF.out
  ·go_wp2_with fail;refine Free.ai 10 [(8, .det (.pointer none))] (λw'=>Below w5.heap.size w5 w') (by kernel_rfl) (by kernel_rfl) (Free.aW (λj mk r hf=>by simp only[Free.find]at hf;split at hf<;>cases hf)) (Below.refl _ _).drew (λ_ _ h g=>h.trans (Below.mono g h.size)) ?_;simp only[eJ,dT];apply Free.ae (Free.wq rfl) rfl
   ·intro w' hB hA;exact Hk.aU 27 (.tmp 7) rfl W.heap.size 0 rfl cs _ (HM5.out w' hB) Tryz.underlying27 rfl HI.out
   simp only[Pt];iterate 7 (apply Free.ae (Free.wq rfl) rfl;(intro w' hB hA;skip;clear hA hB;go_light;go_simp<;>rfl);(try simp only[Pt]))
   apply Free.aC (Free.wq rfl) rfl
   ·intro w' hB hA;refine Free.au (f:=11) (args:= #[.agg cs.toArray, .int .i64 (ot:Int), .slice sA cF.length sc, .slice pA pubs.length pc]) (by clear hB hA;go_simp<;>rfl) ?_;refine(C7.out w' hB).mono ?_;rintro e w3' ⟨hb3,⟨_,rfl⟩|⟨_,_,q,_⟩⟩
    ·exact⟨_,rfl,hb3,rfl⟩
    ·exact absurd q hT
   simp only[Pt];iterate 1 (apply Free.ae (Free.wq rfl) rfl;(intro w' hB hA;skip;clear hA hB;go_light;go_simp<;>rfl);(try simp only[Pt]))
   apply Free.ax;intro w6 hb6 _ hh;simp only[fm,fo];have HF:=h_ (FIN.out w6 (HW4.out w6 (HB5.out.trans (hb6.mono HB5.out.size))));clear FIN hb6 hh;go_wp2_with fail;(try go_ret);exact HF.out
 by_cases hT:oO c (ot:Int) sT pubs=true;rotate_left
 ·go_wp2_with fail;refine Free.ai 10 [(8, .det (.pointer none))] (λw'=>Below w5.heap.size w5 w') (by kernel_rfl) (by kernel_rfl) (Free.aW (λj mk r hf=>by simp only[Free.find]at hf;split at hf<;>cases hf)) (Below.refl _ _).drew (λ_ _ h g=>h.trans (Below.mono g h.size)) ?_;simp only[eJ,dT];apply Free.ae (Free.wq rfl) rfl
  ·intro w' hB hA;exact Hk.aU 27 (.tmp 7) rfl W.heap.size 0 rfl cs _ (HM5.out w' hB) Tryz.underlying27 rfl HI.out
  simp only[Pt];iterate 7 (apply Free.ae (Free.wq rfl) rfl;(intro w' hB hA;skip;clear hA hB;go_light;go_simp<;>rfl);(try simp only[Pt]))
  apply Free.aC (Free.wq rfl) rfl
  ·intro w' hB hA;refine Free.au (f:=11) (args:= #[.agg cs.toArray, .int .i64 (ot:Int), .slice sA cF.length sc, .slice pA pubs.length pc]) (by clear hB hA;go_simp<;>rfl) ?_;refine(C7.out w' hB).mono ?_;rintro e w3' ⟨hb3,⟨_,rfl⟩|⟨_,_,q,_⟩⟩
   ·exact⟨_,rfl,hb3,rfl⟩
   ·exact absurd q hT
  simp only[Pt];iterate 1 (apply Free.ae (Free.wq rfl) rfl;(intro w' hB hA;skip;clear hA hB;go_light;go_simp<;>rfl);(try simp only[Pt]))
  apply Free.ax;intro w6 hb6 _ hh;simp only[fm,fo];have HF:=h_ (FIN.out w6 (HW4.out w6 (HB5.out.trans (hb6.mono HB5.out.size))));clear FIN hb6 hh;go_wp2_with fail;(try go_ret);exact HF.out
 go_wp2_with fail;refine Free.ai 10 [(8, .ind (λx=> .pointer (some ⟨x,0,none⟩)) (λx w=> ∃S b,w5.heap.size<=S/\DY w4 S 300 c (ot:Int) sT pubs b x w))] (λw'=>Below w5.heap.size w5 w') (by kernel_rfl) (by kernel_rfl) (Nz rfl) (Below.refl _ _).drew (λ_ _ h g=>h.trans (Below.mono g h.size)) ?_;simp only[eJ,dT];apply Free.ae (Free.wq rfl) rfl
 ·intro w' hB hA;exact Hk.aU 27 (.tmp 7) rfl W.heap.size 0 rfl cs _ (HM5.out w' hB) Tryz.underlying27 rfl HI.out
 simp only[Pt];iterate 7 (apply Free.ae (Free.wq rfl) rfl;(intro w' hB hA;skip;clear hA hB;go_light;go_simp<;>rfl);(try simp only[Pt]))
 apply Free.aR (Free.wq rfl) rfl
 ·intro w' hB hA;refine Free.au (f:=11) (args:= #[.agg cs.toArray, .int .i64 (ot:Int), .slice sA cF.length sc, .slice pA pubs.length pc]) (by clear hB hA;go_simp<;>rfl) ?_;refine(C7.out w' hB).mono ?_;rintro e w3' ⟨hb3,⟨q,_⟩|⟨_,_,_,b,x,rfl,hx⟩⟩
  ·exact absurd ⟨HTI.out.1,HTI.out.2,hT⟩ q
  ·exact⟨_,rfl,hb3,x,rfl,w'.heap.size,b,hB.size,hx⟩
 intro x8;simp only[Pt];iterate 1 (apply Free.ae (Free.wq rfl) rfl;(intro w' hB hA;skip;clear hA hB;go_light;go_simp<;>rfl);(try simp only[Pt]))
 apply Free.ax;intro w6 hb6 _ hh;simp only[fm,fo]

 obtain⟨S8,b8,hS8,pT,rfl,_,hT6,hTy⟩:=hh _ dH;obtain⟨pM,rfl,_,hM5,hMy⟩:=hOM;obtain⟨s0,es0⟩:=x_ (yR c (me:Int) sM pubs 300)
 obtain⟨u0,eu0⟩:=x_ (yR c (ot:Int) sT pubs 300)
 have HL0:Hid (LH 300 s0 0 []):=h_ (by rw[es0];exact Jh (by decide) (by decide) hM);have HU0:Hid (LH 300 u0 0 []):=h_ (by rw[eu0];exact Jh (by decide) (by decide) hT);have HSP:Hid (s0.aj=u0.aj/\s0.pubs=u0.pubs/\u0.pubs=pubs/\s0.me=(me:Int)/\u0.aw= []):=h_ (by rw[es0,eu0];exact⟨rfl,rfl,rfl,rfl,rfl⟩);have HS6:Hid (St w4 w6 300 pM s0 300 pT u0 []):=h_ (by
  rw[es0,eu0];exact⟨⟨hM5.grow hb6,hT6,λk h1 h2=>by have:=hM5.lt h1;have:=hTy k h2;omega⟩,λx hx=>by cases hx⟩)
 have HKx:Hid (∀w',Below w4.heap.size w4 w'->w'.rangeAt (W.heap.size+1) 1 (bU a.x)/\w'.rangeAt (W.heap.size+1+1) 1 (bU b.x)):=h_ λw' h=>by
  obtain⟨_,k1,k2,_⟩:=HK4.out w' h;exact⟨λj v hj=>k1.ag (1+j) v (by rw[EXA.out];exact It hj),λj v hj=>k2.ag (1+j) v (by rw[EXB.out];exact It hj)⟩
 obtain⟨fa,efa⟩:=x_ (bU a.x)
 obtain⟨fb,efb⟩:=x_ (bU b.x)
 have HIF:=h_ (oI fa (by rw[efa];rfl));have HIG:=h_ (oI fb (by rw[efb];rfl));rw[<-efa, <-efb]at HKx;have EFB:=h_ efb;have HMA:=h_ (HKx.out w6 HS6.out.base).1;obtain⟨s1,x1,c1,hf1,hc1⟩:=HL0.out.file (by decide) (by decide) HAX.out;have C10:Hid (Calls Tryz.prog 12 #[.pointer (some ⟨pM.o.hb,0,none⟩), .agg fa.toArray] w6 (bS w4 w6 300 pM s1 (.tuple #[.agg (aK x1).toArray, .int .i64 c1]))):=h_ (by
  have h:=jr a.x HS6.out.two.a HL0.out.gh.inv HAX.out HS6.out.nF (HE4.out.below HS6.out.base (aL _)) HL0.out.gh.lim.1 HL0.out.gh.lim.2;rw[hf1, <-efa]at h;exact h)
 obtain⟨m1,l1,hm1,hl1,hx1⟩:∃m1 l1,m1<=1/\LH 300 s1 m1 l1/\(c1=0->l1= [x1]/\x1=dn [] s0.me s0.secret a.x.cJ (iT a.x)/\dA 300 s0 0 x1 s1):=by
  rcases hc1 with⟨q1,rfl,_⟩|⟨q1,q2,q3,q4⟩
  ·exact⟨0,[],by omega,HL0.out,λe=>absurd e q1⟩
  ·exact⟨1,[x1],by omega,q4,λ_=>⟨rfl,q2,q3⟩⟩
 have HL1:=h_ hl1;have HX1:=h_ hx1;have HM1:=h_ hm1;obtain⟨e1s,ee1⟩:=x_ (aK x1)
 rw[<-ee1]at C10;have EE1:=h_ ee1;have HJ1:=h_ (cE e1s (by rw[ee1];rfl));have HN1:Hid (e1s.length=7):=h_ (by rw[ee1];rfl);have HO1:Hid (∀u∈e1s,u.oneCell'=true):=h_ (by rw[ee1];exact cm _);clear es0 eu0 hM5 hT6 hb6 hMy hTy hh efa efb hf1 hc1 hl1 hx1 hm1 ee1 C7 HM5 hT hM;go_wp2_with (first
  |(refine aH (.tmp 82) ?_;refine wpList_load_mid rfl 29 (.tmp 82) rfl (W.heap.size+1) 1 rfl fa _ HMA.out Tryz.underlying29 rfl HIF.out ?_))
 refine C10.out.mono ?_;intro e w7 hp;obtain⟨rfl,pM1,eo1,_,hs⟩:=HS6.out.mr hp;have HS7:=h_ hs;have EO1:=h_ eo1;clear hp hs eo1 C10;obtain⟨w8,e8⟩:=x_ (w7.alloc (.cells e1s.toArray 42))
 have E8:=h_ e8;have HS8:Hid (St w4 w8 300 pM1 s1 300 pT u0 [(w7.heap.size,e1s,42)]):=h_ (HS7.out.push (by rw[e8];exact(Below.refl _ _).alloc (aL _) _) (by rw[e8];exact ay.new w7 e1s _) (aL _));have HMB:=h_ (HKx.out w8 HS8.out.base).2;obtain⟨s2,x2,c2,hf2,hc2⟩:=HL1.out.file (by decide) (by have:=HM1.out;omega) HBX.out;have C11:Hid (Calls Tryz.prog 12 #[.pointer (some ⟨pM.o.hb,0,none⟩), .agg fb.toArray] w8 (bS w4 w8 300 pM1 s2 (.tuple #[.agg (aK x2).toArray, .int .i64 c2]))):=h_ (by
  have h:=jr b.x HS8.out.two.a HL1.out.gh.inv HBX.out HS8.out.nF (HE4.out.below HS8.out.base (aL _)) HL1.out.gh.lim.1 HL1.out.gh.lim.2;rw[hf2, <-EFB.out,EO1.out]at h;exact h)
 have HX2:Hid (c2=0->x2=dn l1 s1.me s1.secret b.x.cJ (iT b.x)/\dA 300 s1 m1 x2 s2):=h_ (by
  rcases hc2 with⟨q1,_⟩|⟨q1,q2,q3,q4⟩
  ·exact λe=>absurd e q1
  ·exact λ_=>⟨q2,q3⟩)
 obtain⟨e2s,ee2⟩:=x_ (aK x2)
 rw[<-ee2]at C11;have EE2:=h_ ee2;have HJ2:=h_ (cE e2s (by rw[ee2];rfl));have HN2:Hid (e2s.length=7):=h_ (by rw[ee2];rfl);have HO2:Hid (∀u∈e2s,u.oneCell'=true):=h_ (by rw[ee2];exact cm _);clear e8 hf2 hc2 ee2;go_wp2_with (first
  |(refine aN (.tmp 21) ?_;refine Hk.aD rfl 42 (.tmp 21) (.tmp 85) rfl w7.heap.size e1s.toArray rfl rfl _ 42 rfl (by rw[HJ1.out];simp) (by simp[HN1.out]) (all_oneCell_toArray HO1.out) ?_;rw[<-E8.out];simp only[Pt])
  |(refine aH (.tmp 89) ?_;refine wpList_load_mid rfl 29 (.tmp 89) rfl (W.heap.size+1+1) 1 rfl fb _ HMB.out Tryz.underlying29 rfl HIG.out ?_))
 refine C11.out.mono ?_;intro e w9 hp;obtain⟨rfl,pM2,eo2,_,hs⟩:=HS8.out.mr hp;have HS9:=h_ hs;have EO2:=h_ eo2;clear hp hs eo2 C11;obtain⟨w10,e10⟩:=x_ (w9.alloc (.cells e2s.toArray 42))
 have E10:=h_ e10;have HS10:Hid (St w4 w10 300 pM2 s2 300 pT u0 [(w9.heap.size,e2s,42),(w7.heap.size,e1s,42)]):=h_ (HS9.out.push (by rw[e10];exact(Below.refl _ _).alloc (aL _) _) (by rw[e10];exact ay.new w9 e2s _) (aL _));clear e10;by_cases h1:c1=0;rotate_left
 ·have t1:(c1 !=0)=true:=by simpa using h1
  have HF:=h_ (FIN.out w10 (HW4.out w10 HS10.out.base));clear FIN h1;go_wp2_with (first
   |(refine aN (.tmp 23) ?_;refine Hk.aD rfl 42 (.tmp 23) (.tmp 92) rfl w9.heap.size e2s.toArray rfl rfl _ 42 rfl (by rw[HJ2.out];simp) (by simp[HN2.out]) (all_oneCell_toArray HO2.out) ?_;rw[<-E10.out];simp only[Pt]))
  (try go_ret);exact HF.out
 subst h1;by_cases h2:c2=0;rotate_left
 ·have t1:(c2 !=0)=true:=by simpa using h2
  have HF:=h_ (FIN.out w10 (HW4.out w10 HS10.out.base));clear FIN h2;go_wp2_with (first
   |(refine aN (.tmp 23) ?_;refine Hk.aD rfl 42 (.tmp 23) (.tmp 92) rfl w9.heap.size e2s.toArray rfl rfl _ 42 rfl (by rw[HJ2.out];simp) (by simp[HN2.out]) (all_oneCell_toArray HO2.out) ?_;rw[<-E10.out];simp only[Pt]))
  (try go_ret);exact HF.out
 subst h2;obtain⟨rfl,ex1,hst1⟩:=HX1.out rfl;obtain⟨ex2,hst2⟩:=HX2.out rfl;have hpu:=hst1.pubs;have hg1:gB u0.aj u0.pubs x1 (aP x1)=true:=by have h:=hst1.gen;rw[HSP.out.1,HSP.out.2.1]at h;exact h
 have hg2:gB u0.aj u0.pubs x2 (aP x2)=true:=by have h:=hst2.gen;rw[hpu.2.2.2.1,hpu.1,HSP.out.1,HSP.out.2.1]at h;exact h
 have hme2:x2.house=(me:Int):=by rw[ex2];show s1.me=_;rw[hpu.2.1];exact HSP.out.2.2.2.1
 have hok1:x1.Ok/\x1.prev.size=0/\x1.body.size<=136:=by
  have h0:=HL0.out.gh.inv
  have:=h0.KH;have:=h0.me;have:=h0.KI;rw[ex1];exact⟨(ky [] s0.me s0.secret a.x.cJ (iT a.x) (by decide) (by omega) (by omega) HAX.out.f0 HAX.out.f1 (by have:=nu HAX.out;omega)).1,rfl,nu HAX.out⟩
 have hok2:x2.Ok/\x2.prev.size=64/\x2.body.size<=136:=by
  have h0:=HL1.out.gh.inv
  have:=h0.KH;have:=h0.me;have:=h0.KI;rw[ex2];exact⟨(ky [x1] s1.me s1.secret b.x.cJ (iT b.x) (by show 1<=1000000;decide) (by omega) (by omega) HBX.out.f0 HBX.out.f1 (by have:=nu HBX.out;omega)).1,FO _ _ _ _ _,nu HBX.out⟩
 obtain⟨u1,hu1,hst3⟩:∃u1,u0.take 300 x1=(u1,0)/\dA 300 u0 0 x1 u1:=by
  have h:=HU0.out.gh.zM (e:=x1) (by decide) (by decide) hok1.1 (by have:=hok1.2.1;omega) (by have:=hok1.2.2;omega) HU0.out.arm (by rw[HSP.out.2.2.2.2];intro h;cases h) hg1 (by
   have h1:=HU0.out.gh.room;rw[HSP.out.2.2.2.2]at h1;have h2:=(dB hg1).2.1;have h3:dG u0.js.bW<=0:=h1;omega)
  exact⟨_,mK h.1,h.2⟩
 have C12:Hid (Calls Tryz.prog 13 #[.pointer (some ⟨pT.o.hb,0,none⟩), .agg e1s.toArray] w10 (bS w4 w10 300 pT u1 (.int .i64 0))):=h_ (by
  have h:=ph x1 HS10.out.two.b HU0.out.gh.inv hok1.1 (by have:=hok1.2.1;omega) (by have:=hok1.2.2;omega) HS10.out.nF HU0.out.gh.lim.1 HU0.out.gh.lim.2;rw[hu1, <-EE1.out]at h;exact h)
 have HM10:=h_ (rg_of (HS10.out.bg _ (iB _ dH)).1);obtain⟨p1,p2,p3,p4,_,_,p7⟩:=hst3.pubs;rw[HSP.out.2.2.2.2]at p7;have HPU:Hid (u1.aj=u0.aj/\u1.pubs=pubs/\u1.aw= [(aP x1,x1)]):=h_ ⟨p4,p1.trans HSP.out.2.2.1,p7⟩;have HG1:Hid (GH 300 u1 1/\u1.js.d.bH=false):=h_ ⟨hst3.gh,by rw[hst3.arm];exact HU0.out.arm⟩;have HG2:Hid (gB u1.aj u1.pubs x2 (aP x2)=true):=h_ (by rw[p4,p1];exact hg2);have HO3:=h_ hok1;have HO4:=h_ hok2;have HM2:=h_ hme2;clear ex1 hst1 ex2 hst2 hpu hg1 hg2 hme2 hok1 hok2 hu1 hst3 p1 p2 p3 p4 p7;go_wp2_with (first
  |(refine aN (.tmp 23) ?_;refine Hk.aD rfl 42 (.tmp 23) (.tmp 92) rfl w9.heap.size e2s.toArray rfl rfl _ 42 rfl (by rw[HJ2.out];simp) (by simp[HN2.out]) (all_oneCell_toArray HO2.out) ?_;rw[<-E10.out];simp only[Pt])
  |(refine aH (.tmp 21) ?_;refine Row.still (Free.wq rfl) (Hk.aU 42 (.tmp 21) rfl w7.heap.size 0 rfl e1s _ HM10.out Tryz.underlying42 rfl HJ1.out) ?_;simp only[Pt]))
 refine C12.out.mono ?_;intro e w11 hp;obtain⟨rfl,pT1,eo3,_,hs⟩:=HS10.out.DJ hp;have HS11:=h_ hs;have EO3:=h_ eo3;obtain⟨LL,eLL⟩:=x_ (ug u1)
 have hLL:LL.length=1:=by rw[eLL,HG1.out.1.len,HPU.out.2.2];rfl
 have C14:=h_ (jE pT1.o u1 w11 HS11.out.two.b.hr HG1.out.1.inv);unfold rX at C14;rw[<-eLL,EO3.out]at C14;have ELL:=h_ eLL;clear hp hs eo3 C12 eLL HM10;go_wp2_with fail;refine C14.out.mono ?_;rintro e w12 ⟨v25,rfl,ho,hb12⟩;obtain⟨A5,cc,rfl,_,hsl⟩:=gV bT ho;obtain⟨g,hA5,cur,hlo,hheap⟩:∃g,A5=some ⟨g,0,none⟩/\∃cur:Array Value,w11.heap.size<=g/\w12.heap[g]? =some (.cells cur 42 (0,0)):=by
  rcases ho.2 with⟨h1,h2⟩|⟨g,cap,cur,h1,h2,h3,_⟩
  ·rw[hLL]at h2;cases h2
  ·injection h1 with h1 _ _;exact⟨g,h1,cur,h2,h3⟩
 subst hA5;rw[hLL];obtain⟨kc,ekc⟩:=x_ cur.toList
 have hbk:ay w12 g kc 42:=by rw[ekc];exact hheap
 have HS12:Hid (St w4 w12 300 pM2 s2 300 pT1 u1 [(g,kc,42),(w9.heap.size,e2s,42),(w7.heap.size,e1s,42)]):=h_ (HS11.out.push hb12 hbk hlo);have HSL:Hid (∀w',ay w' g kc 42->SL w' 7 aK (some ⟨g,0,none⟩) LL):=h_ λw' h=>jw hsl (λk hk=>by
  have e:g=k:=by simpa using hk
  subst e;rw[show w'.heap[g]? =_ from h,show w12.heap[g]? =_ from hbk])
 have HLL:=h_ hLL;have HM12:=h_ (rg_of (HS12.out.bg _ (iB _ dH)).1);obtain⟨w13,e13⟩:=x_ (w12.alloc (.cells e2s.toArray 42))
 have E13:=h_ e13;have HS13:Hid (St w4 w13 300 pM2 s2 300 pT1 u1 [(w12.heap.size,e2s,42),(g,kc,42),(w9.heap.size,e2s,42),(w7.heap.size,e1s,42)]):=h_ (HS12.out.push (by rw[e13];exact(Below.refl _ _).alloc (aL _) _) (by rw[e13];exact ay.new w12 e2s _) (aL _));have HLO:Hid (w4.heap.size<=w12.heap.size):=h_ HS12.out.base.size;have HNE:Hid (∀x∈ [(g,kc,42),(w9.heap.size,e2s,42),(w7.heap.size,e1s,42)],x.1≠w12.heap.size):=h_ λx hx=>Nat.ne_of_lt (HS12.out.bg x hx).1.lt
 clear e13 ho hb12 hsl hlo hheap hLL ekc hbk C14 cur;have HCS:Hid (ch.prev.size<=100/\ch.body.size<=2100):=h_ (by
  have h:=EOK.out.symm;unfold okB at h;simp only[ua]at h;have h1:=GJ.1 h.1 (yW ch) (by simp);unfold oP at h1;simp only[ua,uD]at h1;exact h1.2)
 have z4:=(HK4.out w13 HS13.out.base).2.2.2.1.ag 4 (.string ch.body) rfl;by_cases hbz:ch.body.size=0
 case' pos=>
  have hte:ch.body.toList= []:=by
    rw[je];have:ch.body.data.toList.length=0:=by rw[jP];exact hbz
    exact Ky.1 this
  have htb:(ch.body==⟨#[]⟩)=true:=by
   have:ch.body=⟨#[]⟩:=by apply Nh;rw[<-je,hte]
   rw[this];rfl
  obtain⟨w14,ew14⟩:=x_ w13
  obtain⟨k14,ek14⟩:=x_ e2s
  have EKw14:=h_ ek14;have Hw14:Hid (St w4 w14 300 pM2 s2 300 pT1 u1 [(w12.heap.size,k14,42),(g,kc,42),(w9.heap.size,e2s,42),(w7.heap.size,e1s,42)]):=h_ (by rw[ew14,ek14];exact HS13.out);clear HS13 ek14;subst ew14
 case' neg=>
  have hte: ¬ch.body.toList= []:=λe=>hbz (by rw[<-jP, <-je,e];rfl)
  have hti:ch.body.toList.isEmpty=false:=by
   cases h:ch.body.toList with
   |nil=>exact absurd h hte
   |cons x r=>rfl
  have y4:=(HS13.out.bg _ dH).1.ag 4 (.string x2.body) (by rw[EE2.out];rfl);obtain⟨w14,exw14⟩:=x_ (w13.setCell ⟨w12.heap.size,4,none⟩ (.string ch.body))
  have Ew14:Hid (w13.setCell ⟨w12.heap.size,4,none⟩ (.string ch.body)=w14):=h_ exw14.symm;obtain⟨k14,ekw14⟩:=x_ (e2s.set 4 (.string ch.body))
  have EKw14:=h_ ekw14;have Hw14:Hid (St w4 w14 300 pM2 s2 300 pT1 u1 [(w12.heap.size,k14,42),(g,kc,42),(w9.heap.size,e2s,42),(w7.heap.size,e1s,42)]):=h_ (by
   have h:=HS13.out.set (L':= [(g,kc,42),(w9.heap.size,e2s,42),(w7.heap.size,e1s,42)]) dH HLO.out (λx hx=>⟨iB _ hx,HNE.out x hx⟩) 4 (.string ch.body);rw[<-exw14, <-ekw14]at h;exact h)
  have frw14:=(HS13.out.bg _ dH).1.frozen 4;clear exw14 ekw14
 all_goals
  obtain⟨dd,edd⟩:=x_ (IntKind.i64.wrap (x2.day+ch.day))
  obtain⟨qq,eqq⟩:=x_ (IntKind.i64.wrap (x2.seq+ch.seq))
  obtain⟨zz,ezz⟩:=x_ (IntKind.i64.wrap (x2.s+ch.s))
  have wd:=edd.symm;have wq:=eqq.symm;have wz:=ezz.symm;have EDD:=h_ edd;have EQQ:=h_ eqq;have EZZ:=h_ ezz;clear edd eqq ezz;have y2:=(Hw14.out.bg _ dH).1.ag 2 (.int .i64 x2.day) (by rw[EKw14.out,EE2.out];rfl);have x2c:=(HK4.out w14 Hw14.out.base).2.2.2.1.ag 2 (.int .i64 ch.day) rfl;obtain⟨w15,exw15⟩:=x_ (w14.setCell ⟨w12.heap.size,2,none⟩ (.int .i64 dd))
  have Ew15:Hid (w14.setCell ⟨w12.heap.size,2,none⟩ (.int .i64 dd)=w15):=h_ exw15.symm;obtain⟨k15,ekw15⟩:=x_ (k14.set 2 (.int .i64 dd))
  have EKw15:=h_ ekw15;have Hw15:Hid (St w4 w15 300 pM2 s2 300 pT1 u1 [(w12.heap.size,k15,42),(g,kc,42),(w9.heap.size,e2s,42),(w7.heap.size,e1s,42)]):=h_ (by
   have h:=Hw14.out.set (L':= [(g,kc,42),(w9.heap.size,e2s,42),(w7.heap.size,e1s,42)]) dH HLO.out (λx hx=>⟨iB _ hx,HNE.out x hx⟩) 2 (.int .i64 dd);rw[<-exw15, <-ekw15]at h;exact h)
  have frw15:=(Hw14.out.bg _ dH).1.frozen 2;clear exw15 ekw15;have y1:=(Hw15.out.bg _ dH).1.ag 1 (.int .i64 x2.seq) (by rw[EKw15.out,EKw14.out,EE2.out];rfl);have x1c:=(HK4.out w15 Hw15.out.base).2.2.2.1.ag 1 (.int .i64 ch.seq) rfl;obtain⟨w16,exw16⟩:=x_ (w15.setCell ⟨w12.heap.size,1,none⟩ (.int .i64 qq))
  have Ew16:Hid (w15.setCell ⟨w12.heap.size,1,none⟩ (.int .i64 qq)=w16):=h_ exw16.symm;obtain⟨k16,ekw16⟩:=x_ (k15.set 1 (.int .i64 qq))
  have EKw16:=h_ ekw16;have Hw16:Hid (St w4 w16 300 pM2 s2 300 pT1 u1 [(w12.heap.size,k16,42),(g,kc,42),(w9.heap.size,e2s,42),(w7.heap.size,e1s,42)]):=h_ (by
   have h:=Hw15.out.set (L':= [(g,kc,42),(w9.heap.size,e2s,42),(w7.heap.size,e1s,42)]) dH HLO.out (λx hx=>⟨iB _ hx,HNE.out x hx⟩) 1 (.int .i64 qq);rw[<-exw16, <-ekw16]at h;exact h)
  have frw16:=(Hw15.out.bg _ dH).1.frozen 1;clear exw16 ekw16;have y3:=(Hw16.out.bg _ dH).1.ag 3 (.string x2.prev) (by rw[EKw16.out,EKw15.out,EKw14.out,EE2.out];rfl);have x3c:=(HK4.out w16 Hw16.out.base).2.2.2.1.ag 3 (.string ch.prev) rfl;obtain⟨w17,exw17⟩:=x_ (w16.setCell ⟨w12.heap.size,3,none⟩ (.string (x2.prev++ch.prev)))
  have Ew17:Hid (w16.setCell ⟨w12.heap.size,3,none⟩ (.string (x2.prev++ch.prev))=w17):=h_ exw17.symm;obtain⟨k17,ekw17⟩:=x_ (k16.set 3 (.string (x2.prev++ch.prev)))
  have EKw17:=h_ ekw17;have Hw17:Hid (St w4 w17 300 pM2 s2 300 pT1 u1 [(w12.heap.size,k17,42),(g,kc,42),(w9.heap.size,e2s,42),(w7.heap.size,e1s,42)]):=h_ (by
   have h:=Hw16.out.set (L':= [(g,kc,42),(w9.heap.size,e2s,42),(w7.heap.size,e1s,42)]) dH HLO.out (λx hx=>⟨iB _ hx,HNE.out x hx⟩) 3 (.string (x2.prev++ch.prev));rw[<-exw17, <-ekw17]at h;exact h)
  have frw17:=(Hw16.out.bg _ dH).1.frozen 3;clear exw17 ekw17;have y6:=(Hw17.out.bg _ dH).1.ag 6 (.int .i64 x2.s) (by rw[EKw17.out,EKw16.out,EKw15.out,EKw14.out,EE2.out];rfl);have x6c:=(HK4.out w17 Hw17.out.base).2.2.2.1.ag 6 (.int .i64 ch.s) rfl;obtain⟨w18,exw18⟩:=x_ (w17.setCell ⟨w12.heap.size,6,none⟩ (.int .i64 zz))
  have Ew18:Hid (w17.setCell ⟨w12.heap.size,6,none⟩ (.int .i64 zz)=w18):=h_ exw18.symm;obtain⟨kb,ekw18⟩:=x_ (k17.set 6 (.int .i64 zz))
  have EKw18:=h_ ekw18;have Hw18:Hid (St w4 w18 300 pM2 s2 300 pT1 u1 [(w12.heap.size,kb,42),(g,kc,42),(w9.heap.size,e2s,42),(w7.heap.size,e1s,42)]):=h_ (by
   have h:=Hw17.out.set (L':= [(g,kc,42),(w9.heap.size,e2s,42),(w7.heap.size,e1s,42)]) dH HLO.out (λx hx=>⟨iB _ hx,HNE.out x hx⟩) 6 (.int .i64 zz);rw[<-exw18, <-ekw18]at h;exact h)
  have frw18:=(Hw17.out.bg _ dH).1.frozen 6;clear exw18 ekw18;obtain⟨bad,ebad⟩:=x_ (changed x2 ch)
  have EKB:Hid (kb=aK bad):=h_ (by
   rw[EKw18.out,EKw17.out,EKw16.out,EKw15.out,EKw14.out,EE2.out,EDD.out,EQQ.out,EZZ.out,ebad];unfold changed;first|rw[if_pos hbz]|rw[if_neg hbz]
   rfl)
  have EBD:=h_ ebad;have HJB:=h_ (cE kb (by rw[EKB.out];rfl));clear ebad;have zb1: ¬9223372036854775807<x2.prev.size+ch.prev.size:=by have:=HO4.out.2.1;have:=HCS.out.1;omega
  have zb2: ¬(9223372036854775807:Int)<(x2.prev.size:Int)+(ch.prev.size:Int):=by omega
  go_wp2_with (first
    |(refine aN (.tmp 26) ?_;refine Hk.aD rfl 42 (.tmp 26) (.tmp 117) rfl w12.heap.size e2s.toArray rfl rfl _ 42 rfl (by rw[HJ2.out];simp) (by simp[HN2.out]) (all_oneCell_toArray HO2.out) ?_;rw[<-E13.out];simp only[Pt])
    |(refine aH (.tmp 23) ?_;refine wpList_load_mid rfl 42 (.tmp 23) rfl w9.heap.size 0 rfl e2s _ HM12.out Tryz.underlying42 rfl HJ2.out ?_)
    |(simp only[Ew14.out])
    |(simp only[Ew15.out])
    |(simp only[Ew16.out])
    |(simp only[Ew17.out])
    |(simp only[Ew18.out]))
  try clear y4 frw14
  clear y1 y2 y3 y6 zb1 zb2 x1c x2c x3c x6c frw15 frw16 frw17 frw18 wd wq wz;obtain⟨ba,oa,ea⟩:=cG (HPS.out w4 (Below.refl _ _)) (λe=>by have h:=congrArg List.length e;rw[HPL.out,qA]at h;have:=HME.out;omega);subst ea;obtain⟨y,ey⟩:∃y,pubs[me]? =some y:=⟨_,eH (by rw[HPL.out];exact HME.out)⟩
  have hmp:(me:Int)<(pubs.length:Int):=by rw[HPL.out];exact HMI.out.2
  have HQ:Hid (∀w',Below w18.heap.size w18 w'->w'.cell? ⟨ba,oa+me,none⟩=some (.int .i64 y)):=h_ λw' h=>fi (HPS.out w' (Hw18.out.base.trans (h.mono Hw18.out.base.size))) ey
  have HMb:Hid (∀w',Below w18.heap.size w18 w'->w'.rangeAt w12.heap.size 0 kb):=h_ λw' h=>rg_of ((Hw18.out.grow h).bg _ dH).1
  have HMs:Hid (∀w',Below w18.heap.size w18 w'->w'.rangeAt w12.heap.size 5 [.int .i64 bad.r, .int .i64 bad.s]):=h_ λw' h j v hj=>((Hw18.out.grow h).bg _ dH).1.ag (5+j) v (by
   rw[EKB.out];rcases j with _|_|j
   ·exact hj
   ·exact hj
   ·cases hj)
  have HIS:Hid ((Tryz.prog.info? 40).map (·.size)=some 2):=h_ (by kernel_rfl);have hcok:=sf (ch:=ch) HO4.out.1 (by have:=HO4.out.2.1;omega) (by have:=HO4.out.2.2;omega) HCS.out.1 HCS.out.2;rw[<-EBD.out]at hcok;have HCOK:=h_ hcok;have CT:=h_ (λw' (h:Below w18.heap.size w18 w')=>ic bad w' HCOK.out.1 (by have:=HCOK.out.2.1;omega) (by have:=HCOK.out.2.2;omega) ((Hw18.out.grow h).nF));rw[<-EKB.out]at CT;obtain⟨tb,etb⟩:=x_ (gb bad)
  have htb:tb.size<=1000000000000:=by rw[etb];have:=iz HCOK.out.1;have:=HCOK.out.2.1;have:=HCOK.out.2.2;omega
  rw[<-etb]at CT;have CVv:=h_ (λw' (h:Below w18.heap.size w18 w')=>xt y tb bad.r bad.s w' htb ((Hw18.out.grow h).nF));obtain⟨G,eG⟩:=x_ (mu y tb bad.r bad.s)
  rw[<-eG]at CVv;have hyd:pubs.getD x2.house.toNat 0=y:=by rw[HM2.out,tZ,BX,ey];rfl
  have HGS:Hid (nM bad (u1.pubs.getD x2.house.toNat 0)=G):=h_ (by rw[HPU.out.2.1,hyd,eG,etb];rfl);clear hcok etb htb eG hyd ey;refine Free.ai 10 [(5, .det (.string tb)),(8, .det (.bool G))] (λw'=>Below w18.heap.size w18 w') (by kernel_rfl) (by kernel_rfl) (Free.aW (λj mk r hf=>by simp only[Free.find]at hf;repeat' (first|cases hf|split at hf))) (Below.refl _ _).drew (λ_ _ h g=>h.trans (Below.mono g h.size)) ?_;simp only[eJ,dT];iterate 10 (first|(apply Free.ae (Free.wq rfl) rfl;(intro w' hB hA;exact Hk.aU 42 (.tmp 26) rfl w12.heap.size 0 rfl kb _ (HMb.out w' hB) Tryz.underlying42 rfl HJB.out);simp only[Pt])|(apply Free.aC (Free.wq rfl) rfl;(intro w' hB hA;refine Free.au (f:=16) (args:= #[.agg kb.toArray]) (by clear hB hA;go_simp<;>rfl) ?_;refine(CT.out w' hB).mono ?_;rintro e w3' ⟨rfl,hb3⟩;exact⟨_,rfl,hb3,rfl⟩);simp only[Pt])|(apply Free.ae (Free.wq rfl) rfl;(intro w' hB hA;exact Hk.aU 40 (.tmp 157) rfl w12.heap.size 5 rfl [.int .i64 bad.r, .int .i64 bad.s] _ (HMs.out w' hB) Tryz.underlying40 rfl HIS.out);simp only[Pt])|(apply Free.aC (Free.wq rfl) rfl;(intro w' hB hA;refine Free.au (f:=15) (args:= #[.int .i64 y, .string tb, .agg #[.int .i64 bad.r, .int .i64 bad.s]]) (by clear hB hA;go_simp<;>rfl) ?_;refine(CVv.out w' hB).mono ?_;rintro e w3' ⟨rfl,hb3⟩;exact⟨_,rfl,hb3,rfl⟩);simp only[Pt])|(apply Free.ae (Free.wq rfl) rfl;(intro w' hB hA;have q1:=HQ.out w' hB;clear hA hB;go_light;go_simp<;>rfl);(try simp only[Pt]))|(apply Free.ae (Free.wq rfl) rfl;(intro w' hB hA;skip;clear hA hB;go_light;go_simp<;>rfl);(try simp only[Pt])))
  apply Free.ax;intro w19 hb19 _ _;simp only[fm,fo];have HS19:=h_ (Hw18.out.grow hb19);obtain⟨u2,gg,hu2,hcases⟩:=yD rfl HG1.out.1 (by decide) HG1.out.2 HPU.out.2.2 HO3.out.2.1 (by have:=HO4.out.2.1;omega) HO4.out.1 (by have:=HO4.out.2.1;omega) (by have:=HO4.out.2.2;omega) HCS.out.1 HCS.out.2 HG2.out;rw[<-EBD.out]at hu2 hcases;have C19:Hid (Calls Tryz.prog 13 #[.pointer (some ⟨pT.o.hb,0,none⟩), .agg kb.toArray] w19 (bS w4 w19 300 pT1 u2 (.int .i64 gg))):=h_ (by
   have h:=ph bad HS19.out.two.b HG1.out.1.inv HCOK.out.1 (by have:=HCOK.out.2.1;omega) (by have:=HCOK.out.2.2;omega) HS19.out.nF HG1.out.1.lim.1 HG1.out.1.lim.2;rw[hu2, <-EKB.out,EO3.out]at h;exact h)
  have HM19:=h_ (rg_of (HS19.out.bg _ dH).1);rw[HGS.out]at hcases;clear hb19 hu2 CT CVv HQ HMb HMs hmp;go_wp2_with (first
    |(refine aH (.tmp 26) ?_;refine wpList_load_mid rfl 42 (.tmp 26) rfl w12.heap.size 0 rfl kb _ HM19.out Tryz.underlying42 rfl HJB.out ?_))
  refine C19.out.mono ?_;intro e w20 hp;obtain⟨rfl,pT2,eo4,_,hs⟩:=HS19.out.DJ hp;have HS20:=h_ hs;have EO4:Hid (pT2.o=pT.o):=h_ (eo4.trans EO3.out);clear hp hs eo4 C19 HM19;rcases hcases with⟨rfl,hst,rfl⟩|⟨hg0,rfl,hne,h17⟩
  ·have C20:=h_ (jE pT2.o u2 w20 HS20.out.two.b.hr hst.gh.inv);have hL2:(ug u2).length=2:=by rw[hst.gh.len,hst.pubs.2.2.2.2.2.2,HPU.out.2.2];rfl
   obtain⟨L2,eL2⟩:=x_ (ug u2)
   unfold rX at C20;rw[EO4.out]at C20;rw[<-eL2]at C20 hL2;clear eL2 hst;go_wp2_with fail;refine C20.out.mono ?_;rintro e w21 ⟨v,rfl,ho,hb21⟩;obtain⟨A6,c6,rfl,_,_⟩:=gV bT ho;rw[hL2];have HF:=h_ (FIN.out w21 (HW4.out w21 (HS20.out.grow hb21).base));clear FIN ho hb21 C20;go_wp2_with fail;(try go_ret);exact HF.out
  have t0:(gg==0)=false:=by simpa using hg0
  have HNQ:Hid ((!qK bad x2)=true):=h_ (by
   cases h:qK bad x2 with
   |false=>rfl
   |true=>exact absurd ((rI _ _).1 h) hne)
  have C20:=h_ (jE pT2.o u2 w20 HS20.out.two.b.hr HG1.out.1.inv);unfold rX at C20;rw[EO4.out, <-ELL.out]at C20;clear hg0 hne;have KEY:Hid (∀w21 A6 c6,w21.ownsRow w20.heap.size 42 7 (.slice A6 LL.length c6) LL.length (LL.flatMap aK)->Below w20.heap.size w20 w21->
    Calls Tryz.prog 17 #[.slice A6 LL.length c6, .slice (some ⟨g,0,none⟩) 1 cc] w21 λe w'=>e= .returned (.bool true)/\Below w21.heap.size w21 w'):=h_ λw21 A6 c6 ho hb21=>by
   obtain⟨A',c',eA,_,hs6⟩:=gV bT ho;injection eA with eA _ _;subst eA;have hs5:=HSL.out w21 ((HS20.out.grow hb21).bg _ (iB _ dH)).1;have h:=zu A6 (some ⟨g,0,none⟩) c6 cc LL LL w21 hs6 hs5 (by rw[HLL.out];decide);rw[HLL.out]at h⊢;refine h.mono ?_;rintro e w' ⟨rfl,hb⟩;exact⟨by rw[(ki _ _).2 rfl],hb⟩
  obtain⟨rfl,t17⟩|rfl:(G=true/\(gg !=17)=true)\/G=false:=by
   cases G with
   |false=>exact .inr rfl
   |true=>exact .inl ⟨rfl,by
     have:gg≠17:=λe=>by have:=h17 e;cases this
     simpa using this⟩
  all_goals
   go_wp2_with fail;refine C20.out.mono ?_;rintro e w21 ⟨v,rfl,ho,hb21⟩;obtain⟨A6,c6,rfl,_,_⟩:=gV bT ho;have C21:=h_ (KEY.out w21 A6 c6 ho hb21);have HS21:=h_ (HS20.out.grow hb21);clear ho hb21;go_wp2_with fail;refine C21.out.mono ?_;rintro e w22 ⟨rfl,hb22⟩;have HS22:=h_ (HS21.out.grow hb22);have HMx:=h_ (rg_of (HS22.out.bg _ dH).1);have HMy:=h_ (rg_of (HS22.out.bg _ (iB _ (iB _ dH))).1);have HF:=h_ (FIN.out w22 (HW4.out w22 HS22.out.base));clear FIN hb22 C21;go_wp2_with (first
     |(refine aH (.tmp 26) ?_;refine Row.still (Free.wq rfl) (Hk.aU 42 (.tmp 26) rfl w12.heap.size 0 rfl kb _ HMx.out Tryz.underlying42 rfl HJB.out) ?_;simp only[Pt])
     |(refine aH (.tmp 23) ?_;refine Row.still (Free.wq rfl) (Hk.aU 42 (.tmp 23) rfl w9.heap.size 0 rfl e2s _ HMy.out Tryz.underlying42 rfl HJ2.out) ?_;simp only[Pt])
     |(refine Qq (.tmp 194) ?_;refine Row.still (Free.wq rfl) (yx (x:=bad) (y:=x2) rfl (show Value.agg kb.toArray=_ by rw[EKB.out]) (show Value.agg e2s.toArray=_ by rw[EE2.out])) ?_;rw[HNQ.out];simp only[Pt]))
   (try go_ret);exact HF.out
end Go.Proofs.YtkmbmfengcdmoaaGreatDoor
