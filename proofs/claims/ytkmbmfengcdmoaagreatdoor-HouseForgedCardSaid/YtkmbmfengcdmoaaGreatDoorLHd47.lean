/- The head of law 47, walked. Conditions: the variables of digest and strconv hold their values. -/
import Derived.Test.YtkmbmfengcdmoaaGreatDoorZBM
import Derived.Test.YtkmbmfengcdmoaaGreatDoorZBN
import Derived.Test.YtkmbmfengcdmoaaGreatDoorZAH
import Derived.Test.YtkmbmfengcdmoaaGreatDoorZBI
import Derived.Test.YtkmbmfengcdmoaaGreatDoorZBJ
set_option maxRecDepth 100000
set_option linter.all false
namespace Go.Proofs.YtkmbmfengcdmoaaGreatDoor
open Go.RowKit Go.W32 Go.ay Go.Cs Go.Jn Go.Dk Go.Ho Go.Opn Go.Maps Go.WideMaps Go.Apl Go.Mg Go.Rf Go.Lib Go.Cv

theorem Nt:lv jh:=by have h:=KF.inv;unfold jh;exact⟨h.e,h.KH,h.me,h.pn,h.KI⟩
theorem QV:lv tG:=by have h:=Nt;unfold tG;exact⟨h.e,h.KH,h.me,h.pn,h.KI⟩
theorem I8:jh.js.d.aF.length<=900000/\jh.js.bW.length<=1000000:=by rw[rM.2.2.2.2.2.2.2.1,rM.2.2.2.2.2.2.2.2.2.2.1];refine⟨?_,KF.lim.2⟩;rw[(Iu KF.j.on 0 0).2];exact gu _
theorem Ny:tG.js.d.aF.length<=900000/\tG.js.bW.length<=1000000:=by have h:=I8;unfold tG;exact h
theorem Ju(x:ei)(w:World):(Instr.buildSlice 73 1 #[(0, .agg (bU x).toArray)]).run Tryz.prog w= .ok (.slice (some ⟨w.heap.size,0,none⟩) 1 1) (w.alloc (.cells (bU x).toArray 29)):=by kernel_rfl
theorem Kn(a b:aV)(w:World):(Instr.buildSlice 56 2 #[(0, .agg (aK a).toArray),(1, .agg (aK b).toArray)]).run Tryz.prog w= .ok (.slice (some ⟨w.heap.size,0,none⟩) 2 2) (w.alloc (.cells (aK a++aK b).toArray 42)):=by kernel_rfl
theorem Ri{K:List (Nat×Free.gN)}{F:List ei}{L M:List aV}{I J:List Int}(hK:K= [(27, .ind (λx=> .slice (some ⟨x,0,none⟩) 1 1) (λx w=>SL w 6 bU (some ⟨x,0,none⟩) F)),(29, .det (.bool true)),(33, .ind (oK 2) (λx w=>SL w 7 aK (aS x) L)),(36, .ind (λx=> .slice (some ⟨x,0,none⟩) 2 2) (λx w=>SL w 7 aK (some ⟨x,0,none⟩) M)),
  (37, .det (.bool true)),(41, .ind (λx=> .slice (some ⟨x,0,none⟩) 2 2) (λx w=>SL w 1 Cs.encI (some ⟨x,0,none⟩) I)),(42, .ind (λx=> .slice (some ⟨x,0,none⟩) 2 2) (λx w=>SL w 1 Cs.encI (some ⟨x,0,none⟩) J)),(43, .det (.bool true))]):Free.dm K:=by
 subst hK;intro j mk r hf y w1 w2 hr rr;simp only[Free.find]at hf
 repeat' split at hf
 all_goals first
  |(cases hf;done)
  |(cases hf;exact hr.below rr (aL _))
theorem Rz:nh.aj=((2:Nat):Int):=by rw[Be.2.2.2.1];rfl
theorem Rt:GX uk:=by
 have h:∀n∈uk.patch.jc,n=0:=by decide
 refine⟨⟨by unfold cP;decide,by unfold cP;decide,by unfold cP;decide,by unfold cP;decide,by unfold cP;decide⟩,⟨λn hn=>by rw[h n hn];unfold cP;decide,by decide,by decide⟩,by decide⟩
noncomputable def Tl:HS:= {tG with js:= {tG.js with d:=tG.js.d.start}}
theorem OT{K:List (Nat×Free.gN)}{S n:Nat}{v:Value}(hK:K= [(2, .ind (λx=> .pointer (some ⟨x,0,none⟩)) (od S n)),(3, .det v)]):Free.dm K:=by
 subst hK;intro j mk r hf y w1 w2 hr rr;simp only[Free.find]at hf
 repeat' split at hf
 ·cases hf;exact hr.grow rr
 ·cases hf
 ·cases hf
theorem OU{K:List (Nat×Free.gN)}{we:World}{S n:Nat}{c:cZ}{own secret:Int}{pubs:List Int}(hK:K= [(2, .ind (λx=> .pointer (some ⟨x,0,none⟩)) (od S n)),(3, .ind (λx=> .tuple #[.pointer (some ⟨x,0,none⟩), .int .i64 0]) (KU (DY we S n c own secret pubs)))]):Free.dm K:=by
 subst hK;intro j mk r hf y w1 w2 hr rr;simp only[Free.find]at hf
 repeat' split at hf
 ·cases hf;exact hr.grow rr
 ·cases hf;obtain⟨b,hr⟩:=hr;exact⟨b,hr.grow rr⟩
 ·cases hf
set_option maxHeartbeats 8000000 in
theorem AO(w:World)(hT:cB w)(hE:gK w):Calls Tryz.prog 8 #[] w λe w'=>e= .returned (.bool true)/\Below w.heap.size w w':=by
 obtain⟨R,eR⟩:=x_ (λe w'=>e= .returned (.bool true)/\Below w.heap.size w w':Ending->World->Prop)
 rw[<-eR];have FIN:Hid (∀w',Below w.heap.size w w'->R (.returned (.bool true)) w'):=h_ λw' h=>by rw[eR];exact⟨rfl,h⟩
 have HT:=h_ hT;have HE:=h_ hE;clear eR hT hE;go_enter Tryz.func8,Tryz.ntmps8;go_wp2_with fail;refine(yw w).mono ?_;rintro e w1 ⟨b1,b2,rfl,hca,hb1⟩;obtain⟨cs,ecs⟩:=x_ (cD (rJ b1 b2))
 have hcl:cs.length=7:=by rw[ecs];rfl
 have HI:=h_ (ig cs hcl);have HO:Hid (∀u∈cs,u.oneCell'=true):=h_ (by rw[ecs];exact Au _);have HCL:=h_ hcl;have ECS:=h_ ecs;rw[<-ecs];obtain⟨w2,e2⟩:=x_ (w1.alloc (.cells cs.toArray 27))
 have HE2:=h_ e2;obtain⟨w3,e3⟩:=x_ (w2.alloc (.cells #[.int .i64 16807, .int .i64 49] 3))
 have E3:Hid (w2.alloc (.cells #[.int .i64 16807, .int .i64 49] 3)=w3):=h_ e3.symm;have hb12:Below w1.heap.size w1 w2:=by rw[e2];exact(Below.refl _ _).alloc (aL _) _
 have hb23:Below w2.heap.size w2 w3:=by rw[e3];exact(Below.refl _ _).alloc (aL _) _
 have hb13:Below w1.heap.size w1 w3:=hb12.trans (hb23.mono hb12.size);have bc:ay w3 w1.heap.size cs 27:=by
  have:ay w2 w1.heap.size cs 27:=by rw[e2];exact ay.new w1 cs _
  exact this.below hb23 this.lt
 have bp:ay w3 w2.heap.size [.int .i64 16807, .int .i64 49] 3:=by rw[e3];exact ay.new w2 _ _
 have HB3:Hid (Below w.heap.size w w3):=h_ (hb1.trans (hb13.mono hb1.size));have HCM:Hid (∀w',Below w3.heap.size w3 w'->w'.rangeAt w1.heap.size 0 cs):=h_ λw' h=>rg_of (bc.below h bc.lt)
 have HCA:Hid (∀w',Below w3.heap.size w3 w'->dV w' (rJ b1 b2)):=h_ λw' h=>hca.below (hb13.trans (h.mono hb13.size)) (aL _)
 have HPS:Hid (∀w',Below w3.heap.size w3 w'->SL w' 1 Cs.encI (some ⟨w2.heap.size,0,none⟩) gq):=h_ λw' h=>(mO (l:=gq) bp).below h (aL _)
 have HT3:=h_ (HT.out.below HB3.out (aL _));have HE3:=h_ (HE.out.below HB3.out (aL _));have HPN:Hid (gq.length<=4611686018427387903):=h_ (by decide);clear hca hb1 hcl ecs e2 e3 hb12 hb23 hb13 bc bp HT HE

 go_wp2_with (first
  |(simp only[E3.out])
  |(refine aN (.tmp 1) ?_;refine Hk.aD rfl 27 (.tmp 1) (.tmp 32) rfl w1.heap.size cs.toArray rfl rfl _ 27 rfl (by rw[HI.out];simp) (by simp[HCL.out]) (all_oneCell_toArray HO.out) ?_;rw[<-HE2.out];simp only[Pt]))
 refine(l5 w3.heap.size 40 w3 (by decide) (by decide) (aL _)).mono ?_;rintro e w4 ⟨bA,rfl,hn4,hb4⟩;have HCM4:=h_ (HCM.out w4 hb4);have C5:=h_ (mH (own:=0) (secret:=5) (pc:=2) (by decide) HT3.out HE3.out hb4 (aL _) hb4.size hn4 (HCA.out w4 hb4) (wv b1 b2) (HPS.out w4 hb4) HPN.out);rw[<-ECS.out]at C5;have HB4:=h_ hb4;clear hn4 hb4;go_wp2_with (first
  |(refine aH (.tmp 1) ?_;refine wpList_load_mid rfl 27 (.tmp 1) rfl w1.heap.size 0 rfl cs _ HCM4.out Tryz.underlying27 rfl HI.out ?_))
 refine C5.out.mono ?_;rintro e w5 ⟨hb5,⟨q,_⟩|⟨_,xA,rfl,pA,rfl,rfl,hA,hAy⟩⟩
 ·rw[Rw b1 b2]at q;cases q
 have HB5:=h_ (HB4.out.trans (hb5.mono HB4.out.size));clear hb5 C5 HCM4;rw[Pe]at hA;have HA5:=h_ hA;have HAY:=h_ hAy;clear hA hAy;go_wp2_with fail;refine Free.ai 9 [(2, .ind (λx=> .pointer (some ⟨x,0,none⟩)) (od w5.heap.size 40)),(3, .ind (λx=> .tuple #[.pointer (some ⟨x,0,none⟩), .int .i64 0]) (KU (DY w3 w5.heap.size 40 (rJ b1 b2) 1 2 gq)))] (λw'=>Below w5.heap.size w5 w') (by kernel_rfl) (by kernel_rfl) (OU rfl) (Below.refl _ _).drew (λ_ _ h g=>h.trans (Below.mono g h.size)) ?_;simp only[eJ,dT];apply Free.ae (Free.wq rfl) rfl
 ·intro w' hB hA;exact Hk.aU 27 (.tmp 1) rfl w1.heap.size 0 rfl cs _ (HCM.out w' (HB5.out.trans (hB.mono HB5.out.size))) Tryz.underlying27 rfl HI.out
 simp only[Pt];iterate 1 (apply Free.ae (Free.wq rfl) rfl;(intro w' hB hA;clear hA hB;go_light;go_simp<;>rfl);(try simp only[Pt]))
 apply Free.aR (Free.wq rfl) rfl
 ·intro w' hB hA;refine Free.au (f:=19) (args:= #[.int .i64 40]) (by clear hB hA;go_simp<;>rfl) ?_;refine(l5 w5.heap.size 40 w' (by decide) (by decide) hB.size).mono ?_;rintro e w3 ⟨b,rfl,hn3,hb3⟩;exact⟨_,rfl,hb3,b,rfl,hn3⟩
 intro x7;simp only[Pt];apply Free.aR (Free.wq rfl) rfl
 ·intro w' hB hA;have h7:=hA (2,_) dH (by kernel_rfl);dsimp only at h7;refine Free.au (f:=20) (args:= #[.agg cs.toArray, .int .i64 1, .int .i64 2, .slice (some ⟨w2.heap.size,0,none⟩) 2 2, .pointer (some ⟨x7,0,none⟩)]) (by clear hB hA h7;go_simp<;>rfl) ?_;have hbw:=HB5.out.trans (hB.mono HB5.out.size);have C:=mH (own:=1) (secret:=2) (pc:=2) (by decide) HT3.out HE3.out hbw HB5.out.size hB.size h7 (HCA.out w' hbw) (wv b1 b2) (HPS.out w' hbw) HPN.out;rw[<-ECS.out]at C;refine C.mono ?_;rintro e w6 ⟨hb6,⟨q,_⟩|⟨_,x,rfl,hx6⟩⟩
  ·rw[Rx b1 b2]at q;cases q
  ·exact⟨_,rfl,hb6,x,rfl,x7,hx6⟩
 intro x8;simp only[Pt];iterate 5 (apply Free.ae (Free.wq rfl) rfl;(intro w' hB hA;clear hA hB;go_light;go_simp<;>rfl);(try simp only[Pt]))
 apply Free.ax;intro w6 hb6 _ hh;have h8:=hh _ dH;dsimp only at h8;obtain⟨b8,pB,rfl,_,hB6,hBy⟩:=h8;simp only[fm,fo];rw[Pf]at hB6;have HS6:Hid (St w3 w6 40 pA o8 40 pB Br []):=h_ ⟨⟨HA5.out.grow hb6,hB6,λk h1 h2=>by have:=HA5.out.lt h1;have:=hBy k h2;omega⟩,λx hx=>by cases hx⟩;clear hb6 hh hB6 hBy HA5;go_wp2_with fail;refine Free.ai 9 [(2, .ind (λx=> .pointer (some ⟨x,0,none⟩)) (od w6.heap.size 40)),(3, .det (.tuple #[.pointer none, .int .i64 1]))] (λw'=>Below w6.heap.size w6 w') (by kernel_rfl) (by kernel_rfl) (OT rfl) (Below.refl _ _).drew (λ_ _ h g=>h.trans (Below.mono g h.size)) ?_;have HB6:=h_ HS6.out.base;simp only[eJ,dT];apply Free.ae (Free.wq rfl) rfl
 ·intro w' hB hA;exact Hk.aU 27 (.tmp 1) rfl w1.heap.size 0 rfl cs _ (HCM.out w' (HB6.out.trans (hB.mono HB6.out.size))) Tryz.underlying27 rfl HI.out
 simp only[Pt];iterate 1 (apply Free.ae (Free.wq rfl) rfl;(intro w' hB hA;clear hA hB;go_light;go_simp<;>rfl);(try simp only[Pt]))
 apply Free.aR (Free.wq rfl) rfl
 ·intro w' hB hA;refine Free.au (f:=19) (args:= #[.int .i64 40]) (by clear hB hA;go_simp<;>rfl) ?_;refine(l5 w6.heap.size 40 w' (by decide) (by decide) hB.size).mono ?_;rintro e w3 ⟨b,rfl,hn3,hb3⟩;exact⟨_,rfl,hb3,b,rfl,hn3⟩
 intro x7;simp only[Pt];apply Free.aC (Free.wq rfl) rfl
 ·intro w' hB hA;have h7:=hA (2,_) dH (by kernel_rfl);dsimp only at h7;refine Free.au (f:=20) (args:= #[.agg cs.toArray, .int .i64 0, .int .i64 2, .slice (some ⟨w2.heap.size,0,none⟩) 2 2, .pointer (some ⟨x7,0,none⟩)]) (by clear hB hA h7;go_simp<;>rfl) ?_;have hbw:=HB6.out.trans (hB.mono HB6.out.size);have C:=mH (own:=0) (secret:=2) (pc:=2) (by decide) HT3.out HE3.out hbw HB6.out.size hB.size h7 (HCA.out w' hbw) (wv b1 b2) (HPS.out w' hbw) HPN.out;rw[<-ECS.out]at C;refine C.mono ?_;rintro e w7 ⟨hb7,⟨_,rfl⟩|⟨q,_⟩⟩
  ·exact⟨_,rfl,hb7,rfl⟩
  ·rw[Ti b1 b2]at q;cases q
 simp only[Pt];iterate 5 (apply Free.ae (Free.wq rfl) rfl;(intro w' hB hA;clear hA hB;go_light;go_simp<;>rfl);(try simp only[Pt]))
 apply Free.ax;intro w8 hb8 _ _;simp only[fm,fo];have HS8:=h_ (HS6.out.grow hb8);clear hb8 HS6 HB6;obtain⟨xs,exs⟩:=x_ (bU jA)
 have HIX:Hid ((Tryz.prog.info? 29).map (·.size)=some xs.length):=h_ (oI xs (by rw[exs];rfl));have EXS:=h_ exs;obtain⟨w9,e9⟩:=x_ (w8.alloc (.cells #[.int .i64 1, .int .i64 0, .int .i64 2, .int .i64 3, .int .i64 4, .bool false] 29))
 have hb9:Below w8.heap.size w8 w9:=by rw[e9];exact(Below.refl _ _).alloc (aL _) _
 have HS9:Hid (St w3 w9 40 pA o8 40 pB Br [(w8.heap.size,xs,29)]):=h_ (HS8.out.push hb9 (by rw[e9,exs];exact ay.new w8 (bU jA) _) (aL _));have HM9:Hid (w9.rangeAt w8.heap.size 0 xs):=h_ (rg_of (HS9.out.bg _ dH).1);have E9:Hid (w8.alloc (.cells #[.int .i64 1, .int .i64 0, .int .i64 2, .int .i64 3, .int .i64 4, .bool false] 29)=w9):=h_ e9.symm;have C9:Hid (Calls Tryz.prog 12 #[.pointer (some ⟨pA.o.hb,0,none⟩), .agg xs.toArray] w9 (bS w3 w9 40 pA iP (.tuple #[.agg (aK bF).toArray, .int .i64 0]))):=h_ (by
  have h:=jr jA HS9.out.two.a QI.inv Jt HS9.out.nF (HE3.out.below HS9.out.base (aL _)) QI.lim.1 QI.lim.2;rw[yz.1, <-exs]at h;exact h)
 clear exs e9 hb9 HS8;obtain⟨es1,ee1⟩:=x_ (aK bF)
 obtain⟨es2,ee2⟩:=x_ (aK cU)
 obtain⟨es0,ee0⟩:=x_ (aK aM)
 have HL1:Hid (es1.length=7):=h_ (by rw[ee1];rfl);have HL2:Hid (es2.length=7):=h_ (by rw[ee2];rfl);have HL0:Hid (es0.length=7):=h_ (by rw[ee0];rfl);have HI1:=h_ (cE es1 HL1.out);have HI2:=h_ (cE es2 HL2.out);have HI0:=h_ (cE es0 HL0.out);have HO1:Hid (∀u∈es1,u.oneCell'=true):=h_ (by rw[ee1];exact cm _);have HO2:Hid (∀u∈es2,u.oneCell'=true):=h_ (by rw[ee2];exact cm _);have HO0:Hid (∀u∈es0,u.oneCell'=true):=h_ (by rw[ee0];exact cm _);have EE1:=h_ ee1;have EE2:=h_ ee2;have EE0:=h_ ee0;rw[<-ee1]at C9;clear ee1 ee2 ee0;go_wp2_with (first
  |(simp only[E9.out])
  |(refine aH (.tmp 10) ?_;refine wpList_load_mid rfl 29 (.tmp 10) rfl w8.heap.size 0 rfl xs _ HM9.out Tryz.underlying29 rfl HIX.out ?_))
 refine C9.out.mono ?_;intro e w10 hp;obtain⟨rfl,oS,eo,eb,hs⟩:=HS9.out.mr hp;have EOA1:Hid (oS.o=pA.o):=h_ (eo);have EBA1:Hid (oS.b=pA.b):=h_ (eb);have HS10:=h_ hs;clear hp eo eb hs C9;obtain⟨w11,e11⟩:=x_ (w10.alloc (.cells es1.toArray 42))
 have E11:=h_ e11;have HS11:Hid (St w3 w11 40 oS iP 40 pB Br [(w10.heap.size,es1,42),(w8.heap.size,xs,29)]):=h_ (HS10.out.push (by rw[e11];exact(Below.refl _ _).alloc (aL _) _) (by rw[e11];exact ay.new w10 es1 _) (aL _));clear e11;have HM11:=h_ (rg_of (HS11.out.bg _ (iB _ dH)).1);have C11:Hid (Calls Tryz.prog 12 #[.pointer (some ⟨pA.o.hb,0,none⟩), .agg xs.toArray] w11 (bS w3 w11 40 oS iP (.tuple #[.agg es0.toArray, .int .i64 9]))):=h_ (by
  have h:=jr jA HS11.out.two.a xF.inv Jt HS11.out.nF (HE3.out.below HS11.out.base (aL _)) xF.lim.1 xF.lim.2;rw[OD, <-EXS.out,EOA1.out]at h;unfold gM fv at h;rw[<-EE0.out]at h;exact h)
 go_wp2_with (first
  |(refine aN (.tmp 11) ?_;refine Hk.aD rfl 42 (.tmp 11) (.tmp 79) rfl w10.heap.size es1.toArray rfl rfl _ 42 rfl (by rw[HI1.out];simp) (by simp[HL1.out]) (all_oneCell_toArray HO1.out) ?_;rw[<-E11.out];simp only[Pt])
  |(refine aH (.tmp 10) ?_;refine wpList_load_mid rfl 29 (.tmp 10) rfl w8.heap.size 0 rfl xs _ HM11.out Tryz.underlying29 rfl HIX.out ?_))
 refine C11.out.mono ?_;intro e w12 hp;obtain⟨rfl,Mt,eo,eb,hs⟩:=HS11.out.mr hp;have EOA2:Hid (Mt.o=pA.o):=h_ (eo.trans EOA1.out);have EBA2:Hid (Mt.b=pA.b):=h_ (eb.trans EBA1.out);have HS12:=h_ hs;clear hp eo eb hs C11;obtain⟨w13,e13⟩:=x_ (w12.alloc (.cells es0.toArray 42))
 have E13:=h_ e13;have HS13:Hid (St w3 w13 40 Mt iP 40 pB Br [(w12.heap.size,es0,42),(w10.heap.size,es1,42),(w8.heap.size,xs,29)]):=h_ (HS12.out.push (by rw[e13];exact(Below.refl _ _).alloc (aL _) _) (by rw[e13];exact ay.new w12 es0 _) (aL _));clear e13;have C13:Hid (Calls Tryz.prog 12 #[.pointer (some ⟨pA.o.hb,0,none⟩), .agg #[.int .i64 2, .int .i64 0, .int .i64 2, .int .i64 3, .int .i64 3, .bool false]] w13 (bS w3 w13 40 Mt iP (.tuple #[.agg es0.toArray, .int .i64 15]))):=h_ (by
  have h:=jr xB HS13.out.two.a xF.inv NC HS13.out.nF (HE3.out.below HS13.out.base (aL _)) xF.lim.1 xF.lim.2;rw[S6,EOA2.out]at h;unfold gM fv at h;rw[<-EE0.out]at h;exact h)
 go_wp2_with (first
  |(refine aN (.tmp 13) ?_;refine Hk.aD rfl 42 (.tmp 13) (.tmp 85) rfl w12.heap.size es0.toArray rfl rfl _ 42 rfl (by rw[HI0.out];simp) (by simp[HL0.out]) (all_oneCell_toArray HO0.out) ?_;rw[<-E13.out];simp only[Pt]))
 refine C13.out.mono ?_;intro e w14 hp;obtain⟨rfl,rM,eo,eb,hs⟩:=HS13.out.mr hp;have EOA3:Hid (rM.o=pA.o):=h_ (eo.trans EOA2.out);have EBA3:Hid (rM.b=pA.b):=h_ (eb.trans EBA2.out);have HS14:=h_ hs;clear hp eo eb hs C13;obtain⟨w15,e15⟩:=x_ (w14.alloc (.cells es0.toArray 42))
 have E15:=h_ e15;have HS15:Hid (St w3 w15 40 rM iP 40 pB Br [(w14.heap.size,es0,42),(w12.heap.size,es0,42),(w10.heap.size,es1,42),(w8.heap.size,xs,29)]):=h_ (HS14.out.push (by rw[e15];exact(Below.refl _ _).alloc (aL _) _) (by rw[e15];exact ay.new w14 es0 _) (aL _));clear e15;have C15:Hid (Calls Tryz.prog 39 #[.pointer (some ⟨pA.o.hb,0,none⟩), .agg (fq (uk,(⟨none,0,none,0⟩:Hd))).toArray] w15 (bS w3 w15 40 rM ng (.tuple #[.agg es2.toArray, .int .i64 0]))):=h_ (by
  have h:=MH (uk,(⟨none,0,none,0⟩:Hd)) HS15.out.two.a xF.inv ⟨SL.nil,SL.nil⟩ Rt (by show(tx kv.zero.text).size<=_;rw[tq];decide) (by decide) HS15.out.nF xF.lim.1 xF.lim.2;rw[xe.1,EOA3.out]at h;unfold gM fv at h;rw[<-EE2.out]at h;exact h)
 go_wp2_with (first
  |(refine aN (.tmp 15) ?_;refine Hk.aD rfl 42 (.tmp 15) (.tmp 91) rfl w14.heap.size es0.toArray rfl rfl _ 42 rfl (by rw[HI0.out];simp) (by simp[HL0.out]) (all_oneCell_toArray HO0.out) ?_;rw[<-E15.out];simp only[Pt]))
 refine C15.out.mono ?_;intro e w16 hp;obtain⟨rfl,pA4,eo,eb,hs⟩:=HS15.out.mr hp;have EOA4:Hid (pA4.o=pA.o):=h_ (eo.trans EOA3.out);have EBA4:Hid (pA4.b=pA.b):=h_ (eb.trans EBA3.out);have HS16:=h_ hs;clear hp eo eb hs C15;obtain⟨w17,e17⟩:=x_ (w16.alloc (.cells es2.toArray 42))
 have E17:=h_ e17;have HS17:Hid (St w3 w17 40 pA4 ng 40 pB Br [(w16.heap.size,es2,42),(w14.heap.size,es0,42),(w12.heap.size,es0,42),(w10.heap.size,es1,42),(w8.heap.size,xs,29)]):=h_ (HS16.out.push (by rw[e17];exact(Below.refl _ _).alloc (aL _) _) (by rw[e17];exact ay.new w16 es2 _) (aL _));clear e17;have HM17:=h_ (rg_of (HS17.out.bg _ (iB _ (iB _ (iB _ dH)))).1);have C17:Hid (Calls Tryz.prog 13 #[.pointer (some ⟨pB.o.hb,0,none⟩), .agg es1.toArray] w17 (bS w3 w17 40 pB nh (.int .i64 0))):=h_ (by
  have h:=ph bF HS17.out.two.b Su.inv Jr.1 (by have:=(yV bF (by simp)).2.1;omega) (by have:=(yV bF (by simp)).2.2.1;omega) HS17.out.nF Su.lim.1 Su.lim.2;rw[Ki.1, <-EE1.out]at h;exact h)
 go_wp2_with (first
  |(refine aN (.tmp 17) ?_;refine Hk.aD rfl 42 (.tmp 17) (.tmp 97) rfl w16.heap.size es2.toArray rfl rfl _ 42 rfl (by rw[HI2.out];simp) (by simp[HL2.out]) (all_oneCell_toArray HO2.out) ?_;rw[<-E17.out];simp only[Pt])
  |(refine aH (.tmp 11) ?_;refine wpList_load_mid rfl 42 (.tmp 11) rfl w10.heap.size 0 rfl es1 _ HM17.out Tryz.underlying42 rfl HI1.out ?_))
 refine C17.out.mono ?_;intro e w18 hp;obtain⟨rfl,Be,eo,eb,hs⟩:=HS17.out.DJ hp;have EOB1:Hid (Be.o=pB.o):=h_ (eo);have EBB1:Hid (Be.b=pB.b):=h_ (eb);have HS18:=h_ hs;clear hp eo eb hs C17;have HM18:=h_ (rg_of (HS18.out.bg _ dH).1);obtain⟨w19,e19⟩:=x_ (w18.alloc (.cells es2.toArray 42))
 have E19:=h_ e19;have HS19:Hid (St w3 w19 40 pA4 ng 40 Be nh [(w18.heap.size,es2,42),(w16.heap.size,es2,42),(w14.heap.size,es0,42),(w12.heap.size,es0,42),(w10.heap.size,es1,42),(w8.heap.size,xs,29)]):=h_ (HS18.out.push (by rw[e19];exact(Below.refl _ _).alloc (aL _) _) (by rw[e19];exact ay.new w18 es2 _) (aL _));clear e19;obtain⟨es3,ee3⟩:=x_ (es2.set 2 (.int .i64 6))
 have EE3:Hid (es3=aK oy):=h_ (by rw[ee3,EE2.out];rfl);have HI3:=h_ (cE es3 (by rw[EE3.out];rfl));have hbad:=(HS19.out.bg _ dH).1;have c19:=hbad.ag 2 (.int .i64 5) (by rw[EE2.out];rfl);have f19:=hbad.frozen 2;obtain⟨w20,e20⟩:=x_ (w19.setCell ⟨w18.heap.size,2,none⟩ (.int .i64 6))
 have E20:Hid (w19.setCell ⟨w18.heap.size,2,none⟩ (.int .i64 6)=w20):=h_ e20.symm;have HS20:Hid (St w3 w20 40 pA4 ng 40 Be nh [(w18.heap.size,es3,42),(w16.heap.size,es2,42),(w14.heap.size,es0,42),(w12.heap.size,es0,42),(w10.heap.size,es1,42),(w8.heap.size,xs,29)]):=h_ (by
  have h:=HS19.out.set (L':= [(w16.heap.size,es2,42),(w14.heap.size,es0,42),(w12.heap.size,es0,42),(w10.heap.size,es1,42),(w8.heap.size,xs,29)]) dH HS18.out.base.size (λx hx=>⟨iB _ hx,Nat.ne_of_lt (HS18.out.bg x hx).1.lt⟩) 2 (.int .i64 6);rw[<-e20, <-ee3]at h;exact h)
 clear ee3 e20 hbad;have HM20:=h_ (rg_of (HS20.out.bg _ dH).1);have C20:Hid (Calls Tryz.prog 13 #[.pointer (some ⟨pB.o.hb,0,none⟩), .agg es3.toArray] w20 (bS w3 w20 40 Be nh (.int .i64 17))):=h_ (by
  have h:=ph oy HS20.out.two.b PL.inv NA.1 (by show cU.prev.size<=_;have:=(yV cU (by simp)).2.1;omega) (by show cU.body.size<=_;have:=(yV cU (by simp)).2.2.1;omega) HS20.out.nF PL.lim.1 PL.lim.2;rw[RQ, <-EE3.out,EOB1.out]at h;exact h)
 go_wp2_with (first
  |(simp only[E20.out])
  |(refine aH (.tmp 17) ?_;refine wpList_load_mid rfl 42 (.tmp 17) rfl w16.heap.size 0 rfl es2 _ HM18.out Tryz.underlying42 rfl HI2.out ?_)
  |(refine aN (.tmp 20) ?_;refine Hk.aD rfl 42 (.tmp 20) (.tmp 102) rfl w18.heap.size es2.toArray rfl rfl _ 42 rfl (by rw[HI2.out];simp) (by simp[HL2.out]) (all_oneCell_toArray HO2.out) ?_;rw[<-E19.out];simp only[Pt])
  |(refine aH (.tmp 20) ?_;refine wpList_load_mid rfl 42 (.tmp 20) rfl w18.heap.size 0 rfl es3 _ HM20.out Tryz.underlying42 rfl HI3.out ?_))
 clear c19 f19;refine C20.out.mono ?_;intro e w21 hp;obtain⟨rfl,pB2,eo,eb,hs⟩:=HS20.out.DJ hp;have EOB2:Hid (pB2.o=pB.o):=h_ (eo.trans EOB1.out);have EBB2:Hid (pB2.b=pB.b):=h_ (eb.trans EBB1.out);have HS21:=h_ hs;clear hp eo eb hs C20;have C21:Hid (Calls Tryz.prog 24 #[.pointer (some ⟨pA.b,0,none⟩), .int .i64 0, .int .i64 0] w21 (bS w3 w21 40 pA4 jh (.tuple #[]))):=h_ (by
  have h:=HS21.out.two.a.fail 0 0 (by decide) (by decide) (by decide) (by decide);rw[EBA4.out]at h;unfold jh;exact h)
 go_wp2_with fail;refine C21.out.mono ?_;intro e w22 hp;obtain⟨rfl,pA5,eo,eb,hs⟩:=HS21.out.mr hp;have EOA5:Hid (pA5.o=pA.o):=h_ (eo.trans EOA4.out);have EBA5:Hid (pA5.b=pA.b):=h_ (eb.trans EBA4.out);have HS22:=h_ hs;clear hp eo eb hs C21;have C22:Hid (Calls Tryz.prog 12 #[.pointer (some ⟨pA.o.hb,0,none⟩), .agg #[.int .i64 2, .int .i64 0, .int .i64 2, .int .i64 3, .int .i64 9, .bool false]] w22 (bS w3 w22 40 pA5 tG (.tuple #[.agg es0.toArray, .int .i64 21]))):=h_ (by
  have h:=jr nR HS22.out.two.a Nt Js HS22.out.nF (HE3.out.below HS22.out.base (aL _)) I8.1 I8.2;rw[S5,EOA5.out]at h;unfold gM fv at h;rw[<-EE0.out]at h;exact h)
 go_wp2_with fail;refine C22.out.mono ?_;intro e w23 hp;obtain⟨rfl,pA6,eo,eb,hs⟩:=HS22.out.mr hp;have EOA6:Hid (pA6.o=pA.o):=h_ (eo.trans EOA5.out);have EBA6:Hid (pA6.b=pA.b):=h_ (eb.trans EBA5.out);have HS23:=h_ hs;clear hp eo eb hs C22;obtain⟨w24,e24⟩:=x_ (w23.alloc (.cells es0.toArray 42))
 have E24:=h_ e24;have HS24:Hid (St w3 w24 40 pA6 tG 40 pB2 nh [(w23.heap.size,es0,42),(w18.heap.size,es3,42),(w16.heap.size,es2,42),(w14.heap.size,es0,42),(w12.heap.size,es0,42),(w10.heap.size,es1,42),(w8.heap.size,xs,29)]):=h_ (HS23.out.push (by rw[e24];exact(Below.refl _ _).alloc (aL _) _) (by rw[e24];exact ay.new w23 es0 _) (aL _));clear e24;have C24:Hid (Calls Tryz.prog 12 #[.pointer (some ⟨pA.o.hb,0,none⟩), .agg #[.int .i64 2, .int .i64 0, .int .i64 2, .int .i64 3, .int .i64 9, .bool false]] w24 (bS w3 w24 40 pA6 tG (.tuple #[.agg es0.toArray, .int .i64 22]))):=h_ (by
  have h:=jr nR HS24.out.two.a QV Js HS24.out.nF (HE3.out.below HS24.out.base (aL _)) Ny.1 Ny.2;rw[QD,EOA6.out]at h;unfold gM fv at h;rw[<-EE0.out]at h;exact h)
 go_wp2_with (first
  |(refine aN (.tmp 22) ?_;refine Hk.aD rfl 42 (.tmp 22) (.tmp 113) rfl w23.heap.size es0.toArray rfl rfl _ 42 rfl (by rw[HI0.out];simp) (by simp[HL0.out]) (all_oneCell_toArray HO0.out) ?_;rw[<-E24.out];simp only[Pt]))
 refine C24.out.mono ?_;intro e w25 hp;obtain⟨rfl,pA7,eo,eb,hs⟩:=HS24.out.mr hp;have EOA7:Hid (pA7.o=pA.o):=h_ (eo.trans EOA6.out);have EBA7:Hid (pA7.b=pA.b):=h_ (eb.trans EBA6.out);have HS25:=h_ hs;clear hp eo eb hs C24;obtain⟨w26,e26⟩:=x_ (w25.alloc (.cells es0.toArray 42))
 have E26:=h_ e26;have HS26:Hid (St w3 w26 40 pA7 tG 40 pB2 nh [(w25.heap.size,es0,42),(w23.heap.size,es0,42),(w18.heap.size,es3,42),(w16.heap.size,es2,42),(w14.heap.size,es0,42),(w12.heap.size,es0,42),(w10.heap.size,es1,42),(w8.heap.size,xs,29)]):=h_ (HS25.out.push (by rw[e26];exact(Below.refl _ _).alloc (aL _) _) (by rw[e26];exact ay.new w25 es0 _) (aL _));clear e26;have C26:Hid (Calls Tryz.prog 25 #[.pointer (some ⟨pA.b,0,none⟩)] w26 (bS w3 w26 40 pA7 Tl (.tuple #[]))):=h_ (by
  have h:=HS26.out.two.a.start;rw[EBA7.out]at h;unfold Tl;exact h)
 go_wp2_with (first
  |(refine aN (.tmp 24) ?_;refine Hk.aD rfl 42 (.tmp 24) (.tmp 119) rfl w25.heap.size es0.toArray rfl rfl _ 42 rfl (by rw[HI0.out];simp) (by simp[HL0.out]) (all_oneCell_toArray HO0.out) ?_;rw[<-E26.out];simp only[Pt]))
 refine C26.out.mono ?_;intro e w27 hp;obtain⟨rfl,pA8,eo,eb,hs⟩:=HS26.out.mr hp;have EOA8:Hid (pA8.o=pA.o):=h_ (eo.trans EOA7.out);have EBA8:Hid (pA8.b=pA.b):=h_ (eb.trans EBA7.out);have HS27:=h_ hs;clear hp eo eb hs C26;have HB27:=h_ HS27.out.base;have HCM27:=h_ (HCM.out w27 HB27.out);have C27:Hid (Calls Tryz.prog 20 #[.agg cs.toArray, .int .i64 0, .int .i64 5, .slice (some ⟨w2.heap.size,0,none⟩) 2 2, .pointer (some ⟨pA.b,0,none⟩)] w27 (GU w3 w27 pA8.b pA8.bs pA8.bm 40 pA8.pv (rJ b1 b2) 0 5 gq ⟨tG.js.d.start,ng.js.v,ng.js.a,[bF,cU].map λe=>(aP e).data.toList,false⟩ [bF,cU])):=h_ (by
  have hdk:aI w27 pA8.b pA8.bs pA8.bm pA8.pv tG.js.d.start 40:=by have h:=HS27.out.two.a.pj.j.ly;unfold Tl at h;exact h
  have h:=uY (own:=0) (secret:=5) (pc:=2) (c:=rJ b1 b2) (pubs:=gq) [bF,cU] HT3.out HE3.out HB27.out hdk HS27.out.two.a.pj.e.f O3 rfl (HCA.out w27 HB27.out) (wv b1 b2) (HPS.out w27 HB27.out) HPN.out yV Rk (by decide);rw[<-ECS.out,EBA8.out]at h;rw[EBA8.out];exact h)
 go_wp2_with (first
  |(refine aH (.tmp 1) ?_;refine wpList_load_mid rfl 27 (.tmp 1) rfl w1.heap.size 0 rfl cs _ HCM27.out Tryz.underlying27 rfl HI.out ?_))
 refine C27.out.mono ?_;rintro e w28 ⟨hb28,⟨q,_⟩|⟨_,pG,_,_,_,_,hpf,rfl,hG⟩⟩
 ·rw[Rw b1 b2]at q;cases q
 have HS28:Hid (St w3 w28 40 pG sG 40 pB2 nh [(w25.heap.size,es0,42),(w23.heap.size,es0,42),(w18.heap.size,es3,42),(w16.heap.size,es2,42),(w14.heap.size,es0,42),(w12.heap.size,es0,42),(w10.heap.size,es1,42),(w8.heap.size,xs,29)]):=h_ (by
  have h:=HS27.out.grow hb28;refine⟨⟨by unfold sG;exact hG,h.two.b,λk h1 h2=> ?_⟩,λx hx=>⟨(h.bg x hx).1,λh1=> ?_,(h.bg x hx).2.2⟩⟩
  ·rcases hpf k h1 with q|q
   ·exact h.two.off k (.inr (.inr (.inr q))) h2
   ·have:=HS27.out.two.b.lt h2;omega
  ·rcases hpf _ h1 with q|q
   ·exact(h.bg x hx).2.1 (.inr (.inr (.inr q)))
   ·have:=(HS27.out.bg x hx).1.lt;omega)
 clear hb28 hpf hG C27 HS27 HB27 HCM27;have HM28:=h_ (rg_of (HS28.out.bg _ (iB _ (iB _ (iB _ (iB _ (iB _ (iB _ dH))))))).1);have C28:=h_ (take_nil bF w28);rw[<-EE1.out]at C28;go_wp2_with (first
  |(refine aH (.tmp 11) ?_;refine Row.still (Free.wq rfl) (Hk.aU 42 (.tmp 11) rfl w10.heap.size 0 rfl es1 _ HM28.out Tryz.underlying42 rfl HI1.out) ?_;simp only[Pt]))
 refine C28.out.mono ?_;rintro e w29 ⟨rfl,hb29⟩;have HS29:=h_ (HS28.out.grow hb29);clear hb29 C28 HS28;go_wp2_with fail;refine(yu w29).mono ?_;rintro e w' ⟨rfl,rfl⟩;have k1:=(HS29.out.bg _ (iB _ (iB _ (iB _ (iB _ (iB _ (iB _ dH))))))).1;have k2:=(HS29.out.bg _ (iB _ (iB _ (iB _ dH)))).1;have g1:=k1.ag 1 (.int .i64 0) (by rw[EE1.out];rfl);have g2:=k1.ag 2 (.int .i64 4) (by rw[EE1.out];rfl);have g4:=k1.ag 4 (.string jk) (by rw[EE1.out];rfl);have g7:=k2.ag 1 (.int .i64 1) (by rw[EE2.out];rfl);have g8:=k2.ag 4 (.string gL) (by rw[EE2.out];rfl);unfold jk at g4;unfold gL at g8;have C29:=h_ (EH pB2.o nh w29 2 Rz HS29.out.two.b.hr PL.inv HS29.out.nF (HE3.out.below HS29.out.base (aL _)));rw[EOB2.out]at C29;clear k1 k2;go_wp2_with fail;refine C29.out.mono ?_;rintro e w30 ⟨rfl,ac,hac,hif⟩;obtain⟨x0,hx0⟩:∃x0,ac[0]? =some x0:=⟨_,eH (by omega)⟩
 obtain⟨l0,hp0,_,hs0,hc0,_⟩:=hif.fs 0 x0 hx0;have hfb:dP nh ((0:Nat):Int)= [jA]:=OG.1;rw[hfb]at hp0 hc0;have hl0:l0= [jA]:=List.perm_singleton.1 hp0;subst hl0;obtain⟨fs0,efs⟩:=x_ (pZ 0 x0.1 1 x0.2)
 have HM30:Hid (∀w',Below w30.heap.size w30 w'->w'.rangeAt w29.heap.size 0 fs0):=h_ λw' h j v hj=>by
  have hb:=hif.bg.below h hif.bg.lt;have hj3:j<3:=by rw[efs]at hj;exact(jS.1 hj).1
  have h1:=mE (s:=nh) (N:=2) (ac:=ac) (j:=0) (p:=j) (by decide) hj3;have h2:jY nh ac 0=fs0:=by unfold jY;rw[hx0,efs];unfold Iv;rw[hfb];rfl
  rw[h2,hj]at h1;rw[show 0*3+j=0+j by omega]at h1;exact hb.ag (0+j) v h1
 have HIF:=h_ (show(Tryz.prog.info? 81).map (·.size)=some fs0.length by rw[efs];kernel_rfl);have HSF:Hid (∀w',Below w30.heap.size w30 w'->SL w' 6 bU x0.1 [jA]):=h_ λw' h=>hs0.below h (aL _)
 have EFS:=h_ efs;have HS30:=h_ (HS29.out.grow hif.below);have HMX:Hid (∀w',Below w30.heap.size w30 w'->w'.rangeAt w8.heap.size 0 xs):=h_ λw' h=>rg_of (((HS30.out.grow h).bg _ (iB _ (iB _ (iB _ (iB _ (iB _ (iB _ (iB _ dH)))))))).1)
 have HM1:Hid (∀w',Below w30.heap.size w30 w'->w'.rangeAt w10.heap.size 0 es1):=h_ λw' h=>rg_of (((HS30.out.grow h).bg _ (iB _ (iB _ (iB _ (iB _ (iB _ (iB _ dH))))))).1)
 have HM2:Hid (∀w',Below w30.heap.size w30 w'->w'.rangeAt w16.heap.size 0 es2):=h_ λw' h=>rg_of (((HS30.out.grow h).bg _ (iB _ (iB _ (iB _ dH)))).1)
 clear hac hx0 hp0 hc0 hs0 hfb efs hif g1 g2 g4 g7 g8 C29;go_wp2_with fail;refine Free.ai 46 [(27, .ind (λx=> .slice (some ⟨x,0,none⟩) 1 1) (λx w=>SL w 6 bU (some ⟨x,0,none⟩) [jA])),(29, .det (.bool true)),(33, .ind (oK 2) (λx w=>SL w 7 aK (aS x) [bF,cU])),(36, .ind (λx=> .slice (some ⟨x,0,none⟩) 2 2) (λx w=>SL w 7 aK (some ⟨x,0,none⟩) [bF,cU])),
  (37, .det (.bool true)),(41, .ind (λx=> .slice (some ⟨x,0,none⟩) 2 2) (λx w=>SL w 1 Cs.encI (some ⟨x,0,none⟩) [2,0])),(42, .ind (λx=> .slice (some ⟨x,0,none⟩) 2 2) (λx w=>SL w 1 Cs.encI (some ⟨x,0,none⟩) [2,0])),(43, .det (.bool true))] (λw'=>Below w30.heap.size w30 w') (by kernel_rfl) (by kernel_rfl) (Ri rfl) (Below.refl _ _).drew (λ_ _ h g=>h.trans (Below.mono g h.size)) ?_
 simp only[eJ,dT];iterate 25 (apply Free.ae (Free.wq rfl) rfl;(intro w' hB hA;clear hA hB;go_light;go_simp<;>rfl);(try simp only[Pt]))
 apply Free.ae (Free.wq rfl) rfl
 ·intro w' hB hA;exact Hk.aU 81 (.tmp 214) rfl w29.heap.size 0 rfl fs0 _ (HM30.out w' hB) Tryz.underlying81 rfl HIF.out
 simp only[Pt];apply Free.ae (Free.wq rfl) rfl
 ·intro w' hB hA;exact Hk.aU 29 (.tmp 10) rfl w8.heap.size 0 rfl xs _ (HMX.out w' hB) Tryz.underlying29 rfl HIX.out
 simp only[Pt];apply Free.aR (Free.wq rfl) rfl
 ·intro w' hB hA;have h:=Ju jA w';rw[<-EXS.out]at h;refine Free.cq (fB rfl h) ⟨(Below.refl _ _).alloc (aL _) _,w'.heap.size,rfl, ?_⟩;exact cO (λ_=>rfl) (ay.new w' xs 29) (λj u hj=>by rw[EXS.out];simpa using hj)
 intro y27;simp only[Pt];iterate 5 (first|(apply Free.aC (Free.wq rfl) rfl;(intro w' hB hA;have h27:=hA (27,_) dH (by kernel_rfl);dsimp only at h27;refine Free.au (f:=40) (args:= #[.agg fs0.toArray, .agg (pZ 0 (some ⟨y27,0,none⟩) 1 1).toArray]) (by clear hB hA h27;go_simp<;>rfl) ?_;have C:=Bs 0 x0.1 (some ⟨y27,0,none⟩) x0.2 1 [jA] w' (HSF.out w' hB) h27 (by decide);rw[EFS.out];refine C.mono ?_;rintro e w5' ⟨rfl,hb5⟩;exact⟨_,rfl,hb5,rfl⟩);simp only[Pt])|(apply Free.ae (Free.wq rfl) rfl;(intro w' hB hA;clear hA hB;go_light;go_simp<;>rfl);(try simp only[Pt])))
 apply Free.aR (Free.wq rfl) rfl
 ·intro w' hB hA;refine Free.au (f:=14) (args:= #[.pointer (some ⟨pG.o.hb,0,none⟩)]) (by clear hB hA;go_simp<;>rfl) ?_;have C:=jE pG.o sG w' (HS30.out.grow hB).two.a.hr QW;rw[SO]at C;refine C.mono ?_;rintro e w5' ⟨v,rfl,ho,hb5⟩;obtain⟨A,c,rfl,_,hs⟩:=gV (l:= [bF,cU]) bT ho;have hA2:(A=none/\c=0)\/∃g,A=some ⟨g,0,none⟩:=by
   rcases ho.2 with⟨h1,_⟩|⟨g,cap,cur,h1,_⟩
   ·injection h1 with h1 _ h3;exact .inl ⟨h1,h3⟩
   ·injection h1 with h1 _ h3;exact .inr ⟨g,h1⟩
  obtain⟨x,rfl,rfl⟩:=Hb hA2;exact⟨_,rfl,hb5,x,rfl,hs⟩
 intro y33;simp only[Pt];apply Free.ae (Free.wq rfl) rfl
 ·intro w' hB hA;exact Hk.aU 42 (.tmp 11) rfl w10.heap.size 0 rfl es1 _ (HM1.out w' hB) Tryz.underlying42 rfl HI1.out
 simp only[Pt];apply Free.ae (Free.wq rfl) rfl
 ·intro w' hB hA;exact Hk.aU 42 (.tmp 17) rfl w16.heap.size 0 rfl es2 _ (HM2.out w' hB) Tryz.underlying42 rfl HI2.out
 simp only[Pt];apply Free.aR (Free.wq rfl) rfl
 ·intro w' hB hA;have h:=Kn bF cU w';rw[<-EE1.out, <-EE2.out]at h;refine Free.cq (lU rfl h) ⟨(Below.refl _ _).alloc (aL _) _,w'.heap.size,rfl, ?_⟩;exact cO bT (ay.new w' (es1++es2) 42) (λj u hj=>by rw[EE1.out,EE2.out];simpa using hj)
 intro y36;simp only[Pt];apply Free.aC (Free.wq rfl) rfl
 ·intro w' hB hA;have h36:=hA (36,_) dH (by kernel_rfl);have h33:=hA (33,_) (iB _ dH) (by kernel_rfl);dsimp only at h36 h33;refine Free.au (f:=17) (args:= #[oK 2 y33, .slice (some ⟨y36,0,none⟩) 2 2]) (by clear hB hA h36 h33;go_simp<;>rfl) ?_;refine(zu (aS y33) (some ⟨y36,0,none⟩) (cS y33) 2 [bF,cU] [bF,cU] w' h33 h36 (by decide)).mono ?_;rintro e w5' ⟨rfl,hb5⟩;exact⟨_,rfl,hb5,by rw[(ki _ _).2 rfl]⟩
 simp only[Pt];iterate 3 (apply Free.ae (Free.wq rfl) rfl;(intro w' hB hA;clear hA hB;go_light;go_simp<;>rfl);(try simp only[Pt]))
 apply Free.aR (Free.wq rfl) rfl
 ·intro w' hB hA;refine Free.au (f:=42) (args:= #[.pointer (some ⟨pG.o.hb,0,none⟩)]) (by clear hB hA;go_simp<;>rfl) ?_;have C:=yN pG.o sG w' (HS30.out.grow hB).two.a.hr QW;rw[Ra]at C;refine C.mono ?_;rintro e w5' ⟨rfl,hmi⟩;exact⟨_,rfl,hmi.below,w'.heap.size,rfl,mO (l:= [2,0]) hmi.bg⟩
 intro y41;simp only[Pt];apply Free.aR (Free.wq rfl) rfl
 ·intro w' hB hA;refine Free.cq (lU rfl (zO 2 0 w')) ⟨(Below.refl _ _).alloc (aL _) _,w'.heap.size,rfl, ?_⟩;exact mO (l:= [2,0]) (ay.new w' [.int .i64 2, .int .i64 0] 3)
 intro y42;simp only[Pt];apply Free.aC (Free.wq rfl) rfl
 ·intro w' hB hA;have h42:=hA (42,_) dH (by kernel_rfl);have h41:=hA (41,_) (iB _ dH) (by kernel_rfl);dsimp only at h42 h41;refine Free.au (f:=41) (args:= #[.slice (some ⟨y41,0,none⟩) 2 2, .slice (some ⟨y42,0,none⟩) 2 2]) (by clear hB hA h42 h41;go_simp<;>rfl) ?_;refine(AS (some ⟨y41,0,none⟩) 2 [2,0] (some ⟨y42,0,none⟩) 2 [2,0] w' h41 h42 (by decide) (by decide)).mono ?_;rintro e w5' ⟨rfl,hb5⟩;exact⟨_,rfl,hb5,by simp⟩
 simp only[Pt];iterate 2 (apply Free.ae (Free.wq rfl) rfl;(intro w' hB hA;clear hA hB;go_light;go_simp<;>rfl);(try simp only[Pt]))
 apply Free.ax;intro wz hz _ _;simp only[fm,fo];have HF:=h_ (FIN.out wz (HB3.out.trans ((HS30.out.base.trans (hz.mono HS30.out.base.size)).mono HB3.out.size)));clear FIN hz;go_wp2_with fail;(try go_ret);exact HF.out
end Go.Proofs.YtkmbmfengcdmoaaGreatDoor
