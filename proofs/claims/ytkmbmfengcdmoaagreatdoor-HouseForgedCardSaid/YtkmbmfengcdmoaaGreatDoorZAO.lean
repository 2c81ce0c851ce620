/- Package contract: Valid. Condition: the contract lies in memory. -/
import Derived.Test.YtkmbmfengcdmoaaGreatDoorCvG
set_option maxRecDepth 100000
set_option linter.all false
namespace Go.Cv
open Go Go.Cs
def sn(C:Nat)(i:Nat)(s:Int×Int):Bool:=(decide (0<=s.1)&&decide (s.1<(C:Int)))&&(!(s.1==(i:Int))&&(decide (1<=s.2)&&decide (s.2<=4)))
def mc(acs:List zY)(k:mT):Bool:=if(k.fh != -1)||(k.resume != -1)then !(k.fh==k.resume)&&(lz acs k.fh&&lz acs k.resume)else true
def wO(us:List Un)(i:Int):Bool:=match us[i.toNat]? with|some u=>u.kind==2|none=>false
def jy(H:Nat)(us:List Un)(k:mT):Bool:=
 if k.unit== -1 then wX k.num k.den&&(k.toK== -1)
 else((k.kind==1)||(k.kind==2))&&(decide (0<=k.unit)&&(decide (k.unit<(us.length:Int))&&(wO us k.unit&&(rB k.num k.den&&ja H k.toK))))
def fW(c:NV)(i:Nat)(k:mT):Bool:=
 (decide (0<=k.act)&&(decide (k.act<(c.bQ.length:Int))&&(decide (1<=k.after)&&decide (k.after<=400))))&&((oJ c.aE.length c.bQ k&&decide (k.start.length<=8))&&(k.start.all (sn c.cls.length i)&&(mc c.bQ k&&jy c.aE.length c.bP k)))
end Go.Cv
namespace Go.Proofs.YtkmbmfengcdmoaaGreatDoor
open Go.RowKit Go.W32 Go.ay Go.Cs Go.Lib Go.Opn Go.Mg Go.Cv

theorem IS(cs:List Value)(h:cs.length=16):(Tryz.prog.info? 34).map (·.size)=some cs.length:=by rw[h];kernel_rfl
theorem Dd(cs:List Value)(h:cs.length=2):(Tryz.prog.info? 214).map (·.size)=some cs.length:=by rw[h];kernel_rfl
theorem MR{cs:List Value}(hcl:cs.length=16)(hc1:∀v∈cs,v.oneCell'=true)(s t:Nat)(W0 W1:World)(b:Nat)(hb:b=W0.heap.size)(e1:W1=W0.alloc (.cells cs.toArray 34))(Q:Exit->Act->World->Prop)(ops:Array Oper)(rest:List Oper)(o:Oper)(a:Act)(hgd:o.guard=none)(ho:o.op= .store 34 (.tmp s) (.tmp t))(hx:a.eval (.tmp s)= .pointer (some ⟨b,0,none⟩))(hy:a.eval (.tmp t)= .agg cs.toArray)(ju:Array Value)(hold:ju.size=16)(hk:wpList Tryz.prog ops Q rest (a.put o.dst undef) W1):wpList Tryz.prog ops Q (o::rest) a (W0.alloc (.cells ju 34)):=by rw[e1]at hk;exact Hk.aD hgd 34 (.tmp s) (.tmp t) ho b _ hx hy ju 34 hb (by rw[IS cs hcl];simp) (by rw[hold];simp[hcl]) (all_oneCell_toArray hc1) hk
theorem Ke{cs:List Value}(hcl:cs.length=2)(hc1:∀v∈cs,v.oneCell'=true)(s t:Nat)(W0 W1:World)(b:Nat)(hb:b=W0.heap.size)(e1:W1=W0.alloc (.cells cs.toArray 214))(Q:Exit->Act->World->Prop)(ops:Array Oper)(rest:List Oper)(o:Oper)(a:Act)(hgd:o.guard=none)(ho:o.op= .store 214 (.tmp s) (.tmp t))(hx:a.eval (.tmp s)= .pointer (some ⟨b,0,none⟩))(hy:a.eval (.tmp t)= .agg cs.toArray)(ju:Array Value)(hold:ju.size=2)(hk:wpList Tryz.prog ops Q rest (a.put o.dst undef) W1):wpList Tryz.prog ops Q (o::rest) a (W0.alloc (.cells ju 214)):=by rw[e1]at hk;exact Hk.aD hgd 214 (.tmp s) (.tmp t) ho b _ hx hy ju 214 hb (by rw[Dd cs hcl];simp) (by rw[hold];simp[hcl]) (all_oneCell_toArray hc1) hk
theorem Et(k:Kl):∀v∈oz k,v.oneCell'=true:=sy _ _ rfl
theorem Er(s:Int×Int):∀v∈fX s,v.oneCell'=true:=λv hv=>by
 simp only[fX,lC,DR,DW]at hv;rcases hv with rfl|rfl<;>rfl
theorem rn.rg{w:World}{b:Nat}{k:mT}{st:Value}(h:rn w b k st):w.rangeAt b 11 [.int .i64 k.num, .int .i64 k.den]:=by
 intro j v hj
 match j,hj with
 |0,hj=>cases hj;exact h.xH
 |1,hj=>cases hj;exact h.xI
 |j+2,hj=>simp at hj
set_option maxHeartbeats 8000000 in
theorem Aj(c:cZ)(i:Nat)(k:Kl)(W:World)(hc:dV W c)(hl:rW c)(hk:c.iH[i]? =some k)(hst:k.1.start.length<=9223372036854775807):Calls Tryz.prog 99 #[.agg (cD c).toArray, .int .i64 (i:Int)] W λe w'=>e= .returned (.bool (fW c.iU i k.1))/\Below W.heap.size W w':=by
 obtain⟨R,eR⟩:=x_ (λe w'=>e= .returned (.bool (fW c.iU i k.1))/\Below W.heap.size W w':Ending->World->Prop)
 rw[<-eR];have FIN:Hid (∀w' v,v=fW c.iU i k.1->Below W.heap.size W w'->R (.returned (.bool v)) w'):=h_ λw' v h hb=>by rw[eR,h];exact⟨rfl,hb⟩
 clear eR;have HV0:Hid (fW c.iU i k.1=((decide (0<=k.1.act)&&(decide (k.1.act<(c.bQ.length:Int))&&(decide (1<=k.1.after)&&decide (k.1.after<=400))))&&((oJ c.aE.length c.bQ k.1&&decide (k.1.start.length<=8))&&(k.1.start.all (sn c.iH.length i)&&(mc c.bQ k.1&&jy c.aE.length c.bP k.1))))):=h_ (by unfold fW cZ.iU;simp only[rm]);obtain⟨W1,cs,hx⟩:=uh W c;have hil:i<c.iH.length:=(jS.1 hk).1;have hii:(i:Int)<(c.iH.length:Int):=by omega
 have hi0:(0:Int)<=(i:Int):=by omega
 have hKA:=hc.k.below hx.below (aL _);obtain⟨kb,ko,eK⟩:=cG hKA (by intro e;rw[e]at hil;simp at hil);rw[eK]at hKA;obtain⟨ds,eds⟩:=x_ (oz k)
 have hdl:ds.length=16:=by rw[eds];rfl
 have HMk:Hid (W1.rangeAt kb (ko+i*16) ds):=h_ (by rw[eds];exact dq hKA hk);have HIk:=h_ (IS ds hdl);obtain⟨W2,e2⟩:=x_ (W1.alloc (.cells ds.toArray 34))
 have hr2:Row W2 W1.heap.size 34 ds:=by rw[e2];exact Row.new _ _ _
 have hb2:Below W1.heap.size W1 W2:=by rw[e2];exact(Below.refl _ _).alloc (aL _) _
 have HSk:=h_ (MR hdl (by rw[eds];exact Et k) 5 12 W1 W2 _ rfl e2);have hbw:=hx.below.trans (hb2.mono hx.below.size);have hr1:=hx.row.below hb2 hx.row.lt;have HK:Hid (∀w',Below W2.heap.size W2 w'->jK w' W.heap.size c/\w'.rangeAt W.heap.size 0 cs/\dV w' c/\rn w' W1.heap.size k.1 (.slice k.2.1 k.1.start.length k.2.2)/\w'.rangeAt W1.heap.size 0 ds/\Below W.heap.size W w'):=h_ λw' hb=>by
  have h1:=hr1.below hb hr1.lt;have h2:=hr2.below hb hr2.lt;exact⟨jK.of (T:=27) (by rw[<-hx.cs];exact h1),h1.rg,hc.below (hbw.trans (hb.mono hbw.size)) (aL _),rn.Rp (T:=34) (by rw[<-eds];exact h2),h2.rg,hbw.trans (hb.mono hbw.size)⟩
 obtain⟨k0,k1,k2,k3,k4,k5,k6⟩:=jK.of (T:=27) (b:=W.heap.size) (w:=W1) (c:=c) (by rw[<-hx.cs];exact hx.row);obtain⟨_,_,_,⟨q0,q1,q2,q3,q4,q5,q6,q7,q8,q9,zi,xH,xI,zj,zW,zk⟩,_,_⟩:=HK.out W2 (Below.refl _ _);obtain⟨⟨_,_,_,k3',_,_,_⟩,_⟩:=HK.out W2 (Below.refl _ _);have CK0:∀w',Below W2.heap.size W2 w'->Calls Tryz.prog 157 #[.agg cs.toArray, .agg ds.toArray] w' λe w''=>e= .returned (.bool (oJ c.aE.length c.bQ k.1))/\Below w'.heap.size w' w'':=λw' hb=>by
  rw[hx.cs,eds];exact IY c k w' (HK.out w' hb).2.2.1
 have CN:Hid (∀j w',Below W2.heap.size W2 w'->Calls Tryz.prog 158 #[.agg cs.toArray, .int .i64 j] w' λe w''=>e= .returned (.bool (lz c.bQ j))/\Below w'.heap.size w' w''):=h_ λj w' hb=>by
  rw[hx.cs];exact Dp c j w' (HK.out w' hb).2.2.1
 have CM:Hid (∀j w',Calls Tryz.prog 161 #[.agg cs.toArray, .int .i64 j] w' λe w''=>e= .returned (.bool (ja c.aE.length j))/\Below w'.heap.size w' w''):=h_ λj w'=>by
  rw[hx.cs];exact wP c j w'
 have HSTA:Hid (∀w',Below W2.heap.size W2 w'->SL w' 2 fX k.2.1 k.1.start):=h_ λw' hb=>(HK.out w' hb).2.2.1.st k (ue hk)
 have E1:=h_ hx.e;have HB2:=h_ hbw;have HI:=h_ (ig cs (by rw[hx.cs];rfl));have CK:=h_ CK0;have HLM:=h_ hl;have HSL:=h_ hst;rw[eK]at k4;rw[<-hx.cs];clear hx hKA eds hdl e2 hr2 hb2 hbw hr1 k0 k1 k2 k3 k5 k6 q0 q1 q3 q4 q6 q7 q8 q9 zi xH xI zj zW zk CK0 hl hst;by_cases h1:0<=k.1.act;rotate_left
 ·have d1:decide (0<=k.1.act)=false:=dy h1;have HF:=h_ (FIN.out W2 false (by rw[HV0.out];simp[d1]) HB2.out);clear FIN HV0;go_enter Tryz.func99,Tryz.ntmps99;go_wp2_with (first
   |(simp only[E1.out])
   |(refine aH (.tmp 11) ?_;refine wpList_load_mid rfl 34 (.tmp 11) rfl kb (ko+i*16) rfl ds _ HMk.out Tryz.underlying34 rfl HIk.out ?_)
   |(refine aN (.tmp 5) ?_;refine HSk.out _ _ _ _ _ rfl rfl rfl rfl _ (by simp) ?_;simp only[Pt]))
  exact HF.out
 have d1:decide (0<=k.1.act)=true:=dt h1;by_cases h2:k.1.act<(c.bQ.length:Int);rotate_left
 ·have d2:decide (k.1.act<(c.bQ.length:Int))=false:=dy h2;have HF:=h_ (FIN.out W2 false (by rw[HV0.out];simp[d2]) HB2.out);clear FIN HV0;go_enter Tryz.func99,Tryz.ntmps99;go_wp2_with (first
   |(simp only[E1.out])
   |(refine aH (.tmp 11) ?_;refine wpList_load_mid rfl 34 (.tmp 11) rfl kb (ko+i*16) rfl ds _ HMk.out Tryz.underlying34 rfl HIk.out ?_)
   |(refine aN (.tmp 5) ?_;refine HSk.out _ _ _ _ _ rfl rfl rfl rfl _ (by simp) ?_;simp only[Pt]))
  exact HF.out
 have d2:decide (k.1.act<(c.bQ.length:Int))=true:=dt h2;by_cases h3:1<=k.1.after;rotate_left
 ·have d3:decide (1<=k.1.after)=false:=dy h3;have HF:=h_ (FIN.out W2 false (by rw[HV0.out];simp[d3]) HB2.out);clear FIN HV0;go_enter Tryz.func99,Tryz.ntmps99;go_wp2_with (first
   |(simp only[E1.out])
   |(refine aH (.tmp 11) ?_;refine wpList_load_mid rfl 34 (.tmp 11) rfl kb (ko+i*16) rfl ds _ HMk.out Tryz.underlying34 rfl HIk.out ?_)
   |(refine aN (.tmp 5) ?_;refine HSk.out _ _ _ _ _ rfl rfl rfl rfl _ (by simp) ?_;simp only[Pt]))
  exact HF.out
 have d3:decide (1<=k.1.after)=true:=dt h3;by_cases h4:k.1.after<=400;rotate_left
 ·have d4:decide (k.1.after<=400)=false:=dy h4;have HF:=h_ (FIN.out W2 false (by rw[HV0.out];simp[d4]) HB2.out);clear FIN HV0;go_enter Tryz.func99,Tryz.ntmps99;go_wp2_with (first
   |(simp only[E1.out])
   |(refine aH (.tmp 11) ?_;refine wpList_load_mid rfl 34 (.tmp 11) rfl kb (ko+i*16) rfl ds _ HMk.out Tryz.underlying34 rfl HIk.out ?_)
   |(refine aN (.tmp 5) ?_;refine HSk.out _ _ _ _ _ rfl rfl rfl rfl _ (by simp) ?_;simp only[Pt]))
  exact HF.out
 have d4:decide (k.1.after<=400)=true:=dt h4;have HMK2:=h_ (HK.out W2 (Below.refl _ _)).2.1;have HMD2:=h_ (HK.out W2 (Below.refl _ _)).2.2.2.2.1;have CK2:=h_ (CK.out W2 (Below.refl _ _));obtain⟨KB,eKB⟩:=x_ (oJ c.aE.length c.bQ k.1)
 rw[<-eKB]at CK2;have HV1:Hid (fW c.iU i k.1=((KB&&decide (k.1.start.length<=8))&&(k.1.start.all (sn c.iH.length i)&&(mc c.bQ k.1&&jy c.aE.length c.bP k.1)))):=h_ (by rw[HV0.out,d1,d2,d3,d4,eKB];rfl);clear HV0 d1 d2 d3 d4 eKB CK;go_enter Tryz.func99,Tryz.ntmps99;go_wp2_with (first
  |(simp only[E1.out])
  |(refine aH (.tmp 11) ?_;refine wpList_load_mid rfl 34 (.tmp 11) rfl kb (ko+i*16) rfl ds _ HMk.out Tryz.underlying34 rfl HIk.out ?_)
  |(refine aN (.tmp 5) ?_;refine HSk.out _ _ _ _ _ rfl rfl rfl rfl _ (by simp) ?_;simp only[Pt])
  |(refine aH (.tmp 2) ?_;refine wpList_load_mid rfl 27 (.tmp 2) rfl W.heap.size 0 rfl cs _ HMK2.out Tryz.underlying27 rfl HI.out ?_)
  |(refine aH (.tmp 5) ?_;refine wpList_load_mid rfl 34 (.tmp 5) rfl W1.heap.size 0 rfl ds _ HMD2.out Tryz.underlying34 rfl HIk.out ?_))
 refine CK2.out.mono ?_;rintro e w3 ⟨rfl,hb3⟩;have HB3:=h_ hb3;obtain⟨_,_,_,⟨q0,q1,q2,q3,q4,q5,q6,q7,q8,q9,zi,xH,xI,zj,zW,zk⟩,_,_⟩:=HK.out w3 hb3;clear hb3 CK2 HMK2 HMD2 HSk HMk k3' k4 q0 q1 q2 q3 q5 q6 q7 q8 q9 zi xH xI zj zW zk h1 h2 h3 h4;cases KB with
 |false=>have HF:=h_ (FIN.out w3 false (by rw[HV1.out];rfl) (HK.out w3 HB3.out).2.2.2.2.2);clear FIN HV1;go_wp2_with fail;exact HF.out
 |true=>
 by_cases h5:k.1.start.length<=8;rotate_left
 ·have d5:decide ((8:Int)<(k.1.start.length:Int))=true:=dt (by omega);have HF:=h_ (FIN.out w3 false (by rw[HV1.out,dy h5];rfl) (HK.out w3 HB3.out).2.2.2.2.2);clear FIN HV1;go_wp2_with fail;exact HF.out
 have d5:decide ((8:Int)<(k.1.start.length:Int))=false:=dy (by omega);have h5i: ¬(8:Int)<(k.1.start.length:Int):=by omega
 have HV2:Hid (fW c.iU i k.1=(k.1.start.all (sn c.iH.length i)&&(mc c.bQ k.1&&jy c.aE.length c.bP k.1))):=h_ (by rw[HV1.out,dt h5];rfl);clear HV1;go_wp2_with fail;clear q4
 go_loopw [47] (λv wr=> ∃j:Nat,v= .int .i64 (j:Int)/\j<=k.1.start.length/\Hid ((k.1.start.take j).all (sn c.iH.length i)=true)/\Below W2.heap.size W2 wr) (λv _=>(k.1.start.length:Int).toNat- (RowKit.intOf v).toNat)
 case atStart=>exact⟨0,rfl,gu _,h_ rfl,HB3.out⟩
 case round=>
  obtain⟨j,rfl,hj,hal,hbw⟩:=hrel;have hjb:(j:Int)<=8:=by omega
  rcases pC hj with hjl|hjl
  ·have hji:(j:Int)<(k.1.start.length:Int):=by omega
   obtain⟨s,es'⟩:∃x,k.1.start[j]? =some x:=⟨_,eH hjl⟩
   have hS:=HSTA.out wr hbw;obtain⟨sb,so,eS⟩:=cG hS (by intro e;rw[e]at hjl;simp at hjl);rw[eS]at hS⊢;obtain⟨es,ees⟩:=x_ (fX s)
   have hel:es.length=2:=by rw[ees];rfl
   have HMs:Hid (wr.rangeAt sb (so+j*2) es):=h_ (by rw[ees];exact dq hS es');have HIs:=h_ (Dd es hel);obtain⟨Wk,ek⟩:=x_ (wr.alloc (.cells es.toArray 214))
   have hrk:Row Wk wr.heap.size 214 es:=by rw[ek];exact Row.new _ _ _
   have hbk:Below wr.heap.size wr Wk:=by rw[ek];exact(Below.refl _ _).alloc (aL _) _
   have HSs:=h_ (Ke hel (by rw[ees];exact Er s) 7 50 wr Wk _ rfl ek);have HBk:=h_ (hbw.trans (hbk.mono hbw.size));have s0:=hrk.at (show es[0]? =some (.int .i64 s.1) by rw[ees];rfl);have s1:=hrk.at (show es[1]? =some (.int .i64 s.2) by rw[ees];rfl);obtain⟨⟨_,_,_,_,k4,_,_⟩,_⟩:=HK.out Wk HBk.out;have HCV:Hid (sn c.iH.length i s=((decide (0<=s.1)&&decide (s.1<(c.iH.length:Int)))&&(!(s.1==(i:Int))&&(decide (1<=s.2)&&decide (s.2<=4))))):=h_ rfl;have ES:=h_ es';clear ees hel ek hrk hbk es' hS eS hbw hj;by_cases c1:0<=s.1;rotate_left
   ·have x1:decide (0<=s.1)=false:=dy c1;have x1':decide (s.1<0)=true:=dt (by omega);have HF:=h_ (FIN.out Wk false (by rw[HV2.out,il ES.out (by rw[HCV.out];simp[x1])];rfl) (HK.out Wk HBk.out).2.2.2.2.2);clear FIN HV2;go_wp2_with (first
     |(refine aH (.tmp 49) ?_;refine wpList_load_mid rfl 214 (.tmp 49) rfl sb (so+j*2) rfl es _ HMs.out Tryz.underlying214 rfl HIs.out ?_)
     |(refine aN (.tmp 7) ?_;refine HSs.out _ _ _ _ _ rfl rfl rfl rfl _ (by simp) ?_;simp only[Pt]))
    exact HF.out
   have x1:decide (0<=s.1)=true:=dt c1;have x1':decide (s.1<0)=false:=dy (by omega);by_cases c2:s.1<(c.iH.length:Int);rotate_left
   ·have x2:decide (s.1<(c.iH.length:Int))=false:=dy c2;have x2':decide ((c.iH.length:Int)<=s.1)=true:=dt (by omega);have HF:=h_ (FIN.out Wk false (by rw[HV2.out,il ES.out (by rw[HCV.out];simp[x2])];rfl) (HK.out Wk HBk.out).2.2.2.2.2);clear FIN HV2;go_wp2_with (first
     |(refine aH (.tmp 49) ?_;refine wpList_load_mid rfl 214 (.tmp 49) rfl sb (so+j*2) rfl es _ HMs.out Tryz.underlying214 rfl HIs.out ?_)
     |(refine aN (.tmp 7) ?_;refine HSs.out _ _ _ _ _ rfl rfl rfl rfl _ (by simp) ?_;simp only[Pt]))
    exact HF.out
   have x2:decide (s.1<(c.iH.length:Int))=true:=dt c2;have x2':decide ((c.iH.length:Int)<=s.1)=false:=dy (by omega);by_cases c3:s.1=(i:Int)
   ·have x3:(s.1==(i:Int))=true:=by simpa using c3
    have HF:=h_ (FIN.out Wk false (by rw[HV2.out,il ES.out (by rw[HCV.out,x3];simp)];rfl) (HK.out Wk HBk.out).2.2.2.2.2);clear FIN HV2 c3;go_wp2_with (first
     |(refine aH (.tmp 49) ?_;refine wpList_load_mid rfl 214 (.tmp 49) rfl sb (so+j*2) rfl es _ HMs.out Tryz.underlying214 rfl HIs.out ?_)
     |(refine aN (.tmp 7) ?_;refine HSs.out _ _ _ _ _ rfl rfl rfl rfl _ (by simp) ?_;simp only[Pt]))
    exact HF.out
   have x3:(s.1==(i:Int))=false:=by simpa using c3
   by_cases c4:1<=s.2;rotate_left
   ·have x4:decide (1<=s.2)=false:=dy c4;have x4':decide (s.2<1)=true:=dt (by omega);have HF:=h_ (FIN.out Wk false (by rw[HV2.out,il ES.out (by rw[HCV.out];simp[x4])];rfl) (HK.out Wk HBk.out).2.2.2.2.2);clear FIN HV2;go_wp2_with (first
     |(refine aH (.tmp 49) ?_;refine wpList_load_mid rfl 214 (.tmp 49) rfl sb (so+j*2) rfl es _ HMs.out Tryz.underlying214 rfl HIs.out ?_)
     |(refine aN (.tmp 7) ?_;refine HSs.out _ _ _ _ _ rfl rfl rfl rfl _ (by simp) ?_;simp only[Pt]))
    exact HF.out
   have x4:decide (1<=s.2)=true:=dt c4;have x4':decide (s.2<1)=false:=dy (by omega);by_cases c5:s.2<=4;rotate_left
   ·have x5:decide (s.2<=4)=false:=dy c5;have x5':decide (4<s.2)=true:=dt (by omega);have HF:=h_ (FIN.out Wk false (by rw[HV2.out,il ES.out (by rw[HCV.out];simp[x5])];rfl) (HK.out Wk HBk.out).2.2.2.2.2);clear FIN HV2;go_wp2_with (first
     |(refine aH (.tmp 49) ?_;refine wpList_load_mid rfl 214 (.tmp 49) rfl sb (so+j*2) rfl es _ HMs.out Tryz.underlying214 rfl HIs.out ?_)
     |(refine aN (.tmp 7) ?_;refine HSs.out _ _ _ _ _ rfl rfl rfl rfl _ (by simp) ?_;simp only[Pt]))
    exact HF.out
   have x5:decide (s.2<=4)=true:=dt c5;have x5':decide (4<s.2)=false:=dy (by omega);have HNX:Hid ((k.1.start.take (j+1)).all (sn c.iH.length i)=true):=h_ (lI ES.out hal.out (by rw[HCV.out,x1,x2,x3,x4,x5];rfl));clear c3 HCV;go_wp2_with (first
    |(refine aH (.tmp 49) ?_;refine wpList_load_mid rfl 214 (.tmp 49) rfl sb (so+j*2) rfl es _ HMs.out Tryz.underlying214 rfl HIs.out ?_)
    |(refine aN (.tmp 7) ?_;refine HSs.out _ _ _ _ _ rfl rfl rfl rfl _ (by simp) ?_;simp only[Pt]))
   go_roundw
   case rel=>exact⟨j+1,rfl,hjl,HNX,HBk.out⟩
   case measure=>simp[RowKit.intOf];omega
  ·have hji: ¬(j:Int)<(k.1.start.length:Int):=by omega
   have HV3:Hid (fW c.iU i k.1=(mc c.bQ k.1&&jy c.aE.length c.bP k.1)):=h_ (by
    have:=hal.out;rw[np (by omega)]at this;rw[HV2.out,this];rfl)
   have HB4:=h_ hbw;obtain⟨_,_,_,⟨q0,q1,q2,q3,q4,q5,q6,q7,q8,q9,zi,xH,xI,zj,zW,zk⟩,_,_⟩:=HK.out wr hbw;clear HV2 hal hbw hj hjl HB3 q0 q1 q2 q3 q4 q5 q6 q7 q8 xH zW zk;have HPV0:Hid (mc c.bQ k.1=(if(k.1.fh != -1)||(k.1.resume != -1)then !(k.1.fh==k.1.resume)&&(lz c.bQ k.1.fh&&lz c.bQ k.1.resume)else true)):=h_ rfl;clear xI zj;have pp:((k.1.fh== -1)=true/\(k.1.fh != -1)=false/\(k.1.resume== -1)=true/\(k.1.resume != -1)=false)\/((k.1.fh== -1)=true/\(k.1.fh != -1)=false/\(k.1.resume== -1)=false/\(k.1.resume != -1)=true)\/((k.1.fh== -1)=false/\(k.1.fh != -1)=true):=by by_cases p1:k.1.fh= -1<;>by_cases p2:k.1.resume= -1<;>simp[p1,p2]
   rcases pp with⟨m1,m1n,m2,m2n⟩|⟨m1,m1n,m2,m2n⟩|⟨m1,m1n⟩
   rotate_left;iterate 2
    have HPV:Hid (mc c.bQ k.1=(!(k.1.fh==k.1.resume)&&(lz c.bQ k.1.fh&&lz c.bQ k.1.resume))):=h_ (by rw[HPV0.out,m1n];first|rfl|(rw[m2n];rfl));clear HPV0;by_cases pr:k.1.fh=k.1.resume
    ·have b1:(k.1.fh==k.1.resume)=true:=by simpa using pr
     have HF2:=h_ (FIN.out wr false (by rw[HV3.out,HPV.out,b1];rfl) (HK.out wr HB4.out).2.2.2.2.2);clear FIN pr;go_wp2_with fail;exact HF2.out
    have b1:(k.1.fh==k.1.resume)=false:=by simpa using pr
    obtain⟨P1,eP1⟩:=x_ (lz c.bQ k.1.fh)
    obtain⟨P2,eP2⟩:=x_ (lz c.bQ k.1.resume)
    have HPW:Hid (mc c.bQ k.1=(P1&&P2)):=h_ (by rw[HPV.out,b1,eP1,eP2];rfl);have CN1:=h_ (CN.out k.1.fh wr HB4.out);rw[<-eP1]at CN1;have HMC:=h_ (HK.out wr HB4.out).2.1;clear pr HPV eP1;focus go_wp2_with (refine aH (.tmp 2) ?_;refine Row.still (Free.wq rfl) (Hk.aU 27 (.tmp 2) rfl W.heap.size 0 rfl cs _ HMC.out Tryz.underlying27 rfl HI.out) ?_;simp only[Pt])
    refine CN1.out.mono ?_;rintro e w5 ⟨rfl,hb5⟩;have HB5:=h_ (HB4.out.trans (hb5.mono HB4.out.size));clear hb5 CN1 HMC q9 zi;cases P1
    ·have HF2:=h_ (FIN.out w5 false (by rw[HV3.out,HPW.out];rfl) (HK.out w5 HB5.out).2.2.2.2.2);clear FIN;go_wp2_with fail;exact HF2.out
    obtain⟨_,hmc,_,⟨q0,q1,q2,q3,q4,q5,q6,q7,q8,q9,zi,xH,xI,zj,zW,zk⟩,_,_⟩:=HK.out w5 HB5.out;have HMC:=h_ hmc;have CN2:=h_ (CN.out k.1.resume w5 HB5.out);rw[<-eP2]at CN2;clear hmc eP2 q0 q1 q2 q3 q4 q5 q6 q7 q8 xH xI zj zW zk;focus go_wp2_with (refine aH (.tmp 2) ?_;refine Row.still (Free.wq rfl) (Hk.aU 27 (.tmp 2) rfl W.heap.size 0 rfl cs _ HMC.out Tryz.underlying27 rfl HI.out) ?_;simp only[Pt])
    refine CN2.out.mono ?_;rintro e wl ⟨rfl,hbl⟩;have HBl:=h_ (HB5.out.trans (hbl.mono HB5.out.size));clear hbl CN2 HMC q9 zi;cases P2
    ·have HF2:=h_ (FIN.out wl false (by rw[HV3.out,HPW.out];rfl) (HK.out wl HBl.out).2.2.2.2.2);clear FIN;go_wp2_with fail;exact HF2.out
    have HVe:Hid (fW c.iU i k.1=jy c.aE.length c.bP k.1):=h_ (by rw[HV3.out,HPW.out];rfl);clear HV3 HPW HB4 HB5;rotate_left
   have HVe:Hid (fW c.iU i k.1=jy c.aE.length c.bP k.1):=h_ (by rw[HV3.out,HPV0.out,m1n,m2n];rfl);have HBl:=h_ HB4.out;clear HV3 HPV0 HB4;generalize wr=wl at*;all_goals
    obtain⟨⟨k0,k1,k2,k3,k4,k5,k6⟩,_,hat,⟨q0,q1,q2,q3,q4,q5,q6,q7,q8,q9,zi,xH,xI,zj,zW,zk⟩,_,hbW⟩:=HK.out wl HBl.out;obtain⟨fs,efs⟩:=x_ ([.int .i64 k.1.num, .int .i64 k.1.den]:List Value)
    have HQ:Hid (∀w',Below wl.heap.size wl w'->rn w' W1.heap.size k.1 (.slice k.2.1 k.1.start.length k.2.2)):=h_ λw' hb=>(HK.out w' (HBl.out.trans (hb.mono HBl.out.size))).2.2.2.1
    have HF5:Hid (∀w',Below wl.heap.size wl w'->w'.rangeAt W1.heap.size 11 fs):=h_ λw' hb=>by rw[efs];exact(HQ.out w' hb).rg
    have HIF:=h_ (rL fs (by rw[efs];rfl));have EFS:Hid (Value.agg fs.toArray= .agg [.int .i64 k.1.num, .int .i64 k.1.den].toArray):=h_ (by rw[efs]);have CPO:=h_ (λw=>Ds k.1.num k.1.den w);rw[show(#[.int .i64 k.1.num, .int .i64 k.1.den]:Array Value)=fs.toArray by rw[efs]]at CPO;have HW:Hid (∀w' v,v=jy c.aE.length c.bP k.1->Below wl.heap.size wl w'->R (.returned (.bool v)) w'):=h_ λw' v h hb=>FIN.out w' v (by rw[HVe.out];exact h) (HK.out w' (HBl.out.trans (hb.mono HBl.out.size))).2.2.2.2.2
    have HVw:Hid (jy c.aE.length c.bP k.1=(if k.1.unit== -1 then wX k.1.num k.1.den&&(k.1.toK== -1)else((k.1.kind==1)||(k.1.kind==2))&&(decide (0<=k.1.unit)&&(decide (k.1.unit<(c.bP.length:Int))&&(wO c.bP k.1.unit&&(rB k.1.num k.1.den&&ja c.aE.length k.1.toK)))))):=h_ rfl;clear FIN HVe efs k0 k1 k3 k4 k5 k6 q1 q2 q3 q4 q5 q6 q7 q8 q9 zi xH xI zk hbW;by_cases u1:k.1.unit= -1
    ·have y1:(k.1.unit== -1)=true:=by simpa using u1
     obtain⟨Z,eZ⟩:=x_ (wX k.1.num k.1.den)
     have EZ:=h_ eZ;have HVz:Hid (jy c.aE.length c.bP k.1=(Z&&(k.1.toK== -1))):=h_ (by rw[HVw.out,y1,eZ];rfl);clear u1 HVw eZ;cases Z with
     |false=>
      have HG:Hid (∀w',Below wl.heap.size wl w'->R (.returned (.bool false)) w'):=h_ λw' hb=>HW.out w' false (by rw[HVz.out];rfl) hb
      clear HW;go_wp2_with fail;refine Free.ai 9 [(2, .det (.agg #[.int .i64 0, .int .i64 1]))] (λw'=>Below wl.heap.size wl w') (by kernel_rfl) (by kernel_rfl) (Free.aW (λj mk r hf=>by simp only[Free.find]at hf;repeat' (first|cases hf|split at hf))) (Below.refl _ _).drew (λ_ _ h g=>h.trans (Below.mono g h.size)) ?_;simp only[eJ,dT];iterate 9 (first|(apply Free.dw (by first|exact fk rfl rfl rfl rfl|exact mQ rfl rfl rfl);simp only[Pt])|(apply Free.ae (Free.wq rfl) rfl;(intro w' hB hA;exact Hk.aU 32 (.tmp 109) rfl W1.heap.size 11 rfl fs _ (HF5.out _ hB) Tryz.underlying32 rfl HIF.out);simp only[Pt])|(apply Free.aC (Free.wq rfl) rfl;(intro w' hB hA;refine Free.au (f:=159) (args:= #[]) (by clear hB hA;go_simp<;>rfl) ?_;refine(sV _).mono ?_;rintro e w3 ⟨rfl,hb3⟩;exact⟨_,rfl,hb3,rfl⟩);simp only[Pt])|(apply Free.ae (Free.wq rfl) rfl;(intro w' hB hA;exact qb rfl EFS.out rfl EZ.out);simp only[Pt])|(apply Free.ae (Free.wq rfl) rfl;(intro w' hB hA;cases HQ.out w' hB;clear hA;go_light;go_simp<;>rfl);(try simp only[Pt])))
      apply Free.ax;intro w6 hw6 _ _;simp only[fm,fo];have HF2:=h_ (HG.out w6 hw6);clear hw6 HG;go_wp2_with fail;exact HF2.out
     |true=>
      have HG:Hid (∀w',Below wl.heap.size wl w'->R (.returned (.bool (k.1.toK== -1))) w'):=h_ λw' hb=>HW.out w' (k.1.toK== -1) (by rw[HVz.out];rfl) hb
      clear HW;go_wp2_with fail;refine Free.ai 9 [(2, .det (.agg #[.int .i64 0, .int .i64 1]))] (λw'=>Below wl.heap.size wl w') (by kernel_rfl) (by kernel_rfl) (Free.aW (λj mk r hf=>by simp only[Free.find]at hf;repeat' (first|cases hf|split at hf))) (Below.refl _ _).drew (λ_ _ h g=>h.trans (Below.mono g h.size)) ?_;simp only[eJ,dT];iterate 9 (first|(apply Free.ae (Free.wq rfl) rfl;(intro w' hB hA;exact Hk.aU 32 (.tmp 109) rfl W1.heap.size 11 rfl fs _ (HF5.out _ hB) Tryz.underlying32 rfl HIF.out);simp only[Pt])|(apply Free.aC (Free.wq rfl) rfl;(intro w' hB hA;refine Free.au (f:=159) (args:= #[]) (by clear hB hA;go_simp<;>rfl) ?_;refine(sV _).mono ?_;rintro e w3 ⟨rfl,hb3⟩;exact⟨_,rfl,hb3,rfl⟩);simp only[Pt])|(apply Free.ae (Free.wq rfl) rfl;(intro w' hB hA;exact qb rfl EFS.out rfl EZ.out);simp only[Pt])|(apply Free.ae (Free.wq rfl) rfl;(intro w' hB hA;cases HQ.out w' hB;clear hA;go_light;go_simp<;>rfl);(try simp only[Pt])))
      apply Free.ax;intro w6 hw6 _ _;simp only[fm,fo];have HF2:=h_ (HG.out w6 hw6);clear hw6 HG;go_wp2_with fail;exact HF2.out
    have y1:(k.1.unit== -1)=false:=by simpa using u1
    have y1n:(k.1.unit != -1)=true:=by simpa using u1
    clear u1;have kd:(k.1.kind==1)=true\/((k.1.kind==1)=false/\(k.1.kind==2)=true)\/((k.1.kind==1)=false/\(k.1.kind==2)=false):=by cases (k.1.kind==1)<;>cases (k.1.kind==2)<;>simp
    rcases kd with z1|⟨z1,z2⟩|⟨z1,z2⟩
    rotate_left 2
    ·skip
     have HF2:=h_ (HW.out wl false (by rw[HVw.out];simp[z1,z2,y1]) (Below.refl _ _));clear HW;go_wp2_with fail;exact HF2.out
    all_goals
     have hz:((k.1.kind==1)||(k.1.kind==2))=true:=by first|(rw[z1];rfl)|(rw[z1,z2];rfl)
     by_cases u2:0<=k.1.unit;rotate_left
     ·have y2:decide (0<=k.1.unit)=false:=dy u2;have HF2:=h_ (HW.out wl false (by rw[HVw.out];simp[hz,y1,y2]) (Below.refl _ _));clear HW;go_wp2_with fail;exact HF2.out
     have y2:decide (0<=k.1.unit)=true:=dt u2;by_cases u3:k.1.unit<(c.bP.length:Int);rotate_left
     ·have y3:decide (k.1.unit<(c.bP.length:Int))=false:=dy u3;have HF2:=h_ (HW.out wl false (by rw[HVw.out];simp[hz,y1,y3]) (Below.refl _ _));clear HW;go_wp2_with fail;exact HF2.out
     have y3:decide (k.1.unit<(c.bP.length:Int))=true:=dt u3;obtain⟨n,hn⟩:∃n:Nat,k.1.unit=(n:Int):=⟨k.1.unit.toNat,by omega⟩
     obtain⟨un,eun⟩:∃x,c.bP[n]? =some x:=⟨_,eH (by omega)⟩
     have hU:=hat.u;obtain⟨ub,uo,eU⟩:=cG hU (by intro e;rw[e]at eun;simp at eun);rw[eU]at hU k2;have hni:(n:Int)<(c.bP.length:Int):=by omega
     have hn0:(0:Int)<=(n:Int):=by omega
     have cu:wl.cell? ⟨ub,uo+n*5+1,none⟩=some (.int .i64 un.kind):=(dq hU eun) 1 _ rfl;have HMO:Hid (wO c.bP k.1.unit=(un.kind==2)):=h_ (by unfold wO;rw[hn,tZ,eun]);rw[hn]at zj y2 y3 y1 y1n;have HVn:Hid (jy c.aE.length c.bP k.1=((un.kind==2)&&(rB k.1.num k.1.den&&ja c.aE.length k.1.toK))):=h_ (by rw[HVw.out,HMO.out,hn,y1,y2,y3,hz];simp);clear u2 u3 hn hU eU eun HMO;by_cases u4:un.kind=2;rotate_left
     ·have y4:(un.kind==2)=false:=by simpa using u4
      have HF2:=h_ (HW.out wl false (by rw[HVn.out];simp[y4]) (Below.refl _ _));clear HW u4;go_wp2_with fail;exact HF2.out
     have y4:(un.kind==2)=true:=by simpa using u4
     obtain⟨PB,ePB⟩:=x_ (rB k.1.num k.1.den)
     have CPl:=h_ (CPO.out wl);rw[<-ePB]at CPl HVn;have HMR:=h_ (HF5.out wl (Below.refl _ _));clear u4 ePB;go_wp2_with (refine aH (.tmp 150) ?_;refine Row.still (Free.wq rfl) (Hk.aU 32 (.tmp 150) rfl W1.heap.size 11 rfl fs _ HMR.out Tryz.underlying32 rfl HIF.out) ?_;simp only[Pt])
     refine CPl.out.mono ?_;rintro e w7 ⟨rfl,hb7⟩;have HB7:=h_ hb7;clear hb7 CPl HMR;cases PB with
     |false=>have HF2:=h_ (HW.out w7 false (by rw[HVn.out,y4];rfl) HB7.out);clear HW;go_wp2_with fail;exact HF2.out
     |true=>
      have hb27:=HBl.out.trans (HB7.out.mono HBl.out.size);obtain⟨_,hmc,_,⟨q0,q1,q2,q3,q4,q5,q6,q7,q8,q9,zi,xH,xI,zj,zW,zk⟩,_,_⟩:=HK.out w7 hb27;have HMC:=h_ hmc;obtain⟨MB,eMB⟩:=x_ (ja c.aE.length k.1.toK)
      have CM7:=h_ (CM.out k.1.toK w7);rw[<-eMB]at CM7 HVn;clear hmc eMB hb27;go_wp2_with (refine aH (.tmp 2) ?_;refine Row.still (Free.wq rfl) (Hk.aU 27 (.tmp 2) rfl W.heap.size 0 rfl cs _ HMC.out Tryz.underlying27 rfl HI.out) ?_;simp only[Pt])
      refine CM7.out.mono ?_;rintro e w8 ⟨rfl,hb8⟩;have HF2:=h_ (HW.out w8 MB (by rw[HVn.out,y4];rfl) (HB7.out.trans (hb8.mono HB7.out.size)));clear HW hb8 CM7;go_wp2_with fail;exact HF2.out
end Go.Proofs.YtkmbmfengcdmoaaGreatDoor
namespace Go.Cv
open Go Go.Cs
def Eg(c:NV)(i:Nat):Bool:=match c.cls[i]? with|some k=>fW c i k|none=>true
def sS(c:NV):Bool:=decide (c.aj<=12)&&(decide (c.days<=2000)&&(decide (c.aE.length<=12)&&(decide (c.bP.length<=20)&&(decide (c.bQ.length<=60)&&decide (c.cls.length<=400)))))
def jo(c:NV):Int:=if sS c then(if gy c&&(List.range c.cls.length).all (Eg c)then 0 else 1)else 3
end Go.Cv
namespace Go.Proofs.YtkmbmfengcdmoaaGreatDoor
open Go.RowKit Go.W32 Go.ay Go.Cs Go.Lib Go.Opn Go.Mg Go.Cv

def Aa(c:cZ)(W:World)(e:Ending)(w':World):Prop:=(∃i:Int,e= .returned (.tuple #[.int .i64 (jo c.iU), .int .i64 i]))/\Below W.heap.size W w'
set_option maxHeartbeats 4000000 in
theorem zP(c:cZ)(W:World)(hc:dV W c)(hz:lk c):Calls Tryz.prog 64 #[.agg (cD c).toArray] W (Aa c W):=by
 obtain⟨R,eR⟩:=x_ (Aa c W)
 rw[<-eR];have FIN:Hid (∀w' v i,v=jo c.iU->Below W.heap.size W w'->R (.returned (.tuple #[.int .i64 v, .int .i64 i])) w'):=h_ λw' v i h hb=>by rw[eR,h];exact⟨⟨i,rfl⟩,hb⟩
 clear eR;have HLB:Hid (sS c.iU=(decide (c.aj<=12)&&(decide (c.days<=2000)&&(decide (c.aE.length<=12)&&(decide (c.bP.length<=20)&&(decide (c.bQ.length<=60)&&decide (c.iH.length<=400))))))):=h_ (by unfold sS cZ.iU;simp only[rm]);obtain⟨W1,cs,hx⟩:=uh W c;obtain⟨k0,k1,k2,k3,k4,k5,k6⟩:=jK.of (T:=27) (b:=W.heap.size) (w:=W1) (c:=c) (by rw[<-hx.cs];exact hx.row);have HK:Hid (∀w',Below W1.heap.size W1 w'->jK w' W.heap.size c/\w'.rangeAt W.heap.size 0 cs/\dV w' c):=h_ λw' hb=>⟨jK.of (T:=27) (by rw[<-hx.cs];exact hx.row.below hb hx.row.lt),(hx.row.below hb hx.row.lt).rg,hc.below (hx.below.trans (hb.mono hx.below.size)) (aL _)⟩
 have E1:=h_ hx.e;have HB1:=h_ hx.below;have HI:=h_ (ig cs (by rw[hx.cs];rfl));have CF0:=fun(hl:rW c)=>AJ c W1 (HK.out W1 (Below.refl _ _)).2.2 hl hz
 have CC0:=fun(hl:rW c) (i:Nat) (k:Kl) (hk:c.iH[i]? =some k) (w':World) (hb:Below W1.heap.size W1 w')=>Aj c i k w' (HK.out w' hb).2.2 hl hk (hz.st k (ue hk))
 rw[<-hx.cs]at CF0⊢;simp only[<-hx.cs]at CC0;have CF:=h_ CF0;have CC:=h_ CC0;clear hx hc hz k6 CF0 CC0;by_cases h1:c.aj<=12;rotate_left
 ·have HF:=h_ (FIN.out W1 3 (-1) (by unfold jo;rw[show sS c.iU=false by rw[HLB.out];simp[h1]];rfl) HB1.out);clear FIN;go_enter Tryz.func64,Tryz.ntmps64;go_wp2_with (simp only[E1.out])
  exact HF.out
 by_cases h2:c.days<=2000;rotate_left
 ·have HF:=h_ (FIN.out W1 3 (-1) (by unfold jo;rw[show sS c.iU=false by rw[HLB.out];simp[h2]];rfl) HB1.out);clear FIN;go_enter Tryz.func64,Tryz.ntmps64;go_wp2_with (simp only[E1.out])
  exact HF.out
 by_cases h3:c.aE.length<=12;rotate_left
 ·have HF:=h_ (FIN.out W1 3 (-1) (by unfold jo;rw[show sS c.iU=false by rw[HLB.out];simp[h3]];rfl) HB1.out);clear FIN;go_enter Tryz.func64,Tryz.ntmps64;go_wp2_with (simp only[E1.out])
  exact HF.out
 by_cases h4:c.bP.length<=20;rotate_left
 ·have HF:=h_ (FIN.out W1 3 (-1) (by unfold jo;rw[show sS c.iU=false by rw[HLB.out];simp[h4]];rfl) HB1.out);clear FIN;go_enter Tryz.func64,Tryz.ntmps64;go_wp2_with (simp only[E1.out])
  exact HF.out
 by_cases h5:c.bQ.length<=60;rotate_left
 ·have HF:=h_ (FIN.out W1 3 (-1) (by unfold jo;rw[show sS c.iU=false by rw[HLB.out];simp[h5]];rfl) HB1.out);clear FIN;go_enter Tryz.func64,Tryz.ntmps64;go_wp2_with (simp only[E1.out])
  exact HF.out
 by_cases h6:c.iH.length<=400;rotate_left
 ·have HF:=h_ (FIN.out W1 3 (-1) (by unfold jo;rw[show sS c.iU=false by rw[HLB.out];simp[h6]];rfl) HB1.out);clear FIN;go_enter Tryz.func64,Tryz.ntmps64;go_wp2_with (simp only[E1.out])
  exact HF.out
 have hlim:rW c:=⟨h1,h3,h4,h5,h6⟩
 have HE:Hid (jo c.iU=if gy c.iU&&(List.range c.iH.length).all (Eg c.iU)then 0 else 1):=h_ (by
  unfold jo;rw[show sS c.iU=true by rw[HLB.out,dt h1,dt h2,dt h3,dt h4,dt h5,dt h6];rfl,show c.iU.cls.length=c.iH.length from rm _];rfl)
 have CF1:=h_ (CF.out hlim);have CC1:Hid (∀(i:Nat) k,c.iH[i]? =some k->∀w',Below W1.heap.size W1 w'->Calls Tryz.prog 99 #[.agg cs.toArray, .int .i64 (i:Int)] w' λe w''=>e= .returned (.bool (Eg c.iU i))/\Below w'.heap.size w' w''):=h_ λi k hk w' hb=>by
  have h:=CC.out hlim i k hk w' hb;have e:Eg c.iU i=fW c.iU i k.1:=by
   unfold Eg
   have:c.iU.cls[i]? =some k.1:=by show(c.iH.map Prod.fst)[i]? =_;rw[mx,hk];rfl
   rw[this]
  rw[e];exact h
 obtain⟨FB,eFB⟩:=x_ (gy c.iU)
 rw[<-eFB]at CF1 HE;obtain⟨ca,eca⟩:=x_ (Eg c.iU)
 rw[<-eca]at CC1 HE;have HMC:=h_ (HK.out W1 (Below.refl _ _)).2.1;have H6:=h_ h6;have i1:decide ((12:Int)<c.aj)=false:=dy (by omega);have i2:decide ((2000:Int)<c.days)=false:=dy (by omega);have i3:decide ((12:Int)<(c.aE.length:Int))=false:=dy (by omega);have i4:decide ((20:Int)<(c.bP.length:Int))=false:=dy (by omega);have i5:decide ((60:Int)<(c.bQ.length:Int))=false:=dy (by omega);have i6:decide ((400:Int)<(c.iH.length:Int))=false:=dy (by omega);clear CF CC eFB eca hlim HLB;go_enter Tryz.func64,Tryz.ntmps64;go_wp2_with (first
  |(simp only[E1.out])
  |(refine aH (.tmp 1) ?_;refine wpList_load_mid rfl 27 (.tmp 1) rfl W.heap.size 0 rfl cs _ HMC.out Tryz.underlying27 rfl HI.out ?_))
 refine CF1.out.mono ?_;rintro e w2 ⟨rfl,hb2⟩;obtain⟨⟨k0,k1,k2,k3,k4,k5,k6⟩,_,_⟩:=HK.out w2 hb2;have HB2:=h_ hb2;clear hb2 CF1 HMC k0 k1 k2 k3 k5 k6;cases FB with
 |false=>have HF:=h_ (FIN.out w2 1 (-1) (by rw[HE.out];rfl) (HB1.out.trans (HB2.out.mono HB1.out.size)));clear FIN HE;go_wp2_with fail;exact HF.out
 |true=>
 have HE2:Hid (jo c.iU=if(List.range c.iH.length).all ca then 0 else 1):=h_ (by rw[HE.out];rfl);clear HE;go_wp2_with fail
 go_loopw [43] (λv wr=> ∃k:Nat,v= .int .i64 (k:Int)/\k<=c.iH.length/\Hid ((List.range k).all ca=true)/\Below W1.heap.size W1 wr) (λv _=>(c.iH.length:Int).toNat- (RowKit.intOf v).toNat)
 case atStart=>exact⟨0,rfl,gu _,h_ rfl,HB2.out⟩
 case round=>
  obtain⟨k,rfl,hk,hal,hbw⟩:=hrel;have hkb:(k:Int)<=400:=by have:=H6.out;omega
  rcases pC hk with hkl|hkl
  ·have hki:(k:Int)<(c.iH.length:Int):=by omega
   obtain⟨x,ex⟩:∃x,c.iH[k]? =some x:=⟨_,eH hkl⟩
   have HMC:=h_ (HK.out wr hbw).2.1;have CK:=h_ (CC1.out k x ex wr hbw);have HBW:=h_ hbw;obtain⟨v,ev⟩:=x_ (ca k)
   rw[<-ev]at CK;have EV:=h_ ev;clear ex ev hbw hk;go_wp2_with (refine aH (.tmp 1) ?_;refine wpList_load_mid rfl 27 (.tmp 1) rfl W.heap.size 0 rfl cs _ HMC.out Tryz.underlying27 rfl HI.out ?_)
   refine CK.out.mono ?_;rintro e w5 ⟨rfl,hb5⟩;have HB5:=h_ (HBW.out.trans (hb5.mono HBW.out.size));clear hb5 CK HMC;cases v with
   |true=>
    go_wp2_with fail
    go_roundw
    case rel=>exact⟨k+1,rfl,hkl,h_ (tC hal.out EV.out.symm hkl),HB5.out⟩
    case measure=>simp[RowKit.intOf];omega
   |false=>have HF:=h_ (FIN.out w5 1 (k:Int) (by rw[HE2.out,tB hkl EV.out.symm];rfl) (HB1.out.trans (HB5.out.mono HB1.out.size)));clear FIN HE2;go_wp2_with fail;exact HF.out
  ·have hki: ¬(k:Int)<(c.iH.length:Int):=by omega
   have HF:=h_ (FIN.out wr 0 (-1) (by rw[HE2.out, <-hkl,hal.out];rfl) (HB1.out.trans (hbw.mono HB1.out.size)));clear FIN HE2 hal hbw hk;go_wp2_with fail;exact HF.out
end Go.Proofs.YtkmbmfengcdmoaaGreatDoor
