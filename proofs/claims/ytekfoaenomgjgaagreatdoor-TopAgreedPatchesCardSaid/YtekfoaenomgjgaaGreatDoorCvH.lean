/- Package contract: validClause. Condition: the contract lies in memory. -/
import Derived.Test.YtekfoaenomgjgaaGreatDoorZ4
set_option maxRecDepth 100000
set_option linter.all false
namespace Go.Cv
open Go Go.Cs
def condV(C:Nat)(i:Nat)(s:Int×Int):Bool:=(decide (0<=s.1)&&decide (s.1<(C:Int)))&&(!(s.1==(i:Int))&&(decide (1<=s.2)&&decide (s.2<=4)))
def gh(acs:List AcT)(k:Cls):Bool:=if(k.pause != -1)||(k.resume != -1)then !(k.pause==k.resume)&&(natB acs k.pause&&natB acs k.resume)else true
def moneyV(us:List Un)(i:Int):Bool:=match us[i.toNat]? with|some u=>u.kind==2|none=>false
def dW(H:Nat)(us:List Un)(k:Cls):Bool:=
 if k.unit== -1 then ratO k.num k.den&&(k.to== -1)
 else((k.kind==1)||(k.kind==2))&&(decide (0<=k.unit)&&(decide (k.unit<(us.length:Int))&&(moneyV us k.unit&&(posB k.num k.den&&fX H k.to))))
def bq(c:Con)(i:Nat)(k:Cls):Bool:=
 (decide (0<=k.act)&&(decide (k.act<(c.acts.length:Int))&&(decide (1<=k.after)&&decide (k.after<=400))))&&((kindV c.holders.length c.acts k&&decide (k.start.length<=8))&&(k.start.all (condV c.cls.length i)&&(gh c.acts k&&dW c.holders.length c.units k)))
end Go.Cv
namespace Go.Proofs.YtekfoaenomgjgaaGreatDoor
open Go.RowKit Go.W32 Go.Blk Go.Cs Go.Lib Go.Opn Go.Mg Go.Cv

theorem eE(cs:List Value)(h:cs.length=16):(Tryz.prog.info? 45).map (·.size)=some cs.length:=by rw[h];kernel_rfl
theorem info_cd(cs:List Value)(h:cs.length=2):(Tryz.prog.info? 133).map (·.size)=some cs.length:=by rw[h];kernel_rfl
theorem store_k{cs:List Value}(hcl:cs.length=16)(hc1:∀v∈cs,v.oneCell'=true)(s t:Nat)(W0 W1:World)(b:Nat)(hb:b=W0.heap.size)(e1:W1=W0.alloc (.cells cs.toArray 45))(Q:Exit->Act->World->Prop)(ops:Array Oper)(rest:List Oper)(o:Oper)(a:Act)(hgd:o.guard=none)(ho:o.op= .store 45 (.tmp s) (.tmp t))(hx:a.eval (.tmp s)= .pointer (some ⟨b,0,none⟩))(hy:a.eval (.tmp t)= .agg cs.toArray)(old:Array Value)(hold:old.size=16)(hk:wpList Tryz.prog ops Q rest (a.put o.dst undef) W1):wpList Tryz.prog ops Q (o::rest) a (W0.alloc (.cells old 45)):=by
 rw[e1]at hk
 exact Hk.wpList_store_fresh hgd 45 (.tmp s) (.tmp t) ho b _ hx hy old 45 hb (by rw[eE cs hcl];simp) (by rw[hold];simp[hcl]) (all_oneCell_toArray hc1) hk
theorem store_cd{cs:List Value}(hcl:cs.length=2)(hc1:∀v∈cs,v.oneCell'=true)(s t:Nat)(W0 W1:World)(b:Nat)(hb:b=W0.heap.size)(e1:W1=W0.alloc (.cells cs.toArray 133))(Q:Exit->Act->World->Prop)(ops:Array Oper)(rest:List Oper)(o:Oper)(a:Act)(hgd:o.guard=none)(ho:o.op= .store 133 (.tmp s) (.tmp t))(hx:a.eval (.tmp s)= .pointer (some ⟨b,0,none⟩))(hy:a.eval (.tmp t)= .agg cs.toArray)(old:Array Value)(hold:old.size=2)(hk:wpList Tryz.prog ops Q rest (a.put o.dst undef) W1):wpList Tryz.prog ops Q (o::rest) a (W0.alloc (.cells old 133)):=by
 rw[e1]at hk
 exact Hk.wpList_store_fresh hgd 133 (.tmp s) (.tmp t) ho b _ hx hy old 133 hb (by rw[info_cd cs hcl];simp) (by rw[hold];simp[hcl]) (all_oneCell_toArray hc1) hk
theorem cr(k:Kl):∀v∈aF k,v.oneCell'=true:=ga _ _ rfl
theorem encCd_one(s:Int×Int):∀v∈ar s,v.oneCell'=true:=fun v hv=>by
 simp only[ar,List.mem_cons,List.not_mem_nil,or_false]at hv
 rcases hv with rfl|rfl<;>rfl
theorem ClsK.rg{w:World}{b:Nat}{k:Cls}{st:Value}(h:ClsK w b k st):w.rangeAt b 11 [.int .i64 k.num, .int .i64 k.den]:=by
 intro j v hj
 match j,hj with
 |0,hj=>cases hj;exact h.q11
 |1,hj=>cases hj;exact h.q12
 |j+2,hj=>simp at hj
set_option maxHeartbeats 8000000 in
theorem clause_any(c:ConM)(i:Nat)(k:Kl)(W:World)(hc:ConAt W c)(hl:ConLim c)(hk:c.kls[i]? =some k)(hst:k.1.start.length<=9223372036854775807):Calls Tryz.prog 86 #[.agg (ak c).toArray, .int .i64 (i:Int)] W fun e w'=>e= .returned (.bool (bq c.con i k.1))/\Below W.heap.size W w':=by
 obtain⟨R,eR⟩:∃R:Ending->World->Prop,R=fun e w'=>e= .returned (.bool (bq c.con i k.1))/\Below W.heap.size W w':=⟨_,rfl⟩
 rw[<-eR]
 have FIN:Hid (∀w' v,v=bq c.con i k.1->Below W.heap.size W w'->R (.returned (.bool v)) w'):=h_ fun w' v h hb=>by rw[eR,h];exact⟨rfl,hb⟩
 clear eR
 have HV0:Hid (bq c.con i k.1=((decide (0<=k.1.act)&&(decide (k.1.act<(c.acts.length:Int))&&(decide (1<=k.1.after)&&decide (k.1.after<=400))))&&((kindV c.holders.length c.acts k.1&&decide (k.1.start.length<=8))&&(k.1.start.all (condV c.kls.length i)&&(gh c.acts k.1&&dW c.holders.length c.units k.1))))):=h_ (by unfold bq ConM.con;simp only[List.length_map])
 obtain⟨W1,cs,hx⟩:=boxC W c
 have hil:i<c.kls.length:=(List.getElem?_eq_some_iff.1 hk).1
 have hii:(i:Int)<(c.kls.length:Int):=by omega
 have hi0:(0:Int)<=(i:Int):=by omega
 have hKA:=hc.k.below hx.below (Nat.le_refl _)
 obtain⟨kb,ko,eK⟩:=aC hKA (by intro e;rw[e]at hil;simp at hil)
 rw[eK]at hKA
 obtain⟨ds,eds⟩:∃ds,ds=aF k:=⟨_,rfl⟩
 have hdl:ds.length=16:=by rw[eds];rfl
 have HMk:Hid (W1.rangeAt kb (ko+i*16) ds):=h_ (by rw[eds];exact az hKA hk)
 have HIk:=h_ (eE ds hdl)
 obtain⟨W2,e2⟩:∃W2,W2=W1.alloc (.cells ds.toArray 45):=⟨_,rfl⟩
 have hr2:Row W2 W1.heap.size 45 ds:=by rw[e2];exact Row.new _ _ _
 have hb2:Below W1.heap.size W1 W2:=by rw[e2];exact(Below.refl _ _).alloc (Nat.le_refl _) _
 have HSk:=h_ (store_k hdl (by rw[eds];exact cr k) 5 12 W1 W2 _ rfl e2)
 have hbw:=hx.below.trans (hb2.mono hx.below.size)
 have hr1:=hx.row.below hb2 hx.row.lt
 have HK:Hid (∀w',Below W2.heap.size W2 w'->ConC w' W.heap.size c/\w'.rangeAt W.heap.size 0 cs/\ConAt w' c/\ClsK w' W1.heap.size k.1 (.slice k.2.1 k.1.start.length k.2.2)/\w'.rangeAt W1.heap.size 0 ds/\Below W.heap.size W w'):=h_ fun w' hb=>by
  have h1:=hr1.below hb hr1.lt
  have h2:=hr2.below hb hr2.lt
  exact⟨ConC.of (T:=27) (by rw[<-hx.cs];exact h1),h1.rg,hc.below (hbw.trans (hb.mono hbw.size)) (Nat.le_refl _),ClsK.ofKl (T:=45) (by rw[<-eds];exact h2),h2.rg,hbw.trans (hb.mono hbw.size)⟩
 obtain⟨k0,k1,k2,k3,k4,k5,k6⟩:=ConC.of (T:=27) (b:=W.heap.size) (w:=W1) (c:=c) (by rw[<-hx.cs];exact hx.row)
 obtain⟨_,_,_,⟨q0,q1,q2,q3,q4,q5,q6,q7,q8,q9,q10,q11,q12,q13,q14,q15⟩,_,_⟩:=HK.out W2 (Below.refl _ _)
 obtain⟨⟨_,_,_,k3',_,_,_⟩,_⟩:=HK.out W2 (Below.refl _ _)
 have CK0:∀w',Below W2.heap.size W2 w'->Calls Tryz.prog 123 #[.agg cs.toArray, .agg ds.toArray] w' fun e w''=>e= .returned (.bool (kindV c.holders.length c.acts k.1))/\Below w'.heap.size w' w'':=fun w' hb=>by
  rw[hx.cs,eds];exact kind_any c k w' (HK.out w' hb).2.2.1
 have CN:Hid (∀j w',Below W2.heap.size W2 w'->Calls Tryz.prog 124 #[.agg cs.toArray, .int .i64 j] w' fun e w''=>e= .returned (.bool (natB c.acts j))/\Below w'.heap.size w' w''):=h_ fun j w' hb=>by
  rw[hx.cs];exact nat_any c j w' (HK.out w' hb).2.2.1
 have CM:Hid (∀j w',Calls Tryz.prog 127 #[.agg cs.toArray, .int .i64 j] w' fun e w''=>e= .returned (.bool (fX c.holders.length j))/\Below w'.heap.size w' w''):=h_ fun j w'=>by
  rw[hx.cs];exact mov_any c j w'
 have HSTA:Hid (∀w',Below W2.heap.size W2 w'->SL w' 2 ar k.2.1 k.1.start):=h_ fun w' hb=>(HK.out w' hb).2.2.1.st k (List.mem_of_getElem? hk)
 have E1:=h_ hx.e
 have HB2:=h_ hbw
 have HI:=h_ (aK cs (by rw[hx.cs];rfl))
 have CK:=h_ CK0
 have HLM:=h_ hl
 have HSL:=h_ hst
 rw[eK]at k4
 rw[<-hx.cs]
 clear hx hKA eds hdl e2 hr2 hb2 hbw hr1 k0 k1 k2 k3 k5 k6 q0 q1 q3 q4 q6 q7 q8 q9 q10 q11 q12 q13 q14 q15 CK0 hl hst
 by_cases h1:0<=k.1.act
 rotate_left
 ·have d1:decide (0<=k.1.act)=false:=decide_eq_false h1
  have HF:=h_ (FIN.out W2 false (by rw[HV0.out];simp[d1]) HB2.out)
  clear FIN HV0
  go_enter Tryz.func86,Tryz.ntmps86
  go_wp2_with (first
   |(simp only[E1.out])
   |(refine ae (.tmp 11) ?_;refine wpList_load_mid rfl 45 (.tmp 11) rfl kb (ko+i*16) rfl ds _ HMk.out Tryz.underlying45 rfl HIk.out ?_)
   |(refine ai (.tmp 5) ?_;refine HSk.out _ _ _ _ _ rfl rfl rfl rfl _ (by simp) ?_;simp only[Pt]))
  exact HF.out
 have d1:decide (0<=k.1.act)=true:=decide_eq_true h1
 by_cases h2:k.1.act<(c.acts.length:Int)
 rotate_left
 ·have d2:decide (k.1.act<(c.acts.length:Int))=false:=decide_eq_false h2
  have HF:=h_ (FIN.out W2 false (by rw[HV0.out];simp[d2]) HB2.out)
  clear FIN HV0
  go_enter Tryz.func86,Tryz.ntmps86
  go_wp2_with (first
   |(simp only[E1.out])
   |(refine ae (.tmp 11) ?_;refine wpList_load_mid rfl 45 (.tmp 11) rfl kb (ko+i*16) rfl ds _ HMk.out Tryz.underlying45 rfl HIk.out ?_)
   |(refine ai (.tmp 5) ?_;refine HSk.out _ _ _ _ _ rfl rfl rfl rfl _ (by simp) ?_;simp only[Pt]))
  exact HF.out
 have d2:decide (k.1.act<(c.acts.length:Int))=true:=decide_eq_true h2
 by_cases h3:1<=k.1.after
 rotate_left
 ·have d3:decide (1<=k.1.after)=false:=decide_eq_false h3
  have HF:=h_ (FIN.out W2 false (by rw[HV0.out];simp[d3]) HB2.out)
  clear FIN HV0
  go_enter Tryz.func86,Tryz.ntmps86
  go_wp2_with (first
   |(simp only[E1.out])
   |(refine ae (.tmp 11) ?_;refine wpList_load_mid rfl 45 (.tmp 11) rfl kb (ko+i*16) rfl ds _ HMk.out Tryz.underlying45 rfl HIk.out ?_)
   |(refine ai (.tmp 5) ?_;refine HSk.out _ _ _ _ _ rfl rfl rfl rfl _ (by simp) ?_;simp only[Pt]))
  exact HF.out
 have d3:decide (1<=k.1.after)=true:=decide_eq_true h3
 by_cases h4:k.1.after<=400
 rotate_left
 ·have d4:decide (k.1.after<=400)=false:=decide_eq_false h4
  have HF:=h_ (FIN.out W2 false (by rw[HV0.out];simp[d4]) HB2.out)
  clear FIN HV0
  go_enter Tryz.func86,Tryz.ntmps86
  go_wp2_with (first
   |(simp only[E1.out])
   |(refine ae (.tmp 11) ?_;refine wpList_load_mid rfl 45 (.tmp 11) rfl kb (ko+i*16) rfl ds _ HMk.out Tryz.underlying45 rfl HIk.out ?_)
   |(refine ai (.tmp 5) ?_;refine HSk.out _ _ _ _ _ rfl rfl rfl rfl _ (by simp) ?_;simp only[Pt]))
  exact HF.out
 have d4:decide (k.1.after<=400)=true:=decide_eq_true h4
 have HMK2:=h_ (HK.out W2 (Below.refl _ _)).2.1
 have HMD2:=h_ (HK.out W2 (Below.refl _ _)).2.2.2.2.1
 have CK2:=h_ (CK.out W2 (Below.refl _ _))
 obtain⟨KB,eKB⟩:∃KB,KB=kindV c.holders.length c.acts k.1:=⟨_,rfl⟩
 rw[<-eKB]at CK2
 have HV1:Hid (bq c.con i k.1=((KB&&decide (k.1.start.length<=8))&&(k.1.start.all (condV c.kls.length i)&&(gh c.acts k.1&&dW c.holders.length c.units k.1)))):=h_ (by rw[HV0.out,d1,d2,d3,d4,eKB];rfl)
 clear HV0 d1 d2 d3 d4 eKB CK
 go_enter Tryz.func86,Tryz.ntmps86
 go_wp2_with (first
  |(simp only[E1.out])
  |(refine ae (.tmp 11) ?_;refine wpList_load_mid rfl 45 (.tmp 11) rfl kb (ko+i*16) rfl ds _ HMk.out Tryz.underlying45 rfl HIk.out ?_)
  |(refine ai (.tmp 5) ?_;refine HSk.out _ _ _ _ _ rfl rfl rfl rfl _ (by simp) ?_;simp only[Pt])
  |(refine ae (.tmp 2) ?_;refine wpList_load_mid rfl 27 (.tmp 2) rfl W.heap.size 0 rfl cs _ HMK2.out Tryz.underlying27 rfl HI.out ?_)
  |(refine ae (.tmp 5) ?_;refine wpList_load_mid rfl 45 (.tmp 5) rfl W1.heap.size 0 rfl ds _ HMD2.out Tryz.underlying45 rfl HIk.out ?_))
 refine CK2.out.mono ?_
 rintro e w3 ⟨rfl,hb3⟩
 have HB3:=h_ hb3
 obtain⟨_,_,_,⟨q0,q1,q2,q3,q4,q5,q6,q7,q8,q9,q10,q11,q12,q13,q14,q15⟩,_,_⟩:=HK.out w3 hb3
 clear hb3 CK2 HMK2 HMD2 HSk HMk k3' k4 q0 q1 q2 q3 q5 q6 q7 q8 q9 q10 q11 q12 q13 q14 q15 h1 h2 h3 h4
 cases KB with
 |false=>
  have HF:=h_ (FIN.out w3 false (by rw[HV1.out];rfl) (HK.out w3 HB3.out).2.2.2.2.2)
  clear FIN HV1
  go_wp2_with fail
  exact HF.out
 |true=>
 by_cases h5:k.1.start.length<=8
 rotate_left
 ·have d5:decide ((8:Int)<(k.1.start.length:Int))=true:=decide_eq_true (by omega)
  have HF:=h_ (FIN.out w3 false (by rw[HV1.out,decide_eq_false h5];rfl) (HK.out w3 HB3.out).2.2.2.2.2)
  clear FIN HV1
  go_wp2_with fail
  exact HF.out
 have d5:decide ((8:Int)<(k.1.start.length:Int))=false:=decide_eq_false (by omega)
 have h5i: ¬(8:Int)<(k.1.start.length:Int):=by omega
 have HV2:Hid (bq c.con i k.1=(k.1.start.all (condV c.kls.length i)&&(gh c.acts k.1&&dW c.holders.length c.units k.1))):=h_ (by rw[HV1.out,decide_eq_true h5];rfl)
 clear HV1
 go_wp2_with fail
 clear q4
 go_loopw [47] (fun v wr=> ∃j:Nat,v= .int .i64 (j:Int)/\j<=k.1.start.length/\Hid ((k.1.start.take j).all (condV c.kls.length i)=true)/\Below W2.heap.size W2 wr) (fun v _=>(k.1.start.length:Int).toNat- (RowKit.intOf v).toNat)
 case atStart=>exact⟨0,rfl,Nat.zero_le _,h_ rfl,HB3.out⟩
 case round=>
  obtain⟨j,rfl,hj,hal,hbw⟩:=hrel
  have hjb:(j:Int)<=8:=by omega
  rcases Nat.lt_or_eq_of_le hj with hjl|hjl
  ·have hji:(j:Int)<(k.1.start.length:Int):=by omega
   obtain⟨s,es'⟩:∃x,k.1.start[j]? =some x:=⟨_,List.getElem?_eq_getElem hjl⟩
   have hS:=HSTA.out wr hbw
   obtain⟨sb,so,eS⟩:=aC hS (by intro e;rw[e]at hjl;simp at hjl)
   rw[eS]at hS⊢
   obtain⟨es,ees⟩:∃es,es=ar s:=⟨_,rfl⟩
   have hel:es.length=2:=by rw[ees];rfl
   have HMs:Hid (wr.rangeAt sb (so+j*2) es):=h_ (by rw[ees];exact az hS es')
   have HIs:=h_ (info_cd es hel)
   obtain⟨Wk,ek⟩:∃Wk,Wk=wr.alloc (.cells es.toArray 133):=⟨_,rfl⟩
   have hrk:Row Wk wr.heap.size 133 es:=by rw[ek];exact Row.new _ _ _
   have hbk:Below wr.heap.size wr Wk:=by rw[ek];exact(Below.refl _ _).alloc (Nat.le_refl _) _
   have HSs:=h_ (store_cd hel (by rw[ees];exact encCd_one s) 7 50 wr Wk _ rfl ek)
   have HBk:=h_ (hbw.trans (hbk.mono hbw.size))
   have s0:=hrk.at (show es[0]? =some (.int .i64 s.1) by rw[ees];rfl)
   have s1:=hrk.at (show es[1]? =some (.int .i64 s.2) by rw[ees];rfl)
   obtain⟨⟨_,_,_,_,k4,_,_⟩,_⟩:=HK.out Wk HBk.out
   have HCV:Hid (condV c.kls.length i s=((decide (0<=s.1)&&decide (s.1<(c.kls.length:Int)))&&(!(s.1==(i:Int))&&(decide (1<=s.2)&&decide (s.2<=4))))):=h_ rfl
   have ES:=h_ es'
   clear ees hel ek hrk hbk es' hS eS hbw hj
   by_cases c1:0<=s.1
   rotate_left
   ·have x1:decide (0<=s.1)=false:=decide_eq_false c1
    have x1':decide (s.1<0)=true:=decide_eq_true (by omega)
    have HF:=h_ (FIN.out Wk false (by rw[HV2.out,bm ES.out (by rw[HCV.out];simp[x1])];rfl) (HK.out Wk HBk.out).2.2.2.2.2)
    clear FIN HV2
    go_wp2_with (first
     |(refine ae (.tmp 49) ?_;refine wpList_load_mid rfl 133 (.tmp 49) rfl sb (so+j*2) rfl es _ HMs.out Tryz.underlying133 rfl HIs.out ?_)
     |(refine ai (.tmp 7) ?_;refine HSs.out _ _ _ _ _ rfl rfl rfl rfl _ (by simp) ?_;simp only[Pt]))
    exact HF.out
   have x1:decide (0<=s.1)=true:=decide_eq_true c1
   have x1':decide (s.1<0)=false:=decide_eq_false (by omega)
   by_cases c2:s.1<(c.kls.length:Int)
   rotate_left
   ·have x2:decide (s.1<(c.kls.length:Int))=false:=decide_eq_false c2
    have x2':decide ((c.kls.length:Int)<=s.1)=true:=decide_eq_true (by omega)
    have HF:=h_ (FIN.out Wk false (by rw[HV2.out,bm ES.out (by rw[HCV.out];simp[x2])];rfl) (HK.out Wk HBk.out).2.2.2.2.2)
    clear FIN HV2
    go_wp2_with (first
     |(refine ae (.tmp 49) ?_;refine wpList_load_mid rfl 133 (.tmp 49) rfl sb (so+j*2) rfl es _ HMs.out Tryz.underlying133 rfl HIs.out ?_)
     |(refine ai (.tmp 7) ?_;refine HSs.out _ _ _ _ _ rfl rfl rfl rfl _ (by simp) ?_;simp only[Pt]))
    exact HF.out
   have x2:decide (s.1<(c.kls.length:Int))=true:=decide_eq_true c2
   have x2':decide ((c.kls.length:Int)<=s.1)=false:=decide_eq_false (by omega)
   by_cases c3:s.1=(i:Int)
   ·have x3:(s.1==(i:Int))=true:=by simpa using c3
    have HF:=h_ (FIN.out Wk false (by rw[HV2.out,bm ES.out (by rw[HCV.out,x3];simp)];rfl) (HK.out Wk HBk.out).2.2.2.2.2)
    clear FIN HV2 c3
    go_wp2_with (first
     |(refine ae (.tmp 49) ?_;refine wpList_load_mid rfl 133 (.tmp 49) rfl sb (so+j*2) rfl es _ HMs.out Tryz.underlying133 rfl HIs.out ?_)
     |(refine ai (.tmp 7) ?_;refine HSs.out _ _ _ _ _ rfl rfl rfl rfl _ (by simp) ?_;simp only[Pt]))
    exact HF.out
   have x3:(s.1==(i:Int))=false:=by simpa using c3
   by_cases c4:1<=s.2
   rotate_left
   ·have x4:decide (1<=s.2)=false:=decide_eq_false c4
    have x4':decide (s.2<1)=true:=decide_eq_true (by omega)
    have HF:=h_ (FIN.out Wk false (by rw[HV2.out,bm ES.out (by rw[HCV.out];simp[x4])];rfl) (HK.out Wk HBk.out).2.2.2.2.2)
    clear FIN HV2
    go_wp2_with (first
     |(refine ae (.tmp 49) ?_;refine wpList_load_mid rfl 133 (.tmp 49) rfl sb (so+j*2) rfl es _ HMs.out Tryz.underlying133 rfl HIs.out ?_)
     |(refine ai (.tmp 7) ?_;refine HSs.out _ _ _ _ _ rfl rfl rfl rfl _ (by simp) ?_;simp only[Pt]))
    exact HF.out
   have x4:decide (1<=s.2)=true:=decide_eq_true c4
   have x4':decide (s.2<1)=false:=decide_eq_false (by omega)
   by_cases c5:s.2<=4
   rotate_left
   ·have x5:decide (s.2<=4)=false:=decide_eq_false c5
    have x5':decide (4<s.2)=true:=decide_eq_true (by omega)
    have HF:=h_ (FIN.out Wk false (by rw[HV2.out,bm ES.out (by rw[HCV.out];simp[x5])];rfl) (HK.out Wk HBk.out).2.2.2.2.2)
    clear FIN HV2
    go_wp2_with (first
     |(refine ae (.tmp 49) ?_;refine wpList_load_mid rfl 133 (.tmp 49) rfl sb (so+j*2) rfl es _ HMs.out Tryz.underlying133 rfl HIs.out ?_)
     |(refine ai (.tmp 7) ?_;refine HSs.out _ _ _ _ _ rfl rfl rfl rfl _ (by simp) ?_;simp only[Pt]))
    exact HF.out
   have x5:decide (s.2<=4)=true:=decide_eq_true c5
   have x5':decide (4<s.2)=false:=decide_eq_false (by omega)
   have HNX:Hid ((k.1.start.take (j+1)).all (condV c.kls.length i)=true):=h_ (ct ES.out hal.out (by rw[HCV.out,x1,x2,x3,x4,x5];rfl))
   clear c3 HCV
   go_wp2_with (first
    |(refine ae (.tmp 49) ?_;refine wpList_load_mid rfl 133 (.tmp 49) rfl sb (so+j*2) rfl es _ HMs.out Tryz.underlying133 rfl HIs.out ?_)
    |(refine ai (.tmp 7) ?_;refine HSs.out _ _ _ _ _ rfl rfl rfl rfl _ (by simp) ?_;simp only[Pt]))
   go_roundw
   case rel=>exact⟨j+1,rfl,hjl,HNX,HBk.out⟩
   case measure=>simp[RowKit.intOf];omega
  ·have hji: ¬(j:Int)<(k.1.start.length:Int):=by omega
   have HV3:Hid (bq c.con i k.1=(gh c.acts k.1&&dW c.holders.length c.units k.1)):=h_ (by
    have:=hal.out
    rw[List.take_of_length_le (by omega)]at this
    rw[HV2.out,this];rfl)
   have HB4:=h_ hbw
   obtain⟨_,_,_,⟨q0,q1,q2,q3,q4,q5,q6,q7,q8,q9,q10,q11,q12,q13,q14,q15⟩,_,_⟩:=HK.out wr hbw
   clear HV2 hal hbw hj hjl HB3 q0 q1 q2 q3 q4 q5 q6 q7 q8 q11 q14 q15
   have HPV0:Hid (gh c.acts k.1=(if(k.1.pause != -1)||(k.1.resume != -1)then !(k.1.pause==k.1.resume)&&(natB c.acts k.1.pause&&natB c.acts k.1.resume)else true)):=h_ rfl
   clear q12 q13
   have pp:((k.1.pause== -1)=true/\(k.1.pause != -1)=false/\(k.1.resume== -1)=true/\(k.1.resume != -1)=false)\/((k.1.pause== -1)=true/\(k.1.pause != -1)=false/\(k.1.resume== -1)=false/\(k.1.resume != -1)=true)\/((k.1.pause== -1)=false/\(k.1.pause != -1)=true):=by
    by_cases p1:k.1.pause= -1<;>by_cases p2:k.1.resume= -1<;>simp[p1,p2]
   rcases pp with⟨m1,m1n,m2,m2n⟩|⟨m1,m1n,m2,m2n⟩|⟨m1,m1n⟩
   rotate_left
   iterate 2
    have HPV:Hid (gh c.acts k.1=(!(k.1.pause==k.1.resume)&&(natB c.acts k.1.pause&&natB c.acts k.1.resume))):=h_ (by rw[HPV0.out,m1n];first|rfl|(rw[m2n];rfl))
    clear HPV0
    by_cases pr:k.1.pause=k.1.resume
    ·have b1:(k.1.pause==k.1.resume)=true:=by simpa using pr
     have HF2:=h_ (FIN.out wr false (by rw[HV3.out,HPV.out,b1];rfl) (HK.out wr HB4.out).2.2.2.2.2)
     clear FIN pr
     go_wp2_with fail
     exact HF2.out
    have b1:(k.1.pause==k.1.resume)=false:=by simpa using pr
    obtain⟨P1,eP1⟩:∃P1,P1=natB c.acts k.1.pause:=⟨_,rfl⟩
    obtain⟨P2,eP2⟩:∃P2,P2=natB c.acts k.1.resume:=⟨_,rfl⟩
    have HPW:Hid (gh c.acts k.1=(P1&&P2)):=h_ (by rw[HPV.out,b1,eP1,eP2];rfl)
    have CN1:=h_ (CN.out k.1.pause wr HB4.out)
    rw[<-eP1]at CN1
    have HMC:=h_ (HK.out wr HB4.out).2.1
    clear pr HPV eP1
    focus go_wp2_with (refine ae (.tmp 2) ?_;refine Row.still (by first|exact Free.wanted_of rfl rfl rfl|rfl) (Hk.exec_mid 27 (.tmp 2) rfl W.heap.size 0 rfl cs _ HMC.out Tryz.underlying27 rfl HI.out) ?_;simp only[Pt])
    refine CN1.out.mono ?_
    rintro e w5 ⟨rfl,hb5⟩
    have HB5:=h_ (HB4.out.trans (hb5.mono HB4.out.size))
    clear hb5 CN1 HMC q9 q10
    cases P1
    ·have HF2:=h_ (FIN.out w5 false (by rw[HV3.out,HPW.out];rfl) (HK.out w5 HB5.out).2.2.2.2.2)
     clear FIN
     go_wp2_with fail
     exact HF2.out
    obtain⟨_,hmc,_,⟨q0,q1,q2,q3,q4,q5,q6,q7,q8,q9,q10,q11,q12,q13,q14,q15⟩,_,_⟩:=HK.out w5 HB5.out
    have HMC:=h_ hmc
    have CN2:=h_ (CN.out k.1.resume w5 HB5.out)
    rw[<-eP2]at CN2
    clear hmc eP2 q0 q1 q2 q3 q4 q5 q6 q7 q8 q11 q12 q13 q14 q15
    focus go_wp2_with (refine ae (.tmp 2) ?_;refine Row.still (by first|exact Free.wanted_of rfl rfl rfl|rfl) (Hk.exec_mid 27 (.tmp 2) rfl W.heap.size 0 rfl cs _ HMC.out Tryz.underlying27 rfl HI.out) ?_;simp only[Pt])
    refine CN2.out.mono ?_
    rintro e wl ⟨rfl,hbl⟩
    have HBl:=h_ (HB5.out.trans (hbl.mono HB5.out.size))
    clear hbl CN2 HMC q9 q10
    cases P2
    ·have HF2:=h_ (FIN.out wl false (by rw[HV3.out,HPW.out];rfl) (HK.out wl HBl.out).2.2.2.2.2)
     clear FIN
     go_wp2_with fail
     exact HF2.out
    have HVe:Hid (bq c.con i k.1=dW c.holders.length c.units k.1):=h_ (by rw[HV3.out,HPW.out];rfl)
    clear HV3 HPW HB4 HB5
    rotate_left
   have HVe:Hid (bq c.con i k.1=dW c.holders.length c.units k.1):=h_ (by rw[HV3.out,HPV0.out,m1n,m2n];rfl)
   have HBl:=h_ HB4.out
   clear HV3 HPV0 HB4
   generalize wr=wl at*
   all_goals
    obtain⟨⟨k0,k1,k2,k3,k4,k5,k6⟩,_,hat,⟨q0,q1,q2,q3,q4,q5,q6,q7,q8,q9,q10,q11,q12,q13,q14,q15⟩,_,hbW⟩:=HK.out wl HBl.out
    obtain⟨fs,efs⟩:∃fs:List Value,fs= [.int .i64 k.1.num, .int .i64 k.1.den]:=⟨_,rfl⟩
    have HQ:Hid (∀w',Below wl.heap.size wl w'->ClsK w' W1.heap.size k.1 (.slice k.2.1 k.1.start.length k.2.2)):=h_ fun w' hb=>(HK.out w' (HBl.out.trans (hb.mono HBl.out.size))).2.2.2.1
    have HF5:Hid (∀w',Below wl.heap.size wl w'->w'.rangeAt W1.heap.size 11 fs):=h_ fun w' hb=>by rw[efs];exact(HQ.out w' hb).rg
    have HIF:=h_ (gQ fs (by rw[efs];rfl))
    have EFS:Hid (Value.agg fs.toArray= .agg [.int .i64 k.1.num, .int .i64 k.1.den].toArray):=h_ (by rw[efs])
    have CPO:=h_ (fun w=>pos_any k.1.num k.1.den w)
    rw[show(#[.int .i64 k.1.num, .int .i64 k.1.den]:Array Value)=fs.toArray by rw[efs]]at CPO
    have HW:Hid (∀w' v,v=dW c.holders.length c.units k.1->Below wl.heap.size wl w'->R (.returned (.bool v)) w'):=h_ fun w' v h hb=>FIN.out w' v (by rw[HVe.out];exact h) (HK.out w' (HBl.out.trans (hb.mono HBl.out.size))).2.2.2.2.2
    have HVw:Hid (dW c.holders.length c.units k.1=(if k.1.unit== -1 then ratO k.1.num k.1.den&&(k.1.to== -1)else((k.1.kind==1)||(k.1.kind==2))&&(decide (0<=k.1.unit)&&(decide (k.1.unit<(c.units.length:Int))&&(moneyV c.units k.1.unit&&(posB k.1.num k.1.den&&fX c.holders.length k.1.to)))))):=h_ rfl
    clear FIN HVe efs k0 k1 k3 k4 k5 k6 q1 q2 q3 q4 q5 q6 q7 q8 q9 q10 q11 q12 q15 hbW
    by_cases u1:k.1.unit= -1
    ·have y1:(k.1.unit== -1)=true:=by simpa using u1
     obtain⟨Z,eZ⟩:∃Z,Z=ratO k.1.num k.1.den:=⟨_,rfl⟩
     have EZ:=h_ eZ
     have HVz:Hid (dW c.holders.length c.units k.1=(Z&&(k.1.to== -1))):=h_ (by rw[HVw.out,y1,eZ];rfl)
     clear u1 HVw eZ
     cases Z with
     |false=>
      have HG:Hid (∀w',Below wl.heap.size wl w'->R (.returned (.bool false)) w'):=h_ fun w' hb=>HW.out w' false (by rw[HVz.out];rfl) hb
      clear HW
      go_wp2_with fail
      refine Free.wp_region_free 9 [(2, .det (.agg #[.int .i64 0, .int .i64 1]))] (fun w'=>Below wl.heap.size wl w') (by kernel_rfl) (by kernel_rfl) (Free.mono_det (fun j mk r hf=>by simp only[Free.find]at hf;repeat' (first|cases hf|split at hf))) (Below.refl _ _).drew (fun _ _ h g=>h.trans (Below.mono g h.size)) ?_
      simp only[List.take_succ_cons,List.take_zero]
      iterate 9 (first|(apply Free.chain_skip (by first|exact unwanted2 rfl rfl rfl rfl|exact aJ rfl rfl rfl);simp only[Pt])|(apply Free.chain_still (by first|exact Free.wanted_of rfl rfl rfl|rfl) rfl;(intro w' hB hA;exact Hk.exec_mid 43 (.tmp 109) rfl W1.heap.size 11 rfl fs _ (HF5.out _ hB) Tryz.underlying43 rfl HIF.out);simp only[Pt])|(apply Free.chain_det (by first|exact Free.wanted_of rfl rfl rfl|rfl) rfl;(intro w' hB hA;refine Free.opRun_call (f:=125) (args:= #[]) (by clear hB hA;go_simp<;>rfl) ?_;refine(dl _).mono ?_;rintro e w3 ⟨rfl,hb3⟩;exact⟨_,rfl,hb3,rfl⟩);simp only[Pt])|(apply Free.chain_still (by first|exact Free.wanted_of rfl rfl rfl|rfl) rfl;(intro w' hB hA;exact cI rfl EFS.out rfl EZ.out);simp only[Pt])|(apply Free.chain_still (by first|exact Free.wanted_of rfl rfl rfl|rfl) rfl;(intro w' hB hA;cases HQ.out w' hB;clear hA;go_light;go_simp<;>rfl);(try simp only[Pt])))
      apply Free.chain_nil
      intro w6 hw6 _ _
      simp only[List.drop_succ_cons,List.drop_zero]
      have HF2:=h_ (HG.out w6 hw6)
      clear hw6 HG
      go_wp2_with fail
      exact HF2.out
     |true=>
      have HG:Hid (∀w',Below wl.heap.size wl w'->R (.returned (.bool (k.1.to== -1))) w'):=h_ fun w' hb=>HW.out w' (k.1.to== -1) (by rw[HVz.out];rfl) hb
      clear HW
      go_wp2_with fail
      refine Free.wp_region_free 9 [(2, .det (.agg #[.int .i64 0, .int .i64 1]))] (fun w'=>Below wl.heap.size wl w') (by kernel_rfl) (by kernel_rfl) (Free.mono_det (fun j mk r hf=>by simp only[Free.find]at hf;repeat' (first|cases hf|split at hf))) (Below.refl _ _).drew (fun _ _ h g=>h.trans (Below.mono g h.size)) ?_
      simp only[List.take_succ_cons,List.take_zero]
      iterate 9 (first|(apply Free.chain_still (by first|exact Free.wanted_of rfl rfl rfl|rfl) rfl;(intro w' hB hA;exact Hk.exec_mid 43 (.tmp 109) rfl W1.heap.size 11 rfl fs _ (HF5.out _ hB) Tryz.underlying43 rfl HIF.out);simp only[Pt])|(apply Free.chain_det (by first|exact Free.wanted_of rfl rfl rfl|rfl) rfl;(intro w' hB hA;refine Free.opRun_call (f:=125) (args:= #[]) (by clear hB hA;go_simp<;>rfl) ?_;refine(dl _).mono ?_;rintro e w3 ⟨rfl,hb3⟩;exact⟨_,rfl,hb3,rfl⟩);simp only[Pt])|(apply Free.chain_still (by first|exact Free.wanted_of rfl rfl rfl|rfl) rfl;(intro w' hB hA;exact cI rfl EFS.out rfl EZ.out);simp only[Pt])|(apply Free.chain_still (by first|exact Free.wanted_of rfl rfl rfl|rfl) rfl;(intro w' hB hA;cases HQ.out w' hB;clear hA;go_light;go_simp<;>rfl);(try simp only[Pt])))
      apply Free.chain_nil
      intro w6 hw6 _ _
      simp only[List.drop_succ_cons,List.drop_zero]
      have HF2:=h_ (HG.out w6 hw6)
      clear hw6 HG
      go_wp2_with fail
      exact HF2.out
    have y1:(k.1.unit== -1)=false:=by simpa using u1
    have y1n:(k.1.unit != -1)=true:=by simpa using u1
    clear u1
    have kd:(k.1.kind==1)=true\/((k.1.kind==1)=false/\(k.1.kind==2)=true)\/((k.1.kind==1)=false/\(k.1.kind==2)=false):=by cases (k.1.kind==1)<;>cases (k.1.kind==2)<;>simp
    rcases kd with z1|⟨z1,z2⟩|⟨z1,z2⟩
    rotate_left 2
    ·skip
     have HF2:=h_ (HW.out wl false (by rw[HVw.out];simp[z1,z2,y1]) (Below.refl _ _))
     clear HW
     go_wp2_with fail
     exact HF2.out
    all_goals
     have hz:((k.1.kind==1)||(k.1.kind==2))=true:=by first|(rw[z1];rfl)|(rw[z1,z2];rfl)
     by_cases u2:0<=k.1.unit
     rotate_left
     ·have y2:decide (0<=k.1.unit)=false:=decide_eq_false u2
      have HF2:=h_ (HW.out wl false (by rw[HVw.out];simp[hz,y1,y2]) (Below.refl _ _))
      clear HW
      go_wp2_with fail
      exact HF2.out
     have y2:decide (0<=k.1.unit)=true:=decide_eq_true u2
     by_cases u3:k.1.unit<(c.units.length:Int)
     rotate_left
     ·have y3:decide (k.1.unit<(c.units.length:Int))=false:=decide_eq_false u3
      have HF2:=h_ (HW.out wl false (by rw[HVw.out];simp[hz,y1,y3]) (Below.refl _ _))
      clear HW
      go_wp2_with fail
      exact HF2.out
     have y3:decide (k.1.unit<(c.units.length:Int))=true:=decide_eq_true u3
     obtain⟨n,hn⟩:∃n:Nat,k.1.unit=(n:Int):=⟨k.1.unit.toNat,by omega⟩
     obtain⟨un,eun⟩:∃x,c.units[n]? =some x:=⟨_,List.getElem?_eq_getElem (by omega)⟩
     have hU:=hat.u
     obtain⟨ub,uo,eU⟩:=aC hU (by intro e;rw[e]at eun;simp at eun)
     rw[eU]at hU k2
     have hni:(n:Int)<(c.units.length:Int):=by omega
     have hn0:(0:Int)<=(n:Int):=by omega
     have cu:wl.cell? ⟨ub,uo+n*5+1,none⟩=some (.int .i64 un.kind):=(az hU eun) 1 _ rfl
     have HMO:Hid (moneyV c.units k.1.unit=(un.kind==2)):=h_ (by unfold moneyV;rw[hn,Int.toNat_natCast,eun])
     rw[hn]at q13 y2 y3 y1 y1n
     have HVn:Hid (dW c.holders.length c.units k.1=((un.kind==2)&&(posB k.1.num k.1.den&&fX c.holders.length k.1.to))):=h_ (by rw[HVw.out,HMO.out,hn,y1,y2,y3,hz];simp)
     clear u2 u3 hn hU eU eun HMO
     by_cases u4:un.kind=2
     rotate_left
     ·have y4:(un.kind==2)=false:=by simpa using u4
      have HF2:=h_ (HW.out wl false (by rw[HVn.out];simp[y4]) (Below.refl _ _))
      clear HW u4
      go_wp2_with fail
      exact HF2.out
     have y4:(un.kind==2)=true:=by simpa using u4
     obtain⟨PB,ePB⟩:∃PB,PB=posB k.1.num k.1.den:=⟨_,rfl⟩
     have CPl:=h_ (CPO.out wl)
     rw[<-ePB]at CPl HVn
     have HMR:=h_ (HF5.out wl (Below.refl _ _))
     clear u4 ePB
     go_wp2_with (refine ae (.tmp 150) ?_;refine Row.still (by first|exact Free.wanted_of rfl rfl rfl|rfl) (Hk.exec_mid 43 (.tmp 150) rfl W1.heap.size 11 rfl fs _ HMR.out Tryz.underlying43 rfl HIF.out) ?_;simp only[Pt])
     refine CPl.out.mono ?_
     rintro e w7 ⟨rfl,hb7⟩
     have HB7:=h_ hb7
     clear hb7 CPl HMR
     cases PB with
     |false=>
      have HF2:=h_ (HW.out w7 false (by rw[HVn.out,y4];rfl) HB7.out)
      clear HW
      go_wp2_with fail
      exact HF2.out
     |true=>
      have hb27:=HBl.out.trans (HB7.out.mono HBl.out.size)
      obtain⟨_,hmc,_,⟨q0,q1,q2,q3,q4,q5,q6,q7,q8,q9,q10,q11,q12,q13,q14,q15⟩,_,_⟩:=HK.out w7 hb27
      have HMC:=h_ hmc
      obtain⟨MB,eMB⟩:∃MB,MB=fX c.holders.length k.1.to:=⟨_,rfl⟩
      have CM7:=h_ (CM.out k.1.to w7)
      rw[<-eMB]at CM7 HVn
      clear hmc eMB hb27
      go_wp2_with (refine ae (.tmp 2) ?_;refine Row.still (by first|exact Free.wanted_of rfl rfl rfl|rfl) (Hk.exec_mid 27 (.tmp 2) rfl W.heap.size 0 rfl cs _ HMC.out Tryz.underlying27 rfl HI.out) ?_;simp only[Pt])
      refine CM7.out.mono ?_
      rintro e w8 ⟨rfl,hb8⟩
      have HF2:=h_ (HW.out w8 MB (by rw[HVn.out,y4];rfl) (HB7.out.trans (hb8.mono HB7.out.size)))
      clear HW hb8 CM7
      go_wp2_with fail
      exact HF2.out
end Go.Proofs.YtekfoaenomgjgaaGreatDoor
