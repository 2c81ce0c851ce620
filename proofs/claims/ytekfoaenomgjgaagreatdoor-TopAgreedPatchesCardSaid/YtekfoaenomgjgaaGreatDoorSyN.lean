/- Package system: validMark. Condition: the contract lies in memory. -/
import Derived.Test.YtekfoaenomgjgaaGreatDoorZ6
set_option maxRecDepth 100000
set_option linter.all false
namespace Go.Proofs.YtekfoaenomgjgaaGreatDoor
open Go.RowKit Go.W32 Go.Blk Go.Cs Go.Lib Go.Opn Go.Mg Go.Cv

set_option maxHeartbeats 2000000 in
theorem exec_eqMar{ρ:Operand->Value}{op:Oper}{w:World}{x y:Operand}{a b:Mar}{Z:Bool}(ho:op.op= .binOp .eql 66 x y 66)(hx:ρ x= .agg (ah a).toArray)(hy:ρ y= .agg (ah b).toArray)(hZ:Z=a.same b):
  (execOp ρ op).run Tryz.prog w= .ok (.value (.bool Z)) w:=by
 subst hZ
 unfold execOp
 simp only[ho,hx,hy]
 obtain⟨a1,a2,a3,a4,a5⟩:=a
 obtain⟨b1,b2,b3,b4,b5⟩:=b
 unfold ah Mar.same
 by_cases h1:a1=b1
 ·by_cases h2:a2=b2
  ·by_cases h3:a3=b3
   ·by_cases h4:a4=b4
    ·cases a5<;>cases b5<;>(go_simp<;>simp[h1,h2,h3,h4])
    ·go_simp<;>simp[h1,h2,h3,h4]
   ·go_simp<;>simp[h1,h2,h3]
  ·go_simp<;>simp[h1,h2]
 ·go_simp<;>simp[h1]
theorem at_eql(x:Operand){P:Program}{ops:Array Oper}{Q:Exit->Act->World->Prop}{rest:List Oper}{a:Act}{t u:TypeId}{y:Operand}{d:Option Tmp}{ty:TypeId}{ps:String}{af:Array Edge}{g:Option (Nat×Bool)}{w:World}(h:wpList P ops Q (⟨d, .binOp .eql t x y u,ty,ps,af,g⟩::rest) a w):wpList P ops Q (⟨d, .binOp .eql t x y u,ty,ps,af,g⟩::rest) a w:=h
set_option maxHeartbeats 8000000 in
theorem mark_any(c:ConM)(i:Nat)(k:Kl)(m:Mar)(W:World)(hc:ConAt W c)(hk:c.kls[i]? =some k)(hn:c.kls.length<=4000):Calls Tryz.prog 53 #[.agg (ak c).toArray, .int .i64 (i:Int), .agg (ah m).toArray] W fun e w'=>e= .returned (.bool (aR c.parties k.1 m))/\Below W.heap.size W w':=by
 obtain⟨R,eR⟩:∃R:Ending->World->Prop,R=fun e w'=>e= .returned (.bool (aR c.parties k.1 m))/\Below W.heap.size W w':=⟨_,rfl⟩
 rw[<-eR]
 have FIN:Hid (∀w' v,v=aR c.parties k.1 m->Below W.heap.size W w'->R (.returned (.bool v)) w'):=h_ fun w' v h hb=>by rw[eR,h];exact⟨rfl,hb⟩
 clear eR
 obtain⟨cs,ecs⟩:∃cs,cs=ak c:=⟨_,rfl⟩
 obtain⟨ds,eds⟩:∃ds,ds=aF k:=⟨_,rfl⟩
 obtain⟨es,ees⟩:∃es,es=ah m:=⟨_,rfl⟩
 obtain⟨hr1,hr2,hb1⟩:=bu W 27 66 cs es
 rw[<-ecs, <-ees]
 generalize eW:(W.alloc (.cells cs.toArray 27)).alloc (.cells es.toArray 66)=W1 at*
 have E1:=h_ eW
 have hkl:=(List.getElem?_eq_some_iff.1 hk).1
 have hc1:=hc.below hb1 (Nat.le_refl _)
 have hsl:=hc1.k
 obtain⟨kb,ko,eA⟩:=aC hsl (by intro e;rw[e]at hkl;simp at hkl)
 rw[eA]at hsl
 have hdl:ds.length=16:=by rw[eds];rfl
 have HMk:Hid (W1.rangeAt kb (ko+i*16) ds):=h_ (by rw[eds];exact az hsl hk)
 have HIk:=h_ (eE ds hdl)
 obtain⟨W2,e2⟩:∃W2,W2=W1.alloc (.cells ds.toArray 45):=⟨_,rfl⟩
 have hr3:Row W2 W1.heap.size 45 ds:=by rw[e2];exact Row.new _ _ _
 have hb2:Below W1.heap.size W1 W2:=by rw[e2];exact(Below.refl _ _).alloc (Nat.le_refl _) _
 have HSk:=h_ (store_k hdl (by rw[eds];exact cr k) 7 12 W1 W2 _ rfl e2)
 have hr1':=hr1.below hb2 hr1.lt
 have hr2':=hr2.below hb2 hr2.lt
 obtain⟨k0,_,_,_,k4,_,_⟩:=ConC.of (T:=27) (c:=c) (by rw[<-ecs];exact hr1')
 have k4':=hr1.at (show cs[4]? =some (.slice c.kA c.kls.length c.kc) by rw[ecs];rfl)
 rw[eA]at k4'
 obtain⟨q0,q1,q2,q3,q4,q5,q6,q7,q8,q9,q10,q11,q12,q13,q14,q15⟩:=ClsK.ofKl (k:=k) (by rw[<-eds];exact hr3)
 obtain⟨m0,m1,m2,m3,m4⟩:=MarC.of (m:=m) (by rw[<-ees];exact hr2')
 have HMC:=h_ hr1'.rg
 have HMD:=h_ hr3.rg
 have HMM:=h_ hr2'.rg
 have HIC:=h_ (aK cs (by rw[ecs];rfl))
 have HIM:=h_ (bV es (by rw[ees];rfl))
 have HB2:=h_ (hb1.trans (hb2.mono hb1.size))
 have CR:=run_any c k m W2
 rw[<-ecs, <-eds, <-ees]at CR
 have CR:=h_ CR
 have EES:Hid (Value.agg es.toArray= .agg (ah m).toArray):=h_ (by rw[ees])
 have hi1:(i:Int)<(c.kls.length:Int):=by omega
 have hi0:(0:Int)<=(i:Int):=by omega
 have hib:(i:Int)<=4000:=by omega
 clear eW ecs eds ees hr1 hr2 hb1 hkl hc1 hsl eA e2 hr3 hb2 hr1' hr2' hc hk hn k4 q1 q2 q3 q4 q7 q8 q9 q10 q11 q12 q13 q14
 obtain⟨status,left,got,bearer,paused⟩:=m
 simp only at m0 m1 m2 m3 m4
 by_cases h0:status=0
 ·have b0:(status==0)=true:=by simpa using h0
  obtain⟨wv,ewv⟩:∃wv,wv=k.1.waived:=⟨_,rfl⟩
  rw[<-ewv]at q15
  cases wv with
  |true=>
   have HF:=h_ (FIN.out W2 false (by unfold aR;simp[h0, <-ewv]) HB2.out)
   clear FIN h0 ewv
   go_enter Tryz.func53,Tryz.ntmps53
   go_wp2_with (first
    |(simp only[E1.out])
    |(refine ae (.tmp 11) ?_;refine wpList_load_mid rfl 45 (.tmp 11) rfl kb (ko+i*16) rfl ds _ HMk.out Tryz.underlying45 rfl HIk.out ?_)
    |(refine ai (.tmp 7) ?_;refine HSk.out _ _ _ _ _ rfl rfl rfl rfl _ (by simp) ?_;simp only[Pt]))
   exact HF.out
  |false=>
   obtain⟨Z,eZ⟩:∃Z,Z=Mar.same ⟨status,left,got,bearer,paused⟩ Mar.idle:=⟨_,rfl⟩
   have HF:=h_ (FIN.out W2 Z (by unfold aR;simp[h0, <-ewv];rw[eZ,h0]) HB2.out)
   have EZ:=h_ eZ
   clear FIN h0 ewv eZ
   go_enter Tryz.func53,Tryz.ntmps53
   go_wp2_with (first
    |(simp only[E1.out])
    |(refine ae (.tmp 11) ?_;refine wpList_load_mid rfl 45 (.tmp 11) rfl kb (ko+i*16) rfl ds _ HMk.out Tryz.underlying45 rfl HIk.out ?_)
    |(refine ai (.tmp 7) ?_;refine HSk.out _ _ _ _ _ rfl rfl rfl rfl _ (by simp) ?_;simp only[Pt])
    |(refine ae (.tmp 5) ?_;refine Row.still (by first|exact Free.wanted_of rfl rfl rfl|rfl) (Hk.exec_mid 66 (.tmp 5) rfl (W.heap.size+1) 0 rfl es _ HMM.out Tryz.underlying66 rfl HIM.out) ?_;simp only[Pt])
    |(refine at_eql (.tmp 21) ?_;refine Row.still (by first|exact Free.wanted_of rfl rfl rfl|rfl) (exec_eqMar (b:=Mar.idle) rfl EES.out rfl EZ.out) ?_;simp only[Pt]))
   exact HF.out
 have b0:(status==0)=false:=by simpa using h0
 by_cases h1:status=1
 ·have b1:(status==1)=true:=by simpa using h1
  by_cases hl:left<=k.1.after
  ·have i0:decide (left<=k.1.after)=true:=decide_eq_true hl
   have HF:Hid (∀w' v,v=fc c.parties k.1 ⟨status,left,got,bearer,paused⟩->Below W.heap.size W w'->R (.returned (.bool v)) w'):=h_ fun w' v h hb=>FIN.out w' v (by unfold aR;simp[h,h1,hl]) hb
   clear FIN
   go_enter Tryz.func53,Tryz.ntmps53
   go_wp2_with (first
    |(simp only[E1.out])
    |(refine ae (.tmp 11) ?_;refine wpList_load_mid rfl 45 (.tmp 11) rfl kb (ko+i*16) rfl ds _ HMk.out Tryz.underlying45 rfl HIk.out ?_)
    |(refine ai (.tmp 7) ?_;refine HSk.out _ _ _ _ _ rfl rfl rfl rfl _ (by simp) ?_;simp only[Pt])
    |(refine ae (.tmp 3) ?_;refine Row.still (by first|exact Free.wanted_of rfl rfl rfl|rfl) (Hk.exec_mid 27 (.tmp 3) rfl W.heap.size 0 rfl cs _ HMC.out Tryz.underlying27 rfl HIC.out) ?_;simp only[Pt])
    |(refine ae (.tmp 7) ?_;refine Row.still (by first|exact Free.wanted_of rfl rfl rfl|rfl) (Hk.exec_mid 45 (.tmp 7) rfl W1.heap.size 0 rfl ds _ HMD.out Tryz.underlying45 rfl HIk.out) ?_;simp only[Pt])
    |(refine ae (.tmp 5) ?_;refine Row.still (by first|exact Free.wanted_of rfl rfl rfl|rfl) (Hk.exec_mid 66 (.tmp 5) rfl (W.heap.size+1) 0 rfl es _ HMM.out Tryz.underlying66 rfl HIM.out) ?_;simp only[Pt]))
   refine CR.out.mono ?_
   rintro e w3 ⟨rfl,hb3⟩
   have HF2:=h_ (HF.out w3 _ rfl (HB2.out.trans (hb3.mono HB2.out.size)))
   clear hb3 CR HF
   go_wp2_with fail
   exact HF2.out
  ·have i0:decide (left<=k.1.after)=false:=decide_eq_false hl
   have HF:=h_ (FIN.out W2 false (by unfold aR fR;simp[h1,hl]) HB2.out)
   clear FIN
   go_enter Tryz.func53,Tryz.ntmps53
   go_wp2_with (first
    |(simp only[E1.out])
    |(refine ae (.tmp 11) ?_;refine wpList_load_mid rfl 45 (.tmp 11) rfl kb (ko+i*16) rfl ds _ HMk.out Tryz.underlying45 rfl HIk.out ?_)
    |(refine ai (.tmp 7) ?_;refine HSk.out _ _ _ _ _ rfl rfl rfl rfl _ (by simp) ?_;simp only[Pt]))
   exact HF.out
 have b1:(status==1)=false:=by simpa using h1
 by_cases h2:status=2
 ·have b2:(status==2)=true:=by simpa using h2
  by_cases hk1:k.1.kind=1
  rotate_left
  ·have bk:(k.1.kind==1)=false:=by simpa using hk1
   have HF:=h_ (FIN.out W2 false (by unfold aR fR;simp[h2,hk1]) HB2.out)
   clear FIN
   go_enter Tryz.func53,Tryz.ntmps53
   go_wp2_with (first
    |(simp only[E1.out])
    |(refine ae (.tmp 11) ?_;refine wpList_load_mid rfl 45 (.tmp 11) rfl kb (ko+i*16) rfl ds _ HMk.out Tryz.underlying45 rfl HIk.out ?_)
    |(refine ai (.tmp 7) ?_;refine HSk.out _ _ _ _ _ rfl rfl rfl rfl _ (by simp) ?_;simp only[Pt]))
   exact HF.out
  have bk:(k.1.kind==1)=true:=by simpa using hk1
  by_cases hl:left<=k.1.grace
  ·have i0:decide (left<=k.1.grace)=true:=decide_eq_true hl
   have HF:Hid (∀w' v,v=fc c.parties k.1 ⟨status,left,got,bearer,paused⟩->Below W.heap.size W w'->R (.returned (.bool v)) w'):=h_ fun w' v h hb=>FIN.out w' v (by unfold aR;simp[h,h2,hl,hk1]) hb
   clear FIN
   go_enter Tryz.func53,Tryz.ntmps53
   go_wp2_with (first
    |(simp only[E1.out])
    |(refine ae (.tmp 11) ?_;refine wpList_load_mid rfl 45 (.tmp 11) rfl kb (ko+i*16) rfl ds _ HMk.out Tryz.underlying45 rfl HIk.out ?_)
    |(refine ai (.tmp 7) ?_;refine HSk.out _ _ _ _ _ rfl rfl rfl rfl _ (by simp) ?_;simp only[Pt])
    |(refine ae (.tmp 3) ?_;refine Row.still (by first|exact Free.wanted_of rfl rfl rfl|rfl) (Hk.exec_mid 27 (.tmp 3) rfl W.heap.size 0 rfl cs _ HMC.out Tryz.underlying27 rfl HIC.out) ?_;simp only[Pt])
    |(refine ae (.tmp 7) ?_;refine Row.still (by first|exact Free.wanted_of rfl rfl rfl|rfl) (Hk.exec_mid 45 (.tmp 7) rfl W1.heap.size 0 rfl ds _ HMD.out Tryz.underlying45 rfl HIk.out) ?_;simp only[Pt])
    |(refine ae (.tmp 5) ?_;refine Row.still (by first|exact Free.wanted_of rfl rfl rfl|rfl) (Hk.exec_mid 66 (.tmp 5) rfl (W.heap.size+1) 0 rfl es _ HMM.out Tryz.underlying66 rfl HIM.out) ?_;simp only[Pt]))
   refine CR.out.mono ?_
   rintro e w3 ⟨rfl,hb3⟩
   have HF2:=h_ (HF.out w3 _ rfl (HB2.out.trans (hb3.mono HB2.out.size)))
   clear hb3 CR HF
   go_wp2_with fail
   exact HF2.out
  ·have i0:decide (left<=k.1.grace)=false:=decide_eq_false hl
   have HF:=h_ (FIN.out W2 false (by unfold aR fR;simp[h2,hl]) HB2.out)
   clear FIN
   go_enter Tryz.func53,Tryz.ntmps53
   go_wp2_with (first
    |(simp only[E1.out])
    |(refine ae (.tmp 11) ?_;refine wpList_load_mid rfl 45 (.tmp 11) rfl kb (ko+i*16) rfl ds _ HMk.out Tryz.underlying45 rfl HIk.out ?_)
    |(refine ai (.tmp 7) ?_;refine HSk.out _ _ _ _ _ rfl rfl rfl rfl _ (by simp) ?_;simp only[Pt]))
   exact HF.out
 have b2:(status==2)=false:=by simpa using h2
 by_cases h3:status=3
 ·have b3:(status==3)=true:=by simpa using h3
  by_cases hl:left=0
  rotate_left
  ·have b6:(left==0)=false:=by simpa using hl
   have HF:=h_ (FIN.out W2 false (by unfold aR fR;simp[hl,h3]) HB2.out)
   clear FIN
   go_enter Tryz.func53,Tryz.ntmps53
   go_wp2_with (first
    |(simp only[E1.out])
    |(refine ae (.tmp 11) ?_;refine wpList_load_mid rfl 45 (.tmp 11) rfl kb (ko+i*16) rfl ds _ HMk.out Tryz.underlying45 rfl HIk.out ?_)
    |(refine ai (.tmp 7) ?_;refine HSk.out _ _ _ _ _ rfl rfl rfl rfl _ (by simp) ?_;simp only[Pt]))
   exact HF.out
  have b6:(left==0)=true:=by simpa using hl
  by_cases hg0:0<=got
  rotate_left
  ·have i0:decide (0<=got)=false:=decide_eq_false hg0
   have HF:=h_ (FIN.out W2 false (by unfold aR fR;simp[hg0,h3]) HB2.out)
   clear FIN
   go_enter Tryz.func53,Tryz.ntmps53
   go_wp2_with (first
    |(simp only[E1.out])
    |(refine ae (.tmp 11) ?_;refine wpList_load_mid rfl 45 (.tmp 11) rfl kb (ko+i*16) rfl ds _ HMk.out Tryz.underlying45 rfl HIk.out ?_)
    |(refine ai (.tmp 7) ?_;refine HSk.out _ _ _ _ _ rfl rfl rfl rfl _ (by simp) ?_;simp only[Pt]))
   exact HF.out
  have i0:decide (0<=got)=true:=decide_eq_true hg0
  by_cases hg9:got<=9
  rotate_left
  ·have i1:decide (got<=9)=false:=decide_eq_false hg9
   have HF:=h_ (FIN.out W2 false (by unfold aR fR;simp[hg9,h3]) HB2.out)
   clear FIN
   go_enter Tryz.func53,Tryz.ntmps53
   go_wp2_with (first
    |(simp only[E1.out])
    |(refine ae (.tmp 11) ?_;refine wpList_load_mid rfl 45 (.tmp 11) rfl kb (ko+i*16) rfl ds _ HMk.out Tryz.underlying45 rfl HIk.out ?_)
    |(refine ai (.tmp 7) ?_;refine HSk.out _ _ _ _ _ rfl rfl rfl rfl _ (by simp) ?_;simp only[Pt]))
   exact HF.out
  have i1:decide (got<=9)=true:=decide_eq_true hg9
  by_cases hb0: -1<=bearer
  rotate_left
  ·have i2:decide (-1<=bearer)=false:=decide_eq_false hb0
   have HF:=h_ (FIN.out W2 false (by unfold aR fR;simp[hb0,h3]) HB2.out)
   clear FIN
   go_enter Tryz.func53,Tryz.ntmps53
   go_wp2_with (first
    |(simp only[E1.out])
    |(refine ae (.tmp 11) ?_;refine wpList_load_mid rfl 45 (.tmp 11) rfl kb (ko+i*16) rfl ds _ HMk.out Tryz.underlying45 rfl HIk.out ?_)
    |(refine ai (.tmp 7) ?_;refine HSk.out _ _ _ _ _ rfl rfl rfl rfl _ (by simp) ?_;simp only[Pt]))
   exact HF.out
  have i2:decide (-1<=bearer)=true:=decide_eq_true hb0
  by_cases hb9:bearer<c.parties
  rotate_left
  ·have i3:decide (bearer<c.parties)=false:=decide_eq_false hb9
   have HF:=h_ (FIN.out W2 false (by unfold aR fR;simp[hb9,h3]) HB2.out)
   clear FIN
   go_enter Tryz.func53,Tryz.ntmps53
   go_wp2_with (first
    |(simp only[E1.out])
    |(refine ae (.tmp 11) ?_;refine wpList_load_mid rfl 45 (.tmp 11) rfl kb (ko+i*16) rfl ds _ HMk.out Tryz.underlying45 rfl HIk.out ?_)
    |(refine ai (.tmp 7) ?_;refine HSk.out _ _ _ _ _ rfl rfl rfl rfl _ (by simp) ?_;simp only[Pt]))
   exact HF.out
  have i3:decide (bearer<c.parties)=true:=decide_eq_true hb9
  have HF:=h_ (FIN.out W2 (!paused) (by unfold aR fR;simp[hl,hg0,hg9,hb0,hb9,h3]) HB2.out)
  clear FIN
  go_enter Tryz.func53,Tryz.ntmps53
  go_wp2_with (first
   |(simp only[E1.out])
   |(refine ae (.tmp 11) ?_;refine wpList_load_mid rfl 45 (.tmp 11) rfl kb (ko+i*16) rfl ds _ HMk.out Tryz.underlying45 rfl HIk.out ?_)
   |(refine ai (.tmp 7) ?_;refine HSk.out _ _ _ _ _ rfl rfl rfl rfl _ (by simp) ?_;simp only[Pt]))
  exact HF.out
 have b3:(status==3)=false:=by simpa using h3
 by_cases h4:status=4
 ·have b4:(status==4)=true:=by simpa using h4
  by_cases hl:left=0
  rotate_left
  ·have b6:(left==0)=false:=by simpa using hl
   have HF:=h_ (FIN.out W2 false (by unfold aR fR;simp[hl,h4]) HB2.out)
   clear FIN
   go_enter Tryz.func53,Tryz.ntmps53
   go_wp2_with (first
    |(simp only[E1.out])
    |(refine ae (.tmp 11) ?_;refine wpList_load_mid rfl 45 (.tmp 11) rfl kb (ko+i*16) rfl ds _ HMk.out Tryz.underlying45 rfl HIk.out ?_)
    |(refine ai (.tmp 7) ?_;refine HSk.out _ _ _ _ _ rfl rfl rfl rfl _ (by simp) ?_;simp only[Pt]))
   exact HF.out
  have b6:(left==0)=true:=by simpa using hl
  by_cases hg0:0<=got
  rotate_left
  ·have i0:decide (0<=got)=false:=decide_eq_false hg0
   have HF:=h_ (FIN.out W2 false (by unfold aR fR;simp[hg0,h4]) HB2.out)
   clear FIN
   go_enter Tryz.func53,Tryz.ntmps53
   go_wp2_with (first
    |(simp only[E1.out])
    |(refine ae (.tmp 11) ?_;refine wpList_load_mid rfl 45 (.tmp 11) rfl kb (ko+i*16) rfl ds _ HMk.out Tryz.underlying45 rfl HIk.out ?_)
    |(refine ai (.tmp 7) ?_;refine HSk.out _ _ _ _ _ rfl rfl rfl rfl _ (by simp) ?_;simp only[Pt]))
   exact HF.out
  have i0:decide (0<=got)=true:=decide_eq_true hg0
  by_cases hg9:got<=9
  rotate_left
  ·have i1:decide (got<=9)=false:=decide_eq_false hg9
   have HF:=h_ (FIN.out W2 false (by unfold aR fR;simp[hg9,h4]) HB2.out)
   clear FIN
   go_enter Tryz.func53,Tryz.ntmps53
   go_wp2_with (first
    |(simp only[E1.out])
    |(refine ae (.tmp 11) ?_;refine wpList_load_mid rfl 45 (.tmp 11) rfl kb (ko+i*16) rfl ds _ HMk.out Tryz.underlying45 rfl HIk.out ?_)
    |(refine ai (.tmp 7) ?_;refine HSk.out _ _ _ _ _ rfl rfl rfl rfl _ (by simp) ?_;simp only[Pt]))
   exact HF.out
  have i1:decide (got<=9)=true:=decide_eq_true hg9
  by_cases hb0: -1<=bearer
  rotate_left
  ·have i2:decide (-1<=bearer)=false:=decide_eq_false hb0
   have HF:=h_ (FIN.out W2 false (by unfold aR fR;simp[hb0,h4]) HB2.out)
   clear FIN
   go_enter Tryz.func53,Tryz.ntmps53
   go_wp2_with (first
    |(simp only[E1.out])
    |(refine ae (.tmp 11) ?_;refine wpList_load_mid rfl 45 (.tmp 11) rfl kb (ko+i*16) rfl ds _ HMk.out Tryz.underlying45 rfl HIk.out ?_)
    |(refine ai (.tmp 7) ?_;refine HSk.out _ _ _ _ _ rfl rfl rfl rfl _ (by simp) ?_;simp only[Pt]))
   exact HF.out
  have i2:decide (-1<=bearer)=true:=decide_eq_true hb0
  by_cases hb9:bearer<c.parties
  rotate_left
  ·have i3:decide (bearer<c.parties)=false:=decide_eq_false hb9
   have HF:=h_ (FIN.out W2 false (by unfold aR fR;simp[hb9,h4]) HB2.out)
   clear FIN
   go_enter Tryz.func53,Tryz.ntmps53
   go_wp2_with (first
    |(simp only[E1.out])
    |(refine ae (.tmp 11) ?_;refine wpList_load_mid rfl 45 (.tmp 11) rfl kb (ko+i*16) rfl ds _ HMk.out Tryz.underlying45 rfl HIk.out ?_)
    |(refine ai (.tmp 7) ?_;refine HSk.out _ _ _ _ _ rfl rfl rfl rfl _ (by simp) ?_;simp only[Pt]))
   exact HF.out
  have i3:decide (bearer<c.parties)=true:=decide_eq_true hb9
  have HF:=h_ (FIN.out W2 (!paused) (by unfold aR fR;simp[hl,hg0,hg9,hb0,hb9,h4]) HB2.out)
  clear FIN
  go_enter Tryz.func53,Tryz.ntmps53
  go_wp2_with (first
   |(simp only[E1.out])
   |(refine ae (.tmp 11) ?_;refine wpList_load_mid rfl 45 (.tmp 11) rfl kb (ko+i*16) rfl ds _ HMk.out Tryz.underlying45 rfl HIk.out ?_)
   |(refine ai (.tmp 7) ?_;refine HSk.out _ _ _ _ _ rfl rfl rfl rfl _ (by simp) ?_;simp only[Pt]))
  exact HF.out
 have b4:(status==4)=false:=by simpa using h4
 by_cases h5:status=5
 ·have b5:(status==5)=true:=by simpa using h5
  by_cases hl:left=0
  rotate_left
  ·have b6:(left==0)=false:=by simpa using hl
   have HF:=h_ (FIN.out W2 false (by unfold aR fR;simp[hl,h5]) HB2.out)
   clear FIN
   go_enter Tryz.func53,Tryz.ntmps53
   go_wp2_with (first
    |(simp only[E1.out])
    |(refine ae (.tmp 11) ?_;refine wpList_load_mid rfl 45 (.tmp 11) rfl kb (ko+i*16) rfl ds _ HMk.out Tryz.underlying45 rfl HIk.out ?_)
    |(refine ai (.tmp 7) ?_;refine HSk.out _ _ _ _ _ rfl rfl rfl rfl _ (by simp) ?_;simp only[Pt]))
   exact HF.out
  have b6:(left==0)=true:=by simpa using hl
  by_cases hg0:0<=got
  rotate_left
  ·have i0:decide (0<=got)=false:=decide_eq_false hg0
   have HF:=h_ (FIN.out W2 false (by unfold aR fR;simp[hg0,h5]) HB2.out)
   clear FIN
   go_enter Tryz.func53,Tryz.ntmps53
   go_wp2_with (first
    |(simp only[E1.out])
    |(refine ae (.tmp 11) ?_;refine wpList_load_mid rfl 45 (.tmp 11) rfl kb (ko+i*16) rfl ds _ HMk.out Tryz.underlying45 rfl HIk.out ?_)
    |(refine ai (.tmp 7) ?_;refine HSk.out _ _ _ _ _ rfl rfl rfl rfl _ (by simp) ?_;simp only[Pt]))
   exact HF.out
  have i0:decide (0<=got)=true:=decide_eq_true hg0
  by_cases hg9:got<=9
  rotate_left
  ·have i1:decide (got<=9)=false:=decide_eq_false hg9
   have HF:=h_ (FIN.out W2 false (by unfold aR fR;simp[hg9,h5]) HB2.out)
   clear FIN
   go_enter Tryz.func53,Tryz.ntmps53
   go_wp2_with (first
    |(simp only[E1.out])
    |(refine ae (.tmp 11) ?_;refine wpList_load_mid rfl 45 (.tmp 11) rfl kb (ko+i*16) rfl ds _ HMk.out Tryz.underlying45 rfl HIk.out ?_)
    |(refine ai (.tmp 7) ?_;refine HSk.out _ _ _ _ _ rfl rfl rfl rfl _ (by simp) ?_;simp only[Pt]))
   exact HF.out
  have i1:decide (got<=9)=true:=decide_eq_true hg9
  by_cases hb0: -1<=bearer
  rotate_left
  ·have i2:decide (-1<=bearer)=false:=decide_eq_false hb0
   have HF:=h_ (FIN.out W2 false (by unfold aR fR;simp[hb0,h5]) HB2.out)
   clear FIN
   go_enter Tryz.func53,Tryz.ntmps53
   go_wp2_with (first
    |(simp only[E1.out])
    |(refine ae (.tmp 11) ?_;refine wpList_load_mid rfl 45 (.tmp 11) rfl kb (ko+i*16) rfl ds _ HMk.out Tryz.underlying45 rfl HIk.out ?_)
    |(refine ai (.tmp 7) ?_;refine HSk.out _ _ _ _ _ rfl rfl rfl rfl _ (by simp) ?_;simp only[Pt]))
   exact HF.out
  have i2:decide (-1<=bearer)=true:=decide_eq_true hb0
  by_cases hb9:bearer<c.parties
  rotate_left
  ·have i3:decide (bearer<c.parties)=false:=decide_eq_false hb9
   have HF:=h_ (FIN.out W2 false (by unfold aR fR;simp[hb9,h5]) HB2.out)
   clear FIN
   go_enter Tryz.func53,Tryz.ntmps53
   go_wp2_with (first
    |(simp only[E1.out])
    |(refine ae (.tmp 11) ?_;refine wpList_load_mid rfl 45 (.tmp 11) rfl kb (ko+i*16) rfl ds _ HMk.out Tryz.underlying45 rfl HIk.out ?_)
    |(refine ai (.tmp 7) ?_;refine HSk.out _ _ _ _ _ rfl rfl rfl rfl _ (by simp) ?_;simp only[Pt]))
   exact HF.out
  have i3:decide (bearer<c.parties)=true:=decide_eq_true hb9
  have HF:=h_ (FIN.out W2 (!paused) (by unfold aR fR;simp[hl,hg0,hg9,hb0,hb9,h5]) HB2.out)
  clear FIN
  go_enter Tryz.func53,Tryz.ntmps53
  go_wp2_with (first
   |(simp only[E1.out])
   |(refine ae (.tmp 11) ?_;refine wpList_load_mid rfl 45 (.tmp 11) rfl kb (ko+i*16) rfl ds _ HMk.out Tryz.underlying45 rfl HIk.out ?_)
   |(refine ai (.tmp 7) ?_;refine HSk.out _ _ _ _ _ rfl rfl rfl rfl _ (by simp) ?_;simp only[Pt]))
  exact HF.out
 have b5:(status==5)=false:=by simpa using h5
 have HF:=h_ (FIN.out W2 false (by unfold aR fR;simp[h0,h1,h2,h3,h4,h5]) HB2.out)
 clear FIN
 go_enter Tryz.func53,Tryz.ntmps53
 go_wp2_with (first
  |(simp only[E1.out])
  |(refine ae (.tmp 11) ?_;refine wpList_load_mid rfl 45 (.tmp 11) rfl kb (ko+i*16) rfl ds _ HMk.out Tryz.underlying45 rfl HIk.out ?_)
  |(refine ai (.tmp 7) ?_;refine HSk.out _ _ _ _ _ rfl rfl rfl rfl _ (by simp) ?_;simp only[Pt]))
 exact HF.out
end Go.Proofs.YtekfoaenomgjgaaGreatDoor
