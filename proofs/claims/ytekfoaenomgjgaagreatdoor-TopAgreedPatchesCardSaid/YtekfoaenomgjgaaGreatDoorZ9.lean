/- Package patch: a clause copied. Condition: its conditions lie in memory. -/
import Derived.Test.YtekfoaenomgjgaaGreatDoorZ5
set_option maxRecDepth 100000
set_option linter.all false
namespace Go.Proofs.YtekfoaenomgjgaaGreatDoor
open Go.RowKit Go.W32 Go.Blk Go.Cs Go.Lib Go.Opn Go.Mg Go.Cv

theorem exec_ratZ{ρ:Operand->Value}{op:Oper}{w:World}{x y:Operand}{n d:Int}(ho:op.op= .binOp .eql 43 x y 43)(hx:ρ x= .agg [.int .i64 n, .int .i64 d].toArray)(hy:ρ y= .agg #[.int .i64 0, .int .i64 0]):
  (execOp ρ op).run Tryz.prog w= .ok (.value (.bool ((n==0)&&(d==0)))) w:=by
 unfold execOp
 simp only[ho,hx,hy]
 by_cases h1:n=0<;>by_cases h2:d=0<;>(go_simp<;>simp[h1,h2])
set_option maxHeartbeats 20000000 in
theorem zero_any(k:Kl)(W:World):Calls Tryz.prog 92 #[.agg (aF k).toArray] W fun e w'=>e= .returned (.bool (k.1.same Cls.zero))/\Below W.heap.size W w':=by
 obtain⟨R,eR⟩:∃R:Ending->World->Prop,R=fun e w'=>e= .returned (.bool (k.1.same Cls.zero))/\Below W.heap.size W w':=⟨_,rfl⟩
 rw[<-eR]
 have FINF:Hid (∀w',k.1≠Cls.zero->Below W.heap.size W w'->R (.returned (.bool false)) w'):=h_ fun w' h hb=>by
  have h1:k.1.same Cls.zero=false:=by
   cases hs:k.1.same Cls.zero with
   |false=>rfl
   |true=>exact absurd (Cls.same_iff.1 hs) h
  rw[eR,h1];exact⟨rfl,hb⟩
 have FINT:Hid (∀w',k.1=Cls.zero->Below W.heap.size W w'->R (.returned (.bool true)) w'):=h_ fun w' h hb=>by
  rw[eR,Cls.same_iff.2 h];exact⟨rfl,hb⟩
 clear eR
 obtain⟨ds,eds⟩:∃ds,ds=aF k:=⟨_,rfl⟩
 have hr1:Row (W.alloc (.cells ds.toArray 45)) W.heap.size 45 ds:=Row.new _ _ _
 have HB1:Hid (Below W.heap.size W (W.alloc (.cells ds.toArray 45))):=h_ ((Below.refl _ _).alloc (Nat.le_refl _) _)
 have hq:=ClsK.ofKl (T:=45) (k:=k) (by rw[<-eds];exact hr1)
 have hrg:=hq.rg
 obtain⟨q0,q1,q2,q3,q4,q5,q6,q7,q8,q9,q10,q11,q12,q13,q14,q15⟩:=hq
 rw[<-eds]
 obtain⟨⟨kind,role,act,need,start,after,grace,bus,fin,pause,resume,num,den,unit,dest,waived⟩,kA,kc⟩:=k
 simp only at q0 q1 q2 q3 q4 q5 q6 q7 q8 q9 q10 q11 q12 q13 q14 q15 hrg FINF FINT
 obtain⟨fs,efs⟩:∃fs:List Value,fs= [.int .i64 num, .int .i64 den]:=⟨_,rfl⟩
 rw[<-efs]at hrg
 have HMF:=h_ hrg
 have HIF:=h_ (gQ fs (by rw[efs];rfl))
 obtain⟨Z,eZ⟩:∃Z,Z=((num==0)&&(den==0)):=⟨_,rfl⟩
 have HRE:Hid (∀ {ρ:Operand->Value} {op:Oper} {x y:Operand} {w:World},op.op= .binOp .eql 43 x y 43->ρ x= .agg fs.toArray->ρ y= .agg #[.int .i64 0, .int .i64 0]->(execOp ρ op).run Tryz.prog w= .ok (.value (.bool Z)) w):=h_ fun ho hx hy=>by rw[eZ];rw[efs]at hx;exact exec_ratZ ho hx hy
 have EZ:=h_ eZ
 clear eds hr1 hrg efs eZ q11 q12
 by_cases h0:start.length=0
 rotate_left
 ·have b0:((start.length:Int)==0)=false:=by simp;intro e;exact h0 (by rw[e];rfl)
  have HF:=h_ (FINF.out _ (fun e=>h0 (by rw[show start= [] from congrArg Cls.start e];rfl)) HB1.out)
  clear h0
  go_enter Tryz.func92,Tryz.ntmps92
  go_wp2_with (first
   |(refine ae (.tmp 58) ?_;refine Row.still (by first|exact Free.wanted_of rfl rfl rfl|rfl) (Hk.exec_mid 43 (.tmp 58) rfl W.heap.size 11 rfl fs _ HMF.out Tryz.underlying43 rfl HIF.out) ?_;simp only[Pt])
   |(refine eQ 43 ?_;refine Row.still (by first|exact Free.wanted_of rfl rfl rfl|rfl) (HRE.out rfl rfl rfl) ?_;simp only[Pt]))
  exact HF.out
 have b0:((start.length:Int)==0)=true:=by simp;exact List.length_eq_zero_iff.1 h0
 by_cases h1:kind=0
 rotate_left
 ·have b1:(kind==0)=false:=by simpa using h1
  have HF:=h_ (FINF.out _ (fun e=>h1 (congrArg Cls.kind e)) HB1.out)
  clear h1
  go_enter Tryz.func92,Tryz.ntmps92
  go_wp2_with (first
   |(refine ae (.tmp 58) ?_;refine Row.still (by first|exact Free.wanted_of rfl rfl rfl|rfl) (Hk.exec_mid 43 (.tmp 58) rfl W.heap.size 11 rfl fs _ HMF.out Tryz.underlying43 rfl HIF.out) ?_;simp only[Pt])
   |(refine eQ 43 ?_;refine Row.still (by first|exact Free.wanted_of rfl rfl rfl|rfl) (HRE.out rfl rfl rfl) ?_;simp only[Pt]))
  exact HF.out
 have b1:(kind==0)=true:=by simpa using h1
 by_cases h2:role=0
 rotate_left
 ·have b2:(role==0)=false:=by simpa using h2
  have HF:=h_ (FINF.out _ (fun e=>h2 (congrArg Cls.role e)) HB1.out)
  clear h2
  go_enter Tryz.func92,Tryz.ntmps92
  go_wp2_with (first
   |(refine ae (.tmp 58) ?_;refine Row.still (by first|exact Free.wanted_of rfl rfl rfl|rfl) (Hk.exec_mid 43 (.tmp 58) rfl W.heap.size 11 rfl fs _ HMF.out Tryz.underlying43 rfl HIF.out) ?_;simp only[Pt])
   |(refine eQ 43 ?_;refine Row.still (by first|exact Free.wanted_of rfl rfl rfl|rfl) (HRE.out rfl rfl rfl) ?_;simp only[Pt]))
  exact HF.out
 have b2:(role==0)=true:=by simpa using h2
 by_cases h3:act=0
 rotate_left
 ·have b3:(act==0)=false:=by simpa using h3
  have HF:=h_ (FINF.out _ (fun e=>h3 (congrArg Cls.act e)) HB1.out)
  clear h3
  go_enter Tryz.func92,Tryz.ntmps92
  go_wp2_with (first
   |(refine ae (.tmp 58) ?_;refine Row.still (by first|exact Free.wanted_of rfl rfl rfl|rfl) (Hk.exec_mid 43 (.tmp 58) rfl W.heap.size 11 rfl fs _ HMF.out Tryz.underlying43 rfl HIF.out) ?_;simp only[Pt])
   |(refine eQ 43 ?_;refine Row.still (by first|exact Free.wanted_of rfl rfl rfl|rfl) (HRE.out rfl rfl rfl) ?_;simp only[Pt]))
  exact HF.out
 have b3:(act==0)=true:=by simpa using h3
 by_cases h4:need=0
 rotate_left
 ·have b4:(need==0)=false:=by simpa using h4
  have HF:=h_ (FINF.out _ (fun e=>h4 (congrArg Cls.need e)) HB1.out)
  clear h4
  go_enter Tryz.func92,Tryz.ntmps92
  go_wp2_with (first
   |(refine ae (.tmp 58) ?_;refine Row.still (by first|exact Free.wanted_of rfl rfl rfl|rfl) (Hk.exec_mid 43 (.tmp 58) rfl W.heap.size 11 rfl fs _ HMF.out Tryz.underlying43 rfl HIF.out) ?_;simp only[Pt])
   |(refine eQ 43 ?_;refine Row.still (by first|exact Free.wanted_of rfl rfl rfl|rfl) (HRE.out rfl rfl rfl) ?_;simp only[Pt]))
  exact HF.out
 have b4:(need==0)=true:=by simpa using h4
 by_cases h5:after=0
 rotate_left
 ·have b5:(after==0)=false:=by simpa using h5
  have HF:=h_ (FINF.out _ (fun e=>h5 (congrArg Cls.after e)) HB1.out)
  clear h5
  go_enter Tryz.func92,Tryz.ntmps92
  go_wp2_with (first
   |(refine ae (.tmp 58) ?_;refine Row.still (by first|exact Free.wanted_of rfl rfl rfl|rfl) (Hk.exec_mid 43 (.tmp 58) rfl W.heap.size 11 rfl fs _ HMF.out Tryz.underlying43 rfl HIF.out) ?_;simp only[Pt])
   |(refine eQ 43 ?_;refine Row.still (by first|exact Free.wanted_of rfl rfl rfl|rfl) (HRE.out rfl rfl rfl) ?_;simp only[Pt]))
  exact HF.out
 have b5:(after==0)=true:=by simpa using h5
 by_cases h6:grace=0
 rotate_left
 ·have b6:(grace==0)=false:=by simpa using h6
  have HF:=h_ (FINF.out _ (fun e=>h6 (congrArg Cls.grace e)) HB1.out)
  clear h6
  go_enter Tryz.func92,Tryz.ntmps92
  go_wp2_with (first
   |(refine ae (.tmp 58) ?_;refine Row.still (by first|exact Free.wanted_of rfl rfl rfl|rfl) (Hk.exec_mid 43 (.tmp 58) rfl W.heap.size 11 rfl fs _ HMF.out Tryz.underlying43 rfl HIF.out) ?_;simp only[Pt])
   |(refine eQ 43 ?_;refine Row.still (by first|exact Free.wanted_of rfl rfl rfl|rfl) (HRE.out rfl rfl rfl) ?_;simp only[Pt]))
  exact HF.out
 have b6:(grace==0)=true:=by simpa using h6
 by_cases h7:bus=false
 rotate_left
 ·obtain rfl:bus=true:=by simpa using h7
  have HF:=h_ (FINF.out _ (fun e=>h7 (congrArg Cls.bus e)) HB1.out)
  clear h7
  go_enter Tryz.func92,Tryz.ntmps92
  go_wp2_with (first
   |(refine ae (.tmp 58) ?_;refine Row.still (by first|exact Free.wanted_of rfl rfl rfl|rfl) (Hk.exec_mid 43 (.tmp 58) rfl W.heap.size 11 rfl fs _ HMF.out Tryz.underlying43 rfl HIF.out) ?_;simp only[Pt])
   |(refine eQ 43 ?_;refine Row.still (by first|exact Free.wanted_of rfl rfl rfl|rfl) (HRE.out rfl rfl rfl) ?_;simp only[Pt]))
  exact HF.out
 subst h7
 by_cases h8:fin=false
 rotate_left
 ·obtain rfl:fin=true:=by simpa using h8
  have HF:=h_ (FINF.out _ (fun e=>h8 (congrArg Cls.fin e)) HB1.out)
  clear h8
  go_enter Tryz.func92,Tryz.ntmps92
  go_wp2_with (first
   |(refine ae (.tmp 58) ?_;refine Row.still (by first|exact Free.wanted_of rfl rfl rfl|rfl) (Hk.exec_mid 43 (.tmp 58) rfl W.heap.size 11 rfl fs _ HMF.out Tryz.underlying43 rfl HIF.out) ?_;simp only[Pt])
   |(refine eQ 43 ?_;refine Row.still (by first|exact Free.wanted_of rfl rfl rfl|rfl) (HRE.out rfl rfl rfl) ?_;simp only[Pt]))
  exact HF.out
 subst h8
 by_cases h9:pause=0
 rotate_left
 ·have b9:(pause==0)=false:=by simpa using h9
  have HF:=h_ (FINF.out _ (fun e=>h9 (congrArg Cls.pause e)) HB1.out)
  clear h9
  go_enter Tryz.func92,Tryz.ntmps92
  go_wp2_with (first
   |(refine ae (.tmp 58) ?_;refine Row.still (by first|exact Free.wanted_of rfl rfl rfl|rfl) (Hk.exec_mid 43 (.tmp 58) rfl W.heap.size 11 rfl fs _ HMF.out Tryz.underlying43 rfl HIF.out) ?_;simp only[Pt])
   |(refine eQ 43 ?_;refine Row.still (by first|exact Free.wanted_of rfl rfl rfl|rfl) (HRE.out rfl rfl rfl) ?_;simp only[Pt]))
  exact HF.out
 have b9:(pause==0)=true:=by simpa using h9
 by_cases h10:resume=0
 rotate_left
 ·have b10:(resume==0)=false:=by simpa using h10
  have HF:=h_ (FINF.out _ (fun e=>h10 (congrArg Cls.resume e)) HB1.out)
  clear h10
  go_enter Tryz.func92,Tryz.ntmps92
  go_wp2_with (first
   |(refine ae (.tmp 58) ?_;refine Row.still (by first|exact Free.wanted_of rfl rfl rfl|rfl) (Hk.exec_mid 43 (.tmp 58) rfl W.heap.size 11 rfl fs _ HMF.out Tryz.underlying43 rfl HIF.out) ?_;simp only[Pt])
   |(refine eQ 43 ?_;refine Row.still (by first|exact Free.wanted_of rfl rfl rfl|rfl) (HRE.out rfl rfl rfl) ?_;simp only[Pt]))
  exact HF.out
 have b10:(resume==0)=true:=by simpa using h10
 by_cases h11:num=0/\den=0
 rotate_left
 ·obtain rfl:Z=false:=by rw[EZ.out,Bool.eq_false_iff];simpa using h11
  have HF:=h_ (FINF.out _ (fun e=>h11 ⟨congrArg Cls.num e,congrArg Cls.den e⟩) HB1.out)
  clear h11
  go_enter Tryz.func92,Tryz.ntmps92
  go_wp2_with (first
   |(refine ae (.tmp 58) ?_;refine Row.still (by first|exact Free.wanted_of rfl rfl rfl|rfl) (Hk.exec_mid 43 (.tmp 58) rfl W.heap.size 11 rfl fs _ HMF.out Tryz.underlying43 rfl HIF.out) ?_;simp only[Pt])
   |(refine eQ 43 ?_;refine Row.still (by first|exact Free.wanted_of rfl rfl rfl|rfl) (HRE.out rfl rfl rfl) ?_;simp only[Pt]))
  exact HF.out
 obtain rfl:Z=true:=by rw[EZ.out,h11.1,h11.2];rfl
 by_cases h12:unit=0
 rotate_left
 ·have b12:(unit==0)=false:=by simpa using h12
  have HF:=h_ (FINF.out _ (fun e=>h12 (congrArg Cls.unit e)) HB1.out)
  clear h12
  go_enter Tryz.func92,Tryz.ntmps92
  go_wp2_with (first
   |(refine ae (.tmp 58) ?_;refine Row.still (by first|exact Free.wanted_of rfl rfl rfl|rfl) (Hk.exec_mid 43 (.tmp 58) rfl W.heap.size 11 rfl fs _ HMF.out Tryz.underlying43 rfl HIF.out) ?_;simp only[Pt])
   |(refine eQ 43 ?_;refine Row.still (by first|exact Free.wanted_of rfl rfl rfl|rfl) (HRE.out rfl rfl rfl) ?_;simp only[Pt]))
  exact HF.out
 have b12:(unit==0)=true:=by simpa using h12
 by_cases h13:dest=0
 rotate_left
 ·have b13:(dest==0)=false:=by simpa using h13
  have HF:=h_ (FINF.out _ (fun e=>h13 (congrArg Cls.to e)) HB1.out)
  clear h13
  go_enter Tryz.func92,Tryz.ntmps92
  go_wp2_with (first
   |(refine ae (.tmp 58) ?_;refine Row.still (by first|exact Free.wanted_of rfl rfl rfl|rfl) (Hk.exec_mid 43 (.tmp 58) rfl W.heap.size 11 rfl fs _ HMF.out Tryz.underlying43 rfl HIF.out) ?_;simp only[Pt])
   |(refine eQ 43 ?_;refine Row.still (by first|exact Free.wanted_of rfl rfl rfl|rfl) (HRE.out rfl rfl rfl) ?_;simp only[Pt]))
  exact HF.out
 have b13:(dest==0)=true:=by simpa using h13
 by_cases h14:waived=false
 rotate_left
 ·obtain rfl:waived=true:=by simpa using h14
  have HF:=h_ (FINF.out _ (fun e=>h14 (congrArg Cls.waived e)) HB1.out)
  clear h14
  go_enter Tryz.func92,Tryz.ntmps92
  go_wp2_with (first
   |(refine ae (.tmp 58) ?_;refine Row.still (by first|exact Free.wanted_of rfl rfl rfl|rfl) (Hk.exec_mid 43 (.tmp 58) rfl W.heap.size 11 rfl fs _ HMF.out Tryz.underlying43 rfl HIF.out) ?_;simp only[Pt])
   |(refine eQ 43 ?_;refine Row.still (by first|exact Free.wanted_of rfl rfl rfl|rfl) (HRE.out rfl rfl rfl) ?_;simp only[Pt]))
  exact HF.out
 subst h14
 have HF:=h_ (FINT.out _ (by
  unfold Cls.zero
  rw[List.length_eq_zero_iff.1 h0,h1,h2,h3,h4,h5,h6,h9,h10,h11.1,h11.2,h12,h13]) HB1.out)
 clear h0 h1 h2 h3 h4 h5 h6 h9 h10 h11 h12 h13
 go_enter Tryz.func92,Tryz.ntmps92
 go_wp2_with (first
  |(refine ae (.tmp 58) ?_;refine Row.still (by first|exact Free.wanted_of rfl rfl rfl|rfl) (Hk.exec_mid 43 (.tmp 58) rfl W.heap.size 11 rfl fs _ HMF.out Tryz.underlying43 rfl HIF.out) ?_;simp only[Pt])
  |(refine eQ 43 ?_;refine Row.still (by first|exact Free.wanted_of rfl rfl rfl|rfl) (HRE.out rfl rfl rfl) ?_;simp only[Pt]))
 exact HF.out
end Go.Proofs.YtekfoaenomgjgaaGreatDoor
namespace Go.Proofs.YtekfoaenomgjgaaGreatDoor
open Go.RowKit Go.W32 Go.Blk Go.Cs Go.Lib Go.Opn Go.Mg Go.Cv

theorem cl2b_any(A:Option Addr)(c:Nat)(l:List (Int×Int))(w:World)(hl:SL w 2 ar A l)(hn:l.length<=1000000):
  Calls Tryz.prog 63 #[.slice A l.length c] w fun e w'=> ∃A' c',e= .returned (.slice A' l.length c')/\w'.ownsRow w.heap.size 133 2 (.slice A' l.length c') l.length (l.flatMap ar)/\Below w.heap.size w w':=by
 obtain⟨i,h1,h2,h3,h4⟩:=bG info_c
 exact Cln.clone_any Tryz.clc (ec:=ar) i _ 2 16 h1 h2 h3 h4 rfl (by decide) Tryz.sizeOf133 (fun _=>rfl) (fun x v hv=>by simp[ar]at hv;rcases hv with rfl|rfl<;>rfl) A c l w hl (by unfold maxLen;omega) (by omega)
theorem zk:(#[.int .i64 0, .int .i64 0, .int .i64 0, .int .i64 0, .slice none 0 0, .int .i64 0, .int .i64 0, .bool false, .bool false, .int .i64 0, .int .i64 0, .int .i64 0, .int .i64 0, .int .i64 0, .int .i64 0, .bool false]:Array Value)=(aF (Cls.zero,(none,0))).toArray:=rfl
def CpPost(k:Kl)(W:World)(e:Ending)(w':World):Prop:=∃A' c',e= .returned (.agg (aF (k.1,(A',c'))).toArray)/\w'.ownsRow W.heap.size 133 2 (.slice A' k.1.start.length c') k.1.start.length (k.1.start.flatMap ar)/\Below W.heap.size W w'
set_option maxHeartbeats 2000000 in
theorem gd(k:Kl)(W:World)(hs:SL W 2 ar k.2.1 k.1.start)(hn:k.1.start.length<=1000000):Calls Tryz.prog 57 #[.agg (aF k).toArray] W (CpPost k W):=by
 obtain⟨ds,eds⟩:∃ds,ds=aF k:=⟨_,rfl⟩
 obtain⟨zs,ezs⟩:∃zs,zs=aF (Cls.zero,(none,0)):=⟨_,rfl⟩
 have hdl:ds.length=16:=by rw[eds];rfl
 obtain⟨hr1,hr2,hbw⟩:=bu W 45 45 ds zs
 obtain⟨W2,e2⟩:∃W2,W2=(W.alloc (.cells ds.toArray 45)).alloc (.cells zs.toArray 45):=⟨_,rfl⟩
 rw[<-e2]at hr1 hr2 hbw
 have E2:Hid ((W.alloc (.cells ds.toArray 45)).alloc (.cells #[.int .i64 0, .int .i64 0, .int .i64 0, .int .i64 0, .slice none 0 0, .int .i64 0, .int .i64 0, .bool false, .bool false, .int .i64 0, .int .i64 0, .int .i64 0, .int .i64 0, .int .i64 0, .int .i64 0, .bool false] 45)=W2):=h_ (by rw[zk, <-ezs];exact e2.symm)
 have q4:=hr1.at (show ds[4]? =some (.slice k.2.1 k.1.start.length k.2.2) by rw[eds];rfl)
 have CC:=h_ (cl2b_any k.2.1 k.2.2 k.1.start W2 (hs.below hbw (Nat.le_refl _)) hn)
 have HR1:=h_ hr1
 have HR2:=h_ hr2
 have HBW:=h_ hbw
 have EDS:=h_ eds
 have EZS:=h_ ezs
 rw[<-eds]
 clear eds ezs hdl hr1 hr2 hbw e2 hs
 go_enter Tryz.func57,Tryz.ntmps57
 go_wp2_with (simp only[E2.out])
 refine CC.out.mono ?_
 rintro e w3 ⟨A',c',rfl,ho3,hb3⟩
 have hr3:=HR1.out.below hb3 HR1.out.lt
 have hz3:=HR2.out.below hb3 HR2.out.lt
 have q43:=hr3.at (show ds[4]? =some (.slice k.2.1 k.1.start.length k.2.2) by rw[EDS.out];rfl)
 have f43:=Blk.Blk.frozen (show Blk.Blk w3 W.heap.size ds 45 from hr3) 4
 obtain⟨ns,ens⟩:∃ns,ns=aF (k.1,(A',c')):=⟨_,rfl⟩
 have hset:ds.set 4 (.slice A' k.1.start.length c')=ns:=by rw[EDS.out,ens];rfl
 obtain⟨W4,e4⟩:∃W4,W4=w3.setCell ⟨W.heap.size,4,none⟩ (.slice A' k.1.start.length c'):=⟨_,rfl⟩
 have hr4:Row W4 W.heap.size 45 ns:=by
  have h:=Blk.Blk.set (show Blk.Blk w3 W.heap.size ds 45 from hr3) 4 (.slice A' k.1.start.length c')
  rw[hset]at h;rw[e4];exact h
 have hz4:Row W4 (W.heap.size+1) 45 zs:=by
  rw[e4]
  exact Blk.Blk.set_ne (show Blk.Blk w3 (W.heap.size+1) zs 45 from hz3) (a:=⟨W.heap.size,4,none⟩) (by show W.heap.size≠W.heap.size+1;omega) _
 have hlt:W.heap.size<W2.heap.size:=HR1.out.lt
 have hlt2:W.heap.size+1<W2.heap.size:=HR2.out.lt
 have ho4:W4.ownsRow W2.heap.size 133 2 (.slice A' k.1.start.length c') k.1.start.length (k.1.start.flatMap ar):=by rw[e4];exact aD ho3 hlt
 have hb4:Below W.heap.size W W4:=(HBW.out.trans (hb3.mono HBW.out.size)).trans (by rw[e4];exact aq (a:=⟨W.heap.size,4,none⟩) (Nat.le_refl _) _)
 have E4:Hid (w3.setCell ⟨W.heap.size,4,none⟩ (.slice A' k.1.start.length c')=W4):=h_ e4.symm
 have hnl:ns.length=16:=by rw[ens];rfl
 have HMN:=h_ hr4.rg
 have HIN:=h_ (eE ns hnl)
 have HST:Hid (∀(Q:Exit->Act->World->Prop) (ops:Array Oper) (rest:List Oper) (o:Oper) (a:Act),o.guard=none->o.op= .store 45 (.tmp 2) (.tmp 7)->a.eval (.tmp 2)= .pointer (some ⟨W.heap.size+1,0,none⟩)->a.eval (.tmp 7)= .agg ns.toArray->(∀w',Hid (Row w' (W.heap.size+1) 45 ns/\w'.ownsRow W.heap.size 133 2 (.slice A' k.1.start.length c') k.1.start.length (k.1.start.flatMap ar)/\Below W.heap.size W w')->wpList Tryz.prog ops Q rest (a.put o.dst undef) w')->wpList Tryz.prog ops Q (o::rest) a W4):=h_ (by
  intro Q ops rest o a hgd ho hx hy hk
  refine Hk.wpList_store_own hgd 45 (.tmp 2) (.tmp 7) ho (W.heap.size+1) hx ns hy zs 45 hz4 HIN.out (by rw[hnl,EZS.out];rfl) (by rw[ens];exact cr _) ?_
  intro w' k1 k2 _
  refine hk w' (h_ ⟨k1,ap (owns_keep ho4 fun g hg=> ?_) (by omega),hb4.trans (aj k2 (fun g hg=>by injection hg with e;omega) hb4.size)⟩)
  have hl:=owns_lt ho4 hg
  exact k2.block _ hl.2 (fun e=>by injection e with e;omega))
 have ENS:=h_ ens
 clear hset e4 hr4 hz4 ho4 hb4 ho3 hb3 hr3 hz3 hnl ens CC q4
 go_wp2_with (first
  |(simp only[E4.out])
  |(refine ae (.tmp 1) ?_;refine wpList_load_mid rfl 45 (.tmp 1) rfl W.heap.size 0 rfl ns _ HMN.out Tryz.underlying45 rfl HIN.out ?_)
  |(refine ai (.tmp 2) ?_;refine HST.out _ _ _ _ _ rfl rfl rfl rfl ?_;intro w9 H9;simp only[Pt]))
 refine bodyPost_ret (v:= .agg ns.toArray) (Hk.results_cell_row (fn:=Tryz.f57) (p:=2) (ty:=45) rfl _ _ (W.heap.size+1) 45 ns.toArray (0,0) _ rfl H9.out.1 Tryz.underlying45 rfl (by rw[HIN.out];simp)) rfl ?_
 exact⟨A',c',by rw[ENS.out],H9.out.2⟩
end Go.Proofs.YtekfoaenomgjgaaGreatDoor
