/- Package contract: validAct. Condition: the contract lies in memory. -/
import Derived.Test.YtekfoaenomgjgaaGreatDoorZ3
set_option maxRecDepth 100000
set_option linter.all false
namespace Go.Cv
open Go
def ratO(num den:Int):Bool:=(num==0)&&(den==1)
def actV(P:Int)(H U:Nat)(a:AcT):Bool:=
 if fX H a.role then
  if a.kind==1 then
   if(a.give !=0)||((a.dest != -1)&& !fX H a.dest)then false
   else if a.unit== -1 then ratO a.num a.den else decide (0<=a.unit)&&(decide (a.unit<(U:Int))&&posB a.num a.den)
  else if(a.kind==2)||(a.kind==3)then fX H a.give&&(decide (0<=a.dest)&&(decide (a.dest<P)&&((a.unit== -1)&&ratO a.num a.den)))
  else false
 else(a.kind==1)&&((a.role== -1)&&((a.give==0)&&(((a.dest== -1)||fX H a.dest)&&((a.unit== -1)&&ratO a.num a.den))))
end Go.Cv
namespace Go.Proofs.YtekfoaenomgjgaaGreatDoor
open Go.RowKit Go.W32 Go.Blk Go.Cs Go.Lib Go.Opn Go.Mg Go.Cv

theorem bu(W:World)(T U:TypeId)(cs ds:List Value):Row ((W.alloc (.cells cs.toArray T)).alloc (.cells ds.toArray U)) W.heap.size T cs/\Row ((W.alloc (.cells cs.toArray T)).alloc (.cells ds.toArray U)) (W.heap.size+1) U ds/\Below W.heap.size W ((W.alloc (.cells cs.toArray T)).alloc (.cells ds.toArray U)):=by
 have z1:(W.alloc (.cells cs.toArray T)).heap.size=W.heap.size+1:=by simp
 have hr1:Row (W.alloc (.cells cs.toArray T)) W.heap.size T cs:=Row.new _ _ _
 exact⟨hr1.below ((Below.refl _ _).alloc (Nat.le_refl _) _) hr1.lt,by rw[<-z1];exact Row.new _ _ _,((Below.refl _ _).alloc (Nat.le_refl _) _).alloc (by simp) _⟩
structure AcC (w:World) (b:Nat) (a:AcT):Prop where
 a0:w.cell? ⟨b,0,none⟩=some (.int .i64 a.kind)
 a1:w.cell? ⟨b,1,none⟩=some (.int .i64 a.role)
 a2:w.cell? ⟨b,2,none⟩=some (.int .i64 a.give)
 a3:w.cell? ⟨b,3,none⟩=some (.int .i64 a.dest)
 a4:w.cell? ⟨b,4,none⟩=some (.int .i64 a.unit)
 a5:w.cell? ⟨b,5,none⟩=some (.int .i64 a.num)
 a6:w.cell? ⟨b,6,none⟩=some (.int .i64 a.den)
theorem AcC.of{w:World}{b:Nat}{T:TypeId}{a:AcT}(h:Row w b T (cP a)):AcC w b a:=⟨h.at rfl,h.at rfl,h.at rfl,h.at rfl,h.at rfl,h.at rfl,h.at rfl⟩
theorem AcC.rg{w:World}{b:Nat}{a:AcT}(h:AcC w b a):w.rangeAt b 5 [.int .i64 a.num, .int .i64 a.den]:=by
 intro j v hj
 match j,hj with
 |0,hj=>cases hj;exact h.a5
 |1,hj=>cases hj;exact h.a6
 |j+2,hj=>simp at hj
theorem cI{ρ:Operand->Value}{op:Oper}{w:World}{x y:Operand}{n d:Int}{Z:Bool}(ho:op.op= .binOp .eql 43 x y 43)(hx:ρ x= .agg [.int .i64 n, .int .i64 d].toArray)(hy:ρ y= .agg #[.int .i64 0, .int .i64 1])(hZ:Z=ratO n d):
  (execOp ρ op).run Tryz.prog w= .ok (.value (.bool Z)) w:=by
 subst hZ
 unfold execOp ratO
 simp only[ho,hx,hy]
 by_cases h1:n=0<;>by_cases h2:d=1<;>(go_simp<;>simp[h1,h2])
set_option maxHeartbeats 4000000 in
theorem act_any(c:ConM)(a:AcT)(W:World):Calls Tryz.prog 122 #[.agg (ak c).toArray, .agg (cP a).toArray] W fun e w'=>e= .returned (.bool (actV c.parties c.holders.length c.units.length a))/\Below W.heap.size W w':=by
 obtain⟨R,eR⟩:∃R:Ending->World->Prop,R=fun e w'=>e= .returned (.bool (actV c.parties c.holders.length c.units.length a))/\Below W.heap.size W w':=⟨_,rfl⟩
 rw[<-eR]
 have FIN:Hid (∀w' v,v=actV c.parties c.holders.length c.units.length a->Below W.heap.size W w'->R (.returned (.bool v)) w'):=h_ fun w' v h hb=>by rw[eR,h];exact⟨rfl,hb⟩
 clear eR
 obtain⟨cs,ecs⟩:∃cs,cs=ak c:=⟨_,rfl⟩
 obtain⟨ds,eds⟩:∃ds,ds=cP a:=⟨_,rfl⟩
 obtain⟨hr1,hr2,hbw⟩:=bu W 27 98 cs ds
 have CM0:=fun i w=>mov_any c i w
 rw[<-ecs]at CM0⊢
 rw[<-eds]
 generalize eW:(W.alloc (.cells cs.toArray 27)).alloc (.cells ds.toArray 98)=W2 at*
 have E1:=h_ eW
 have HQ2:Hid (∀w',Below W2.heap.size W2 w'->AcC w' (W.heap.size+1) a):=h_ fun w' hb=>AcC.of (T:=98) (by rw[<-eds];exact hr2.below hb hr2.lt)
 have HK2:Hid (∀w',Below W2.heap.size W2 w'->ConC w' W.heap.size c):=h_ fun w' hb=>ConC.of (T:=27) (by rw[<-ecs];exact hr1.below hb hr1.lt)
 have HM2:Hid (∀w',Below W2.heap.size W2 w'->w'.rangeAt W.heap.size 0 cs):=h_ fun w' hb=>(hr1.below hb hr1.lt).rg
 have HI:=h_ (aK cs (by rw[ecs];rfl))
 obtain⟨fs,efs⟩:∃fs:List Value,fs= [.int .i64 a.num, .int .i64 a.den]:=⟨_,rfl⟩
 have HF52:Hid (∀w',Below W2.heap.size W2 w'->w'.rangeAt (W.heap.size+1) 5 fs):=h_ fun w' hb=>by rw[efs];exact(HQ2.out w' hb).rg
 have HIF:=h_ (gQ fs (by rw[efs];rfl))
 have EFS:Hid (Value.agg fs.toArray= .agg [.int .i64 a.num, .int .i64 a.den].toArray):=h_ (by rw[efs])
 have HB2:=h_ hbw
 obtain⟨Z,eZ⟩:∃Z,Z=ratO a.num a.den:=⟨_,rfl⟩
 have EZ:=h_ eZ
 obtain⟨RB,eRB⟩:∃RB,RB=fX c.holders.length a.role:=⟨_,rfl⟩
 obtain⟨TB,eTB⟩:∃TB,TB=fX c.holders.length a.dest:=⟨_,rfl⟩
 obtain⟨GB,eGB⟩:∃GB,GB=fX c.holders.length a.give:=⟨_,rfl⟩
 obtain⟨PB,ePB⟩:∃PB,PB=posB a.num a.den:=⟨_,rfl⟩
 have CMR:=h_ (CM0 a.role W2)
 have CMT:=h_ (CM0 a.dest)
 have CMG:=h_ (CM0 a.give)
 have CPO:=h_ (fun w=>pos_any a.num a.den w)
 rw[show(#[.int .i64 a.num, .int .i64 a.den]:Array Value)=fs.toArray by rw[efs]]at CPO
 rw[<-eRB]at CMR
 rw[<-eTB]at CMT
 rw[<-eGB]at CMG
 rw[<-ePB]at CPO
 have HV:Hid (actV c.parties c.holders.length c.units.length a=(if RB then(if a.kind==1 then(if(a.give !=0)||((a.dest != -1)&& !TB)then false else if a.unit== -1 then Z else decide (0<=a.unit)&&(decide (a.unit<(c.units.length:Int))&&PB))else if(a.kind==2)||(a.kind==3)then GB&&(decide (0<=a.dest)&&(decide (a.dest<c.parties)&&((a.unit== -1)&&Z)))else false)else(a.kind==1)&&((a.role== -1)&&((a.give==0)&&(((a.dest== -1)||TB)&&((a.unit== -1)&&Z)))))):=h_ (by unfold actV;rw[eZ,eRB,eTB,eGB,ePB])
 have HMl:=h_ (HM2.out W2 (Below.refl _ _))
 obtain⟨a0,a1,a2,a3,a4,a5,a6⟩:=HQ2.out W2 (Below.refl _ _)
 clear ecs eds hr1 hr2 hbw CM0 eW efs eZ eRB eTB eGB ePB a0 a2 a3 a4 a5 a6
 go_enter Tryz.func122,Tryz.ntmps122
 go_wp2_with (first
  |(simp only[E1.out])
  |(refine ae (.tmp 2) ?_;refine wpList_load_mid rfl 27 (.tmp 2) rfl W.heap.size 0 rfl cs _ HMl.out Tryz.underlying27 rfl HI.out ?_))
 refine CMR.out.mono ?_
 rintro e w3 ⟨rfl,hb3⟩
 have HQ:Hid (∀w',Below w3.heap.size w3 w'->AcC w' (W.heap.size+1) a):=h_ fun w' hb=>HQ2.out w' (hb3.trans (hb.mono hb3.size))
 have HK:Hid (∀w',Below w3.heap.size w3 w'->ConC w' W.heap.size c):=h_ fun w' hb=>HK2.out w' (hb3.trans (hb.mono hb3.size))
 have HM:Hid (∀w',Below w3.heap.size w3 w'->w'.rangeAt W.heap.size 0 cs):=h_ fun w' hb=>HM2.out w' (hb3.trans (hb.mono hb3.size))
 have HF5:Hid (∀w',Below w3.heap.size w3 w'->w'.rangeAt (W.heap.size+1) 5 fs):=h_ fun w' hb=>HF52.out w' (hb3.trans (hb.mono hb3.size))
 have HB3:=h_ (HB2.out.trans (hb3.mono HB2.out.size))
 clear hb3 a1 HQ2 HK2 HM2 HF52 HB2 CMR HMl
 cases RB with
 |false=>
  by_cases h1:a.kind=1
  rotate_left
  ·have q1:(a.kind==1)=false:=by simpa using h1
   have q1n:(a.kind !=1)=true:=by simpa using h1
   clear h1
   have HF:Hid (∀w',Below w3.heap.size w3 w'->R (.returned (.bool false)) w'):=h_ fun w' hb=>FIN.out w' false (by rw[HV.out];simp[q1]) (HB3.out.trans (hb.mono HB3.out.size))
   clear FIN HV
   go_wp2_with fail
   refine Free.wp_region_free 35 [(21, .det (.bool TB)),(32, .det (.agg #[.int .i64 0, .int .i64 1]))] (fun w'=>Below w3.heap.size w3 w') (by kernel_rfl) (by kernel_rfl) (Free.mono_det (fun j mk r hf=>by simp only[Free.find]at hf;repeat' (first|cases hf|split at hf))) (Below.refl _ _).drew (fun _ _ h g=>h.trans (Below.mono g h.size)) ?_
   simp only[List.take_succ_cons,List.take_zero]
   iterate 35 (first|(apply Free.chain_skip (by first|exact unwanted2 rfl rfl rfl rfl|exact aJ rfl rfl rfl);simp only[Pt])|(apply Free.chain_still (by first|exact Free.wanted_of rfl rfl rfl|rfl) rfl;(intro w' hB hA;cases HQ.out w' hB;cases HK.out w' hB;clear hA;go_light;go_simp<;>rfl);(try simp only[Pt])))
   apply Free.chain_nil
   intro w6 hw6 _ _
   simp only[List.drop_succ_cons,List.drop_zero]
   have HF2:=h_ (HF.out w6 hw6)
   clear hw6 HF
   go_wp2_with fail
   exact HF2.out
  have q1:(a.kind==1)=true:=by simpa using h1
  have q1n:(a.kind !=1)=false:=by simpa using h1
  clear h1
  by_cases h2:a.role= -1
  rotate_left
  ·have q2:(a.role== -1)=false:=by simpa using h2
   have q2n:(a.role != -1)=true:=by simpa using h2
   clear h2
   have HF:Hid (∀w',Below w3.heap.size w3 w'->R (.returned (.bool false)) w'):=h_ fun w' hb=>FIN.out w' false (by rw[HV.out];simp[q2]) (HB3.out.trans (hb.mono HB3.out.size))
   clear FIN HV
   go_wp2_with fail
   refine Free.wp_region_free 35 [(21, .det (.bool TB)),(32, .det (.agg #[.int .i64 0, .int .i64 1]))] (fun w'=>Below w3.heap.size w3 w') (by kernel_rfl) (by kernel_rfl) (Free.mono_det (fun j mk r hf=>by simp only[Free.find]at hf;repeat' (first|cases hf|split at hf))) (Below.refl _ _).drew (fun _ _ h g=>h.trans (Below.mono g h.size)) ?_
   simp only[List.take_succ_cons,List.take_zero]
   iterate 35 (first|(apply Free.chain_skip (by first|exact unwanted2 rfl rfl rfl rfl|exact aJ rfl rfl rfl);simp only[Pt])|(apply Free.chain_still (by first|exact Free.wanted_of rfl rfl rfl|rfl) rfl;(intro w' hB hA;cases HQ.out w' hB;cases HK.out w' hB;clear hA;go_light;go_simp<;>rfl);(try simp only[Pt])))
   apply Free.chain_nil
   intro w6 hw6 _ _
   simp only[List.drop_succ_cons,List.drop_zero]
   have HF2:=h_ (HF.out w6 hw6)
   clear hw6 HF
   go_wp2_with fail
   exact HF2.out
  have q2:(a.role== -1)=true:=by simpa using h2
  have q2n:(a.role != -1)=false:=by simpa using h2
  clear h2
  by_cases h3:a.give=0
  rotate_left
  ·have q3:(a.give==0)=false:=by simpa using h3
   have q3n:(a.give !=0)=true:=by simpa using h3
   clear h3
   have HF:Hid (∀w',Below w3.heap.size w3 w'->R (.returned (.bool false)) w'):=h_ fun w' hb=>FIN.out w' false (by rw[HV.out];simp[q3]) (HB3.out.trans (hb.mono HB3.out.size))
   clear FIN HV
   go_wp2_with fail
   refine Free.wp_region_free 35 [(21, .det (.bool TB)),(32, .det (.agg #[.int .i64 0, .int .i64 1]))] (fun w'=>Below w3.heap.size w3 w') (by kernel_rfl) (by kernel_rfl) (Free.mono_det (fun j mk r hf=>by simp only[Free.find]at hf;repeat' (first|cases hf|split at hf))) (Below.refl _ _).drew (fun _ _ h g=>h.trans (Below.mono g h.size)) ?_
   simp only[List.take_succ_cons,List.take_zero]
   iterate 35 (first|(apply Free.chain_skip (by first|exact unwanted2 rfl rfl rfl rfl|exact aJ rfl rfl rfl);simp only[Pt])|(apply Free.chain_still (by first|exact Free.wanted_of rfl rfl rfl|rfl) rfl;(intro w' hB hA;cases HQ.out w' hB;cases HK.out w' hB;clear hA;go_light;go_simp<;>rfl);(try simp only[Pt])))
   apply Free.chain_nil
   intro w6 hw6 _ _
   simp only[List.drop_succ_cons,List.drop_zero]
   have HF2:=h_ (HF.out w6 hw6)
   clear hw6 HF
   go_wp2_with fail
   exact HF2.out
  have q3:(a.give==0)=true:=by simpa using h3
  have q3n:(a.give !=0)=false:=by simpa using h3
  clear h3
  by_cases h4:a.dest= -1
  ·have q4:(a.dest== -1)=true:=by simpa using h4
   clear h4
   by_cases h5:a.unit= -1
   rotate_left
   ·have q5:(a.unit== -1)=false:=by simpa using h5
    have q5n:(a.unit != -1)=true:=by simpa using h5
    clear h5
    have HF:Hid (∀w',Below w3.heap.size w3 w'->R (.returned (.bool false)) w'):=h_ fun w' hb=>FIN.out w' false (by rw[HV.out];simp[q5]) (HB3.out.trans (hb.mono HB3.out.size))
    clear FIN HV
    go_wp2_with fail
    refine Free.wp_region_free 35 [(21, .det (.bool TB)),(32, .det (.agg #[.int .i64 0, .int .i64 1]))] (fun w'=>Below w3.heap.size w3 w') (by kernel_rfl) (by kernel_rfl) (Free.mono_det (fun j mk r hf=>by simp only[Free.find]at hf;repeat' (first|cases hf|split at hf))) (Below.refl _ _).drew (fun _ _ h g=>h.trans (Below.mono g h.size)) ?_
    simp only[List.take_succ_cons,List.take_zero]
    iterate 35 (first|(apply Free.chain_skip (by first|exact unwanted2 rfl rfl rfl rfl|exact aJ rfl rfl rfl);simp only[Pt])|(apply Free.chain_still (by first|exact Free.wanted_of rfl rfl rfl|rfl) rfl;(intro w' hB hA;cases HQ.out w' hB;cases HK.out w' hB;clear hA;go_light;go_simp<;>rfl);(try simp only[Pt])))
    apply Free.chain_nil
    intro w6 hw6 _ _
    simp only[List.drop_succ_cons,List.drop_zero]
    have HF2:=h_ (HF.out w6 hw6)
    clear hw6 HF
    go_wp2_with fail
    exact HF2.out
   have q5:(a.unit== -1)=true:=by simpa using h5
   have q5n:(a.unit != -1)=false:=by simpa using h5
   clear h5
   have HF:Hid (∀w',Below w3.heap.size w3 w'->R (.returned (.bool Z)) w'):=h_ fun w' hb=>FIN.out w' Z (by rw[HV.out];simp[q1,q2,q3,q4,q5]) (HB3.out.trans (hb.mono HB3.out.size))
   clear FIN HV
   go_wp2_with fail
   refine Free.wp_region_free 35 [(21, .det (.bool TB)),(32, .det (.agg #[.int .i64 0, .int .i64 1]))] (fun w'=>Below w3.heap.size w3 w') (by kernel_rfl) (by kernel_rfl) (Free.mono_det (fun j mk r hf=>by simp only[Free.find]at hf;repeat' (first|cases hf|split at hf))) (Below.refl _ _).drew (fun _ _ h g=>h.trans (Below.mono g h.size)) ?_
   simp only[List.take_succ_cons,List.take_zero]
   iterate 35 (first|(apply Free.chain_skip (by first|exact unwanted2 rfl rfl rfl rfl|exact aJ rfl rfl rfl);simp only[Pt])|(apply Free.chain_still (by first|exact Free.wanted_of rfl rfl rfl|rfl) rfl;(intro w' hB hA;exact Hk.exec_mid 43 (.tmp 40) rfl (W.heap.size+1) 5 rfl fs _ (HF5.out _ hB) Tryz.underlying43 rfl HIF.out);simp only[Pt])|(apply Free.chain_det (by first|exact Free.wanted_of rfl rfl rfl|rfl) rfl;(intro w' hB hA;refine Free.opRun_call (f:=125) (args:= #[]) (by clear hB hA;go_simp<;>rfl) ?_;refine(dl _).mono ?_;rintro e w3 ⟨rfl,hb3⟩;exact⟨_,rfl,hb3,rfl⟩);simp only[Pt])|(apply Free.chain_still (by first|exact Free.wanted_of rfl rfl rfl|rfl) rfl;(intro w' hB hA;exact cI rfl EFS.out rfl EZ.out);simp only[Pt])|(apply Free.chain_still (by first|exact Free.wanted_of rfl rfl rfl|rfl) rfl;(intro w' hB hA;cases HQ.out w' hB;cases HK.out w' hB;clear hA;go_light;go_simp<;>rfl);(try simp only[Pt])))
   apply Free.chain_nil
   intro w6 hw6 _ _
   simp only[List.drop_succ_cons,List.drop_zero]
   have HF2:=h_ (HF.out w6 hw6)
   clear hw6 HF
   go_wp2_with fail
   exact HF2.out
  ·have q4:(a.dest== -1)=false:=by simpa using h4
   clear h4
   cases TB with
   |false=>
    have HF:Hid (∀w',Below w3.heap.size w3 w'->R (.returned (.bool false)) w'):=h_ fun w' hb=>FIN.out w' false (by rw[HV.out];simp[q4]) (HB3.out.trans (hb.mono HB3.out.size))
    clear FIN HV
    go_wp2_with fail
    refine Free.wp_region_free 35 [(21, .det (.bool false)),(32, .det (.agg #[.int .i64 0, .int .i64 1]))] (fun w'=>Below w3.heap.size w3 w') (by kernel_rfl) (by kernel_rfl) (Free.mono_det (fun j mk r hf=>by simp only[Free.find]at hf;repeat' (first|cases hf|split at hf))) (Below.refl _ _).drew (fun _ _ h g=>h.trans (Below.mono g h.size)) ?_
    simp only[List.take_succ_cons,List.take_zero]
    iterate 35 (first|(apply Free.chain_skip (by first|exact unwanted2 rfl rfl rfl rfl|exact aJ rfl rfl rfl);simp only[Pt])|(apply Free.chain_still (by first|exact Free.wanted_of rfl rfl rfl|rfl) rfl;(intro w' hB hA;exact Hk.exec_mid 27 (.tmp 2) rfl W.heap.size 0 rfl cs _ (HM.out _ hB) Tryz.underlying27 rfl HI.out);simp only[Pt])|(apply Free.chain_det (by first|exact Free.wanted_of rfl rfl rfl|rfl) rfl;(intro w' hB hA;refine Free.opRun_call (f:=127) (args:= #[.agg cs.toArray, .int .i64 a.dest]) (by clear hB hA;go_simp<;>rfl) ?_;refine(CMT.out _).mono ?_;rintro e w3 ⟨rfl,hb3⟩;exact⟨_,rfl,hb3,rfl⟩);simp only[Pt])|(apply Free.chain_still (by first|exact Free.wanted_of rfl rfl rfl|rfl) rfl;(intro w' hB hA;cases HQ.out w' hB;cases HK.out w' hB;clear hA;go_light;go_simp<;>rfl);(try simp only[Pt])))
    apply Free.chain_nil
    intro w6 hw6 _ _
    simp only[List.drop_succ_cons,List.drop_zero]
    have HF2:=h_ (HF.out w6 hw6)
    clear hw6 HF
    go_wp2_with fail
    exact HF2.out
   |true=>
    by_cases h5:a.unit= -1
    rotate_left
    ·have q5:(a.unit== -1)=false:=by simpa using h5
     have q5n:(a.unit != -1)=true:=by simpa using h5
     clear h5
     have HF:Hid (∀w',Below w3.heap.size w3 w'->R (.returned (.bool false)) w'):=h_ fun w' hb=>FIN.out w' false (by rw[HV.out];simp[q5]) (HB3.out.trans (hb.mono HB3.out.size))
     clear FIN HV
     go_wp2_with fail
     refine Free.wp_region_free 35 [(21, .det (.bool true)),(32, .det (.agg #[.int .i64 0, .int .i64 1]))] (fun w'=>Below w3.heap.size w3 w') (by kernel_rfl) (by kernel_rfl) (Free.mono_det (fun j mk r hf=>by simp only[Free.find]at hf;repeat' (first|cases hf|split at hf))) (Below.refl _ _).drew (fun _ _ h g=>h.trans (Below.mono g h.size)) ?_
     simp only[List.take_succ_cons,List.take_zero]
     iterate 35 (first|(apply Free.chain_skip (by first|exact unwanted2 rfl rfl rfl rfl|exact aJ rfl rfl rfl);simp only[Pt])|(apply Free.chain_still (by first|exact Free.wanted_of rfl rfl rfl|rfl) rfl;(intro w' hB hA;exact Hk.exec_mid 27 (.tmp 2) rfl W.heap.size 0 rfl cs _ (HM.out _ hB) Tryz.underlying27 rfl HI.out);simp only[Pt])|(apply Free.chain_det (by first|exact Free.wanted_of rfl rfl rfl|rfl) rfl;(intro w' hB hA;refine Free.opRun_call (f:=127) (args:= #[.agg cs.toArray, .int .i64 a.dest]) (by clear hB hA;go_simp<;>rfl) ?_;refine(CMT.out _).mono ?_;rintro e w3 ⟨rfl,hb3⟩;exact⟨_,rfl,hb3,rfl⟩);simp only[Pt])|(apply Free.chain_still (by first|exact Free.wanted_of rfl rfl rfl|rfl) rfl;(intro w' hB hA;cases HQ.out w' hB;cases HK.out w' hB;clear hA;go_light;go_simp<;>rfl);(try simp only[Pt])))
     apply Free.chain_nil
     intro w6 hw6 _ _
     simp only[List.drop_succ_cons,List.drop_zero]
     have HF2:=h_ (HF.out w6 hw6)
     clear hw6 HF
     go_wp2_with fail
     exact HF2.out
    have q5:(a.unit== -1)=true:=by simpa using h5
    have q5n:(a.unit != -1)=false:=by simpa using h5
    clear h5
    have HF:Hid (∀w',Below w3.heap.size w3 w'->R (.returned (.bool Z)) w'):=h_ fun w' hb=>FIN.out w' Z (by rw[HV.out];simp[q1,q2,q3,q4,q5]) (HB3.out.trans (hb.mono HB3.out.size))
    clear FIN HV
    go_wp2_with fail
    refine Free.wp_region_free 35 [(21, .det (.bool true)),(32, .det (.agg #[.int .i64 0, .int .i64 1]))] (fun w'=>Below w3.heap.size w3 w') (by kernel_rfl) (by kernel_rfl) (Free.mono_det (fun j mk r hf=>by simp only[Free.find]at hf;repeat' (first|cases hf|split at hf))) (Below.refl _ _).drew (fun _ _ h g=>h.trans (Below.mono g h.size)) ?_
    simp only[List.take_succ_cons,List.take_zero]
    iterate 35 (first|(apply Free.chain_still (by first|exact Free.wanted_of rfl rfl rfl|rfl) rfl;(intro w' hB hA;exact Hk.exec_mid 27 (.tmp 2) rfl W.heap.size 0 rfl cs _ (HM.out _ hB) Tryz.underlying27 rfl HI.out);simp only[Pt])|(apply Free.chain_det (by first|exact Free.wanted_of rfl rfl rfl|rfl) rfl;(intro w' hB hA;refine Free.opRun_call (f:=127) (args:= #[.agg cs.toArray, .int .i64 a.dest]) (by clear hB hA;go_simp<;>rfl) ?_;refine(CMT.out _).mono ?_;rintro e w3 ⟨rfl,hb3⟩;exact⟨_,rfl,hb3,rfl⟩);simp only[Pt])|(apply Free.chain_still (by first|exact Free.wanted_of rfl rfl rfl|rfl) rfl;(intro w' hB hA;exact Hk.exec_mid 43 (.tmp 40) rfl (W.heap.size+1) 5 rfl fs _ (HF5.out _ hB) Tryz.underlying43 rfl HIF.out);simp only[Pt])|(apply Free.chain_det (by first|exact Free.wanted_of rfl rfl rfl|rfl) rfl;(intro w' hB hA;refine Free.opRun_call (f:=125) (args:= #[]) (by clear hB hA;go_simp<;>rfl) ?_;refine(dl _).mono ?_;rintro e w3 ⟨rfl,hb3⟩;exact⟨_,rfl,hb3,rfl⟩);simp only[Pt])|(apply Free.chain_still (by first|exact Free.wanted_of rfl rfl rfl|rfl) rfl;(intro w' hB hA;exact cI rfl EFS.out rfl EZ.out);simp only[Pt])|(apply Free.chain_still (by first|exact Free.wanted_of rfl rfl rfl|rfl) rfl;(intro w' hB hA;cases HQ.out w' hB;cases HK.out w' hB;clear hA;go_light;go_simp<;>rfl);(try simp only[Pt])))
    apply Free.chain_nil
    intro w6 hw6 _ _
    simp only[List.drop_succ_cons,List.drop_zero]
    have HF2:=h_ (HF.out w6 hw6)
    clear hw6 HF
    go_wp2_with fail
    exact HF2.out
 |true=>
  by_cases h1:a.kind=1
  ·have q1:(a.kind==1)=true:=by simpa using h1
   have q1n:(a.kind !=1)=false:=by simpa using h1
   clear h1
   by_cases h2:a.give=0
   rotate_left
   ·have q2:(a.give==0)=false:=by simpa using h2
    have q2n:(a.give !=0)=true:=by simpa using h2
    clear h2
    have HF:Hid (∀w',Below w3.heap.size w3 w'->R (.returned (.bool false)) w'):=h_ fun w' hb=>FIN.out w' false (by rw[HV.out];simp[q1,q2n]) (HB3.out.trans (hb.mono HB3.out.size))
    clear FIN HV
    have HF2:=h_ (HF.out w3 (Below.refl _ _))
    clear HF
    obtain⟨a0,a1,a2,a3,a4,a5,a6⟩:=HQ.out w3 (Below.refl _ _)
    obtain⟨k0,k1,k2,k3,k4,k5,k6⟩:=HK.out w3 (Below.refl _ _)
    have HMl:=h_ (HM.out w3 (Below.refl _ _))
    have HFl:=h_ (HF5.out w3 (Below.refl _ _))
    go_wp2_with fail
    exact HF2.out
   have q2:(a.give==0)=true:=by simpa using h2
   have q2n:(a.give !=0)=false:=by simpa using h2
   clear h2
   by_cases h4:a.dest= -1
   ·have q4:(a.dest== -1)=true:=by simpa using h4
    have q4n:(a.dest != -1)=false:=by simpa using h4
    clear h4
    by_cases h5:a.unit= -1
    ·have q5:(a.unit== -1)=true:=by simpa using h5
     have q5n:(a.unit != -1)=false:=by simpa using h5
     clear h5
     have HF:Hid (∀w',Below w3.heap.size w3 w'->R (.returned (.bool Z)) w'):=h_ fun w' hb=>FIN.out w' Z (by rw[HV.out];simp[q1,q2n,q4n,q5]) (HB3.out.trans (hb.mono HB3.out.size))
     clear FIN HV
     obtain⟨a0,a1,a2,a3,a4,a5,a6⟩:=HQ.out w3 (Below.refl _ _)
     obtain⟨k0,k1,k2,k3,k4,k5,k6⟩:=HK.out w3 (Below.refl _ _)
     go_wp2_with fail
     refine Free.wp_region_free 4 [(2, .det (.agg #[.int .i64 0, .int .i64 1]))] (fun w'=>Below w3.heap.size w3 w') (by kernel_rfl) (by kernel_rfl) (Free.mono_det (fun j mk r hf=>by simp only[Free.find]at hf;repeat' (first|cases hf|split at hf))) (Below.refl _ _).drew (fun _ _ h g=>h.trans (Below.mono g h.size)) ?_
     simp only[List.take_succ_cons,List.take_zero]
     iterate 4 (first|(apply Free.chain_still (by first|exact Free.wanted_of rfl rfl rfl|rfl) rfl;(intro w' hB hA;exact Hk.exec_mid 43 (.tmp 67) rfl (W.heap.size+1) 5 rfl fs _ (HF5.out _ hB) Tryz.underlying43 rfl HIF.out);simp only[Pt])|(apply Free.chain_det (by first|exact Free.wanted_of rfl rfl rfl|rfl) rfl;(intro w' hB hA;refine Free.opRun_call (f:=125) (args:= #[]) (by clear hB hA;go_simp<;>rfl) ?_;refine(dl _).mono ?_;rintro e w3 ⟨rfl,hb3⟩;exact⟨_,rfl,hb3,rfl⟩);simp only[Pt])|(apply Free.chain_still (by first|exact Free.wanted_of rfl rfl rfl|rfl) rfl;(intro w' hB hA;exact cI rfl EFS.out rfl EZ.out);simp only[Pt])|(apply Free.chain_still (by first|exact Free.wanted_of rfl rfl rfl|rfl) rfl;(intro w' hB hA;cases HQ.out w' hB;cases HK.out w' hB;clear hA;go_light;go_simp<;>rfl);(try simp only[Pt])))
     apply Free.chain_nil
     intro w6 hw6 _ _
     simp only[List.drop_succ_cons,List.drop_zero]
     have HF2:=h_ (HF.out w6 hw6)
     clear hw6 HF
     go_wp2_with fail
     exact HF2.out
    ·have q5:(a.unit== -1)=false:=by simpa using h5
     have q5n:(a.unit != -1)=true:=by simpa using h5
     clear h5
     by_cases h6:0<=a.unit
     rotate_left
     ·have q6:decide (0<=a.unit)=false:=decide_eq_false h6
      have HF:Hid (∀w',Below w3.heap.size w3 w'->R (.returned (.bool false)) w'):=h_ fun w' hb=>FIN.out w' false (by rw[HV.out];simp[q1,q2n,q4n,q5,q6]) (HB3.out.trans (hb.mono HB3.out.size))
      clear FIN HV
      have HF2:=h_ (HF.out w3 (Below.refl _ _))
      clear HF
      obtain⟨a0,a1,a2,a3,a4,a5,a6⟩:=HQ.out w3 (Below.refl _ _)
      obtain⟨k0,k1,k2,k3,k4,k5,k6⟩:=HK.out w3 (Below.refl _ _)
      have HMl:=h_ (HM.out w3 (Below.refl _ _))
      have HFl:=h_ (HF5.out w3 (Below.refl _ _))
      go_wp2_with fail
      exact HF2.out
     have q6:decide (0<=a.unit)=true:=decide_eq_true h6
     by_cases h7:a.unit<(c.units.length:Int)
     rotate_left
     ·have q7:decide (a.unit<(c.units.length:Int))=false:=decide_eq_false h7
      have HF:Hid (∀w',Below w3.heap.size w3 w'->R (.returned (.bool false)) w'):=h_ fun w' hb=>FIN.out w' false (by rw[HV.out];simp[q1,q2n,q4n,q5,q7]) (HB3.out.trans (hb.mono HB3.out.size))
      clear FIN HV
      have HF2:=h_ (HF.out w3 (Below.refl _ _))
      clear HF
      obtain⟨a0,a1,a2,a3,a4,a5,a6⟩:=HQ.out w3 (Below.refl _ _)
      obtain⟨k0,k1,k2,k3,k4,k5,k6⟩:=HK.out w3 (Below.refl _ _)
      have HMl:=h_ (HM.out w3 (Below.refl _ _))
      have HFl:=h_ (HF5.out w3 (Below.refl _ _))
      go_wp2_with fail
      exact HF2.out
     have q7:decide (a.unit<(c.units.length:Int))=true:=decide_eq_true h7
     have HF:Hid (∀w',Below w3.heap.size w3 w'->R (.returned (.bool PB)) w'):=h_ fun w' hb=>FIN.out w' PB (by rw[HV.out];simp[q1,q2n,q4n,q5,q6,q7]) (HB3.out.trans (hb.mono HB3.out.size))
     clear FIN HV
     obtain⟨a0,a1,a2,a3,a4,a5,a6⟩:=HQ.out w3 (Below.refl _ _)
     obtain⟨k0,k1,k2,k3,k4,k5,k6⟩:=HK.out w3 (Below.refl _ _)
     have HMl:=h_ (HM.out w3 (Below.refl _ _))
     have HFl:=h_ (HF5.out w3 (Below.refl _ _))
     have CP3:=h_ (CPO.out w3)
     go_wp2_with (refine ae (.tmp 83) ?_;refine Row.still (by first|exact Free.wanted_of rfl rfl rfl|rfl) (Hk.exec_mid 43 (.tmp 83) rfl (W.heap.size+1) 5 rfl fs _ HFl.out Tryz.underlying43 rfl HIF.out) ?_;simp only[Pt])
     refine CP3.out.mono ?_
     rintro e w5 ⟨rfl,hb5⟩
     have HF2:=h_ (HF.out w5 hb5)
     clear hb5 HF CP3
     go_wp2_with fail
     exact HF2.out
   have q4:(a.dest== -1)=false:=by simpa using h4
   have q4n:(a.dest != -1)=true:=by simpa using h4
   clear h4
   obtain⟨a0,a1,a2,a3,a4,a5,a6⟩:=HQ.out w3 (Below.refl _ _)
   obtain⟨k0,k1,k2,k3,k4,k5,k6⟩:=HK.out w3 (Below.refl _ _)
   have HMl:=h_ (HM.out w3 (Below.refl _ _))
   have HFl:=h_ (HF5.out w3 (Below.refl _ _))
   go_wp2_with (first
    |(refine ae (.tmp 2) ?_;refine Row.still (by first|exact Free.wanted_of rfl rfl rfl|rfl) (Hk.exec_mid 27 (.tmp 2) rfl W.heap.size 0 rfl cs _ HMl.out Tryz.underlying27 rfl HI.out) ?_;simp only[Pt]))
   refine(CMT.out _).mono ?_
   rintro e w4 ⟨rfl,hb4⟩
   have HQn:Hid (∀w',Below w4.heap.size w4 w'->AcC w' (W.heap.size+1) a):=h_ fun w' hb=>HQ.out w' (hb4.trans (hb.mono hb4.size))
   have HKn:Hid (∀w',Below w4.heap.size w4 w'->ConC w' W.heap.size c):=h_ fun w' hb=>HK.out w' (hb4.trans (hb.mono hb4.size))
   have HMn:Hid (∀w',Below w4.heap.size w4 w'->w'.rangeAt W.heap.size 0 cs):=h_ fun w' hb=>HM.out w' (hb4.trans (hb.mono hb4.size))
   have HFn:Hid (∀w',Below w4.heap.size w4 w'->w'.rangeAt (W.heap.size+1) 5 fs):=h_ fun w' hb=>HF5.out w' (hb4.trans (hb.mono hb4.size))
   have HBn:=h_ (HB3.out.trans (hb4.mono HB3.out.size))
   clear hb4 HQ HK HM HF5 HB3 a0 a1 a2 a3 a4 a5 a6 k0 k1 k2 k3 k4 k5 k6 HMl HFl
   have HQ:=HQn
   have HK:=HKn
   have HM:=HMn
   have HF5:=HFn
   have HB3:=HBn
   clear HQn HKn HMn HFn HBn
   generalize w4=w3 at*
   cases TB with
   |false=>
    have HF:Hid (∀w',Below w3.heap.size w3 w'->R (.returned (.bool false)) w'):=h_ fun w' hb=>FIN.out w' false (by rw[HV.out];simp[q1,q4n]) (HB3.out.trans (hb.mono HB3.out.size))
    clear FIN HV
    have HF2:=h_ (HF.out w3 (Below.refl _ _))
    clear HF
    obtain⟨a0,a1,a2,a3,a4,a5,a6⟩:=HQ.out w3 (Below.refl _ _)
    obtain⟨k0,k1,k2,k3,k4,k5,k6⟩:=HK.out w3 (Below.refl _ _)
    have HMl:=h_ (HM.out w3 (Below.refl _ _))
    have HFl:=h_ (HF5.out w3 (Below.refl _ _))
    go_wp2_with fail
    exact HF2.out
   |true=>
    by_cases h5:a.unit= -1
    ·have q5:(a.unit== -1)=true:=by simpa using h5
     have q5n:(a.unit != -1)=false:=by simpa using h5
     clear h5
     have HF:Hid (∀w',Below w3.heap.size w3 w'->R (.returned (.bool Z)) w'):=h_ fun w' hb=>FIN.out w' Z (by rw[HV.out];simp[q1,q2n,q5]) (HB3.out.trans (hb.mono HB3.out.size))
     clear FIN HV
     obtain⟨a0,a1,a2,a3,a4,a5,a6⟩:=HQ.out w3 (Below.refl _ _)
     obtain⟨k0,k1,k2,k3,k4,k5,k6⟩:=HK.out w3 (Below.refl _ _)
     go_wp2_with fail
     refine Free.wp_region_free 4 [(2, .det (.agg #[.int .i64 0, .int .i64 1]))] (fun w'=>Below w3.heap.size w3 w') (by kernel_rfl) (by kernel_rfl) (Free.mono_det (fun j mk r hf=>by simp only[Free.find]at hf;repeat' (first|cases hf|split at hf))) (Below.refl _ _).drew (fun _ _ h g=>h.trans (Below.mono g h.size)) ?_
     simp only[List.take_succ_cons,List.take_zero]
     iterate 4 (first|(apply Free.chain_still (by first|exact Free.wanted_of rfl rfl rfl|rfl) rfl;(intro w' hB hA;exact Hk.exec_mid 43 (.tmp 67) rfl (W.heap.size+1) 5 rfl fs _ (HF5.out _ hB) Tryz.underlying43 rfl HIF.out);simp only[Pt])|(apply Free.chain_det (by first|exact Free.wanted_of rfl rfl rfl|rfl) rfl;(intro w' hB hA;refine Free.opRun_call (f:=125) (args:= #[]) (by clear hB hA;go_simp<;>rfl) ?_;refine(dl _).mono ?_;rintro e w3 ⟨rfl,hb3⟩;exact⟨_,rfl,hb3,rfl⟩);simp only[Pt])|(apply Free.chain_still (by first|exact Free.wanted_of rfl rfl rfl|rfl) rfl;(intro w' hB hA;exact cI rfl EFS.out rfl EZ.out);simp only[Pt])|(apply Free.chain_still (by first|exact Free.wanted_of rfl rfl rfl|rfl) rfl;(intro w' hB hA;cases HQ.out w' hB;cases HK.out w' hB;clear hA;go_light;go_simp<;>rfl);(try simp only[Pt])))
     apply Free.chain_nil
     intro w6 hw6 _ _
     simp only[List.drop_succ_cons,List.drop_zero]
     have HF2:=h_ (HF.out w6 hw6)
     clear hw6 HF
     go_wp2_with fail
     exact HF2.out
    ·have q5:(a.unit== -1)=false:=by simpa using h5
     have q5n:(a.unit != -1)=true:=by simpa using h5
     clear h5
     by_cases h6:0<=a.unit
     rotate_left
     ·have q6:decide (0<=a.unit)=false:=decide_eq_false h6
      have HF:Hid (∀w',Below w3.heap.size w3 w'->R (.returned (.bool false)) w'):=h_ fun w' hb=>FIN.out w' false (by rw[HV.out];simp[q1,q2n,q5,q6]) (HB3.out.trans (hb.mono HB3.out.size))
      clear FIN HV
      have HF2:=h_ (HF.out w3 (Below.refl _ _))
      clear HF
      obtain⟨a0,a1,a2,a3,a4,a5,a6⟩:=HQ.out w3 (Below.refl _ _)
      obtain⟨k0,k1,k2,k3,k4,k5,k6⟩:=HK.out w3 (Below.refl _ _)
      have HMl:=h_ (HM.out w3 (Below.refl _ _))
      have HFl:=h_ (HF5.out w3 (Below.refl _ _))
      go_wp2_with fail
      exact HF2.out
     have q6:decide (0<=a.unit)=true:=decide_eq_true h6
     by_cases h7:a.unit<(c.units.length:Int)
     rotate_left
     ·have q7:decide (a.unit<(c.units.length:Int))=false:=decide_eq_false h7
      have HF:Hid (∀w',Below w3.heap.size w3 w'->R (.returned (.bool false)) w'):=h_ fun w' hb=>FIN.out w' false (by rw[HV.out];simp[q1,q2n,q5,q7]) (HB3.out.trans (hb.mono HB3.out.size))
      clear FIN HV
      have HF2:=h_ (HF.out w3 (Below.refl _ _))
      clear HF
      obtain⟨a0,a1,a2,a3,a4,a5,a6⟩:=HQ.out w3 (Below.refl _ _)
      obtain⟨k0,k1,k2,k3,k4,k5,k6⟩:=HK.out w3 (Below.refl _ _)
      have HMl:=h_ (HM.out w3 (Below.refl _ _))
      have HFl:=h_ (HF5.out w3 (Below.refl _ _))
      go_wp2_with fail
      exact HF2.out
     have q7:decide (a.unit<(c.units.length:Int))=true:=decide_eq_true h7
     have HF:Hid (∀w',Below w3.heap.size w3 w'->R (.returned (.bool PB)) w'):=h_ fun w' hb=>FIN.out w' PB (by rw[HV.out];simp[q1,q2n,q5,q6,q7]) (HB3.out.trans (hb.mono HB3.out.size))
     clear FIN HV
     obtain⟨a0,a1,a2,a3,a4,a5,a6⟩:=HQ.out w3 (Below.refl _ _)
     obtain⟨k0,k1,k2,k3,k4,k5,k6⟩:=HK.out w3 (Below.refl _ _)
     have HMl:=h_ (HM.out w3 (Below.refl _ _))
     have HFl:=h_ (HF5.out w3 (Below.refl _ _))
     have CP3:=h_ (CPO.out w3)
     go_wp2_with (refine ae (.tmp 83) ?_;refine Row.still (by first|exact Free.wanted_of rfl rfl rfl|rfl) (Hk.exec_mid 43 (.tmp 83) rfl (W.heap.size+1) 5 rfl fs _ HFl.out Tryz.underlying43 rfl HIF.out) ?_;simp only[Pt])
     refine CP3.out.mono ?_
     rintro e w5 ⟨rfl,hb5⟩
     have HF2:=h_ (HF.out w5 hb5)
     clear hb5 HF CP3
     go_wp2_with fail
     exact HF2.out
  have q1:(a.kind==1)=false:=by simpa using h1
  have q1n:(a.kind !=1)=true:=by simpa using h1
  clear h1
  have q23:((a.kind==2)||(a.kind==3))=true\/((a.kind==2)=false/\(a.kind==3)=false):=by cases (a.kind==2)<;>cases (a.kind==3)<;>simp
  by_cases h2:a.kind=2
  ·have q2:(a.kind==2)=true:=by simpa using h2
   clear h2 q23
   cases GB with
   |false=>
    have HF:Hid (∀w',Below w3.heap.size w3 w'->R (.returned (.bool false)) w'):=h_ fun w' hb=>FIN.out w' false (by rw[HV.out];simp[q1,q2]) (HB3.out.trans (hb.mono HB3.out.size))
    clear FIN HV
    obtain⟨a0,a1,a2,a3,a4,a5,a6⟩:=HQ.out w3 (Below.refl _ _)
    obtain⟨k0,k1,k2,k3,k4,k5,k6⟩:=HK.out w3 (Below.refl _ _)
    go_wp2_with fail
    refine Free.wp_region_free 27 [(3, .det (.bool false)),(24, .det (.agg #[.int .i64 0, .int .i64 1]))] (fun w'=>Below w3.heap.size w3 w') (by kernel_rfl) (by kernel_rfl) (Free.mono_det (fun j mk r hf=>by simp only[Free.find]at hf;repeat' (first|cases hf|split at hf))) (Below.refl _ _).drew (fun _ _ h g=>h.trans (Below.mono g h.size)) ?_
    simp only[List.take_succ_cons,List.take_zero]
    iterate 27 (first|(apply Free.chain_skip (by first|exact unwanted2 rfl rfl rfl rfl|exact aJ rfl rfl rfl);simp only[Pt])|(apply Free.chain_still (by first|exact Free.wanted_of rfl rfl rfl|rfl) rfl;(intro w' hB hA;exact Hk.exec_mid 27 (.tmp 2) rfl W.heap.size 0 rfl cs _ (HM.out _ hB) Tryz.underlying27 rfl HI.out);simp only[Pt])|(apply Free.chain_det (by first|exact Free.wanted_of rfl rfl rfl|rfl) rfl;(intro w' hB hA;refine Free.opRun_call (f:=127) (args:= #[.agg cs.toArray, .int .i64 a.give]) (by clear hB hA;go_simp<;>rfl) ?_;refine(CMG.out _).mono ?_;rintro e w3 ⟨rfl,hb3⟩;exact⟨_,rfl,hb3,rfl⟩);simp only[Pt])|(apply Free.chain_still (by first|exact Free.wanted_of rfl rfl rfl|rfl) rfl;(intro w' hB hA;cases HQ.out w' hB;cases HK.out w' hB;clear hA;go_light;go_simp<;>rfl);(try simp only[Pt])))
    apply Free.chain_nil
    intro w6 hw6 _ _
    simp only[List.drop_succ_cons,List.drop_zero]
    have HF2:=h_ (HF.out w6 hw6)
    clear hw6 HF
    go_wp2_with fail
    exact HF2.out
   |true=>
    by_cases h3:0<=a.dest
    rotate_left
    ·have q3:decide (0<=a.dest)=false:=decide_eq_false h3
     have HF:Hid (∀w',Below w3.heap.size w3 w'->R (.returned (.bool false)) w'):=h_ fun w' hb=>FIN.out w' false (by rw[HV.out];simp[q1,q2,q3]) (HB3.out.trans (hb.mono HB3.out.size))
     clear FIN HV
     obtain⟨a0,a1,a2,a3,a4,a5,a6⟩:=HQ.out w3 (Below.refl _ _)
     obtain⟨k0,k1,k2,k3,k4,k5,k6⟩:=HK.out w3 (Below.refl _ _)
     go_wp2_with fail
     refine Free.wp_region_free 27 [(3, .det (.bool true)),(24, .det (.agg #[.int .i64 0, .int .i64 1]))] (fun w'=>Below w3.heap.size w3 w') (by kernel_rfl) (by kernel_rfl) (Free.mono_det (fun j mk r hf=>by simp only[Free.find]at hf;repeat' (first|cases hf|split at hf))) (Below.refl _ _).drew (fun _ _ h g=>h.trans (Below.mono g h.size)) ?_
     simp only[List.take_succ_cons,List.take_zero]
     iterate 27 (first|(apply Free.chain_skip (by first|exact unwanted2 rfl rfl rfl rfl|exact aJ rfl rfl rfl);simp only[Pt])|(apply Free.chain_still (by first|exact Free.wanted_of rfl rfl rfl|rfl) rfl;(intro w' hB hA;exact Hk.exec_mid 27 (.tmp 2) rfl W.heap.size 0 rfl cs _ (HM.out _ hB) Tryz.underlying27 rfl HI.out);simp only[Pt])|(apply Free.chain_det (by first|exact Free.wanted_of rfl rfl rfl|rfl) rfl;(intro w' hB hA;refine Free.opRun_call (f:=127) (args:= #[.agg cs.toArray, .int .i64 a.give]) (by clear hB hA;go_simp<;>rfl) ?_;refine(CMG.out _).mono ?_;rintro e w3 ⟨rfl,hb3⟩;exact⟨_,rfl,hb3,rfl⟩);simp only[Pt])|(apply Free.chain_still (by first|exact Free.wanted_of rfl rfl rfl|rfl) rfl;(intro w' hB hA;cases HQ.out w' hB;cases HK.out w' hB;clear hA;go_light;go_simp<;>rfl);(try simp only[Pt])))
     apply Free.chain_nil
     intro w6 hw6 _ _
     simp only[List.drop_succ_cons,List.drop_zero]
     have HF2:=h_ (HF.out w6 hw6)
     clear hw6 HF
     go_wp2_with fail
     exact HF2.out
    have q3:decide (0<=a.dest)=true:=decide_eq_true h3
    by_cases h4:a.dest<c.parties
    rotate_left
    ·have q4:decide (a.dest<c.parties)=false:=decide_eq_false h4
     have HF:Hid (∀w',Below w3.heap.size w3 w'->R (.returned (.bool false)) w'):=h_ fun w' hb=>FIN.out w' false (by rw[HV.out];simp[q1,q2,q4]) (HB3.out.trans (hb.mono HB3.out.size))
     clear FIN HV
     obtain⟨a0,a1,a2,a3,a4,a5,a6⟩:=HQ.out w3 (Below.refl _ _)
     obtain⟨k0,k1,k2,k3,k4,k5,k6⟩:=HK.out w3 (Below.refl _ _)
     go_wp2_with fail
     refine Free.wp_region_free 27 [(3, .det (.bool true)),(24, .det (.agg #[.int .i64 0, .int .i64 1]))] (fun w'=>Below w3.heap.size w3 w') (by kernel_rfl) (by kernel_rfl) (Free.mono_det (fun j mk r hf=>by simp only[Free.find]at hf;repeat' (first|cases hf|split at hf))) (Below.refl _ _).drew (fun _ _ h g=>h.trans (Below.mono g h.size)) ?_
     simp only[List.take_succ_cons,List.take_zero]
     iterate 27 (first|(apply Free.chain_skip (by first|exact unwanted2 rfl rfl rfl rfl|exact aJ rfl rfl rfl);simp only[Pt])|(apply Free.chain_still (by first|exact Free.wanted_of rfl rfl rfl|rfl) rfl;(intro w' hB hA;exact Hk.exec_mid 27 (.tmp 2) rfl W.heap.size 0 rfl cs _ (HM.out _ hB) Tryz.underlying27 rfl HI.out);simp only[Pt])|(apply Free.chain_det (by first|exact Free.wanted_of rfl rfl rfl|rfl) rfl;(intro w' hB hA;refine Free.opRun_call (f:=127) (args:= #[.agg cs.toArray, .int .i64 a.give]) (by clear hB hA;go_simp<;>rfl) ?_;refine(CMG.out _).mono ?_;rintro e w3 ⟨rfl,hb3⟩;exact⟨_,rfl,hb3,rfl⟩);simp only[Pt])|(apply Free.chain_still (by first|exact Free.wanted_of rfl rfl rfl|rfl) rfl;(intro w' hB hA;cases HQ.out w' hB;cases HK.out w' hB;clear hA;go_light;go_simp<;>rfl);(try simp only[Pt])))
     apply Free.chain_nil
     intro w6 hw6 _ _
     simp only[List.drop_succ_cons,List.drop_zero]
     have HF2:=h_ (HF.out w6 hw6)
     clear hw6 HF
     go_wp2_with fail
     exact HF2.out
    have q4:decide (a.dest<c.parties)=true:=decide_eq_true h4
    by_cases h5:a.unit= -1
    rotate_left
    ·have q5:(a.unit== -1)=false:=by simpa using h5
     have q5n:(a.unit != -1)=true:=by simpa using h5
     clear h5
     have HF:Hid (∀w',Below w3.heap.size w3 w'->R (.returned (.bool false)) w'):=h_ fun w' hb=>FIN.out w' false (by rw[HV.out];simp[q1,q2,q5]) (HB3.out.trans (hb.mono HB3.out.size))
     clear FIN HV
     obtain⟨a0,a1,a2,a3,a4,a5,a6⟩:=HQ.out w3 (Below.refl _ _)
     obtain⟨k0,k1,k2,k3,k4,k5,k6⟩:=HK.out w3 (Below.refl _ _)
     go_wp2_with fail
     refine Free.wp_region_free 27 [(3, .det (.bool true)),(24, .det (.agg #[.int .i64 0, .int .i64 1]))] (fun w'=>Below w3.heap.size w3 w') (by kernel_rfl) (by kernel_rfl) (Free.mono_det (fun j mk r hf=>by simp only[Free.find]at hf;repeat' (first|cases hf|split at hf))) (Below.refl _ _).drew (fun _ _ h g=>h.trans (Below.mono g h.size)) ?_
     simp only[List.take_succ_cons,List.take_zero]
     iterate 27 (first|(apply Free.chain_skip (by first|exact unwanted2 rfl rfl rfl rfl|exact aJ rfl rfl rfl);simp only[Pt])|(apply Free.chain_still (by first|exact Free.wanted_of rfl rfl rfl|rfl) rfl;(intro w' hB hA;exact Hk.exec_mid 27 (.tmp 2) rfl W.heap.size 0 rfl cs _ (HM.out _ hB) Tryz.underlying27 rfl HI.out);simp only[Pt])|(apply Free.chain_det (by first|exact Free.wanted_of rfl rfl rfl|rfl) rfl;(intro w' hB hA;refine Free.opRun_call (f:=127) (args:= #[.agg cs.toArray, .int .i64 a.give]) (by clear hB hA;go_simp<;>rfl) ?_;refine(CMG.out _).mono ?_;rintro e w3 ⟨rfl,hb3⟩;exact⟨_,rfl,hb3,rfl⟩);simp only[Pt])|(apply Free.chain_still (by first|exact Free.wanted_of rfl rfl rfl|rfl) rfl;(intro w' hB hA;cases HQ.out w' hB;cases HK.out w' hB;clear hA;go_light;go_simp<;>rfl);(try simp only[Pt])))
     apply Free.chain_nil
     intro w6 hw6 _ _
     simp only[List.drop_succ_cons,List.drop_zero]
     have HF2:=h_ (HF.out w6 hw6)
     clear hw6 HF
     go_wp2_with fail
     exact HF2.out
    have q5:(a.unit== -1)=true:=by simpa using h5
    have q5n:(a.unit != -1)=false:=by simpa using h5
    clear h5
    have HF:Hid (∀w',Below w3.heap.size w3 w'->R (.returned (.bool Z)) w'):=h_ fun w' hb=>FIN.out w' Z (by rw[HV.out];simp[q1,q2,q3,q4,q5]) (HB3.out.trans (hb.mono HB3.out.size))
    clear FIN HV
    obtain⟨a0,a1,a2,a3,a4,a5,a6⟩:=HQ.out w3 (Below.refl _ _)
    obtain⟨k0,k1,k2,k3,k4,k5,k6⟩:=HK.out w3 (Below.refl _ _)
    go_wp2_with fail
    refine Free.wp_region_free 27 [(3, .det (.bool true)),(24, .det (.agg #[.int .i64 0, .int .i64 1]))] (fun w'=>Below w3.heap.size w3 w') (by kernel_rfl) (by kernel_rfl) (Free.mono_det (fun j mk r hf=>by simp only[Free.find]at hf;repeat' (first|cases hf|split at hf))) (Below.refl _ _).drew (fun _ _ h g=>h.trans (Below.mono g h.size)) ?_
    simp only[List.take_succ_cons,List.take_zero]
    iterate 27 (first|(apply Free.chain_still (by first|exact Free.wanted_of rfl rfl rfl|rfl) rfl;(intro w' hB hA;exact Hk.exec_mid 27 (.tmp 2) rfl W.heap.size 0 rfl cs _ (HM.out _ hB) Tryz.underlying27 rfl HI.out);simp only[Pt])|(apply Free.chain_det (by first|exact Free.wanted_of rfl rfl rfl|rfl) rfl;(intro w' hB hA;refine Free.opRun_call (f:=127) (args:= #[.agg cs.toArray, .int .i64 a.give]) (by clear hB hA;go_simp<;>rfl) ?_;refine(CMG.out _).mono ?_;rintro e w3 ⟨rfl,hb3⟩;exact⟨_,rfl,hb3,rfl⟩);simp only[Pt])|(apply Free.chain_still (by first|exact Free.wanted_of rfl rfl rfl|rfl) rfl;(intro w' hB hA;exact Hk.exec_mid 43 (.tmp 112) rfl (W.heap.size+1) 5 rfl fs _ (HF5.out _ hB) Tryz.underlying43 rfl HIF.out);simp only[Pt])|(apply Free.chain_det (by first|exact Free.wanted_of rfl rfl rfl|rfl) rfl;(intro w' hB hA;refine Free.opRun_call (f:=125) (args:= #[]) (by clear hB hA;go_simp<;>rfl) ?_;refine(dl _).mono ?_;rintro e w3 ⟨rfl,hb3⟩;exact⟨_,rfl,hb3,rfl⟩);simp only[Pt])|(apply Free.chain_still (by first|exact Free.wanted_of rfl rfl rfl|rfl) rfl;(intro w' hB hA;exact cI rfl EFS.out rfl EZ.out);simp only[Pt])|(apply Free.chain_still (by first|exact Free.wanted_of rfl rfl rfl|rfl) rfl;(intro w' hB hA;cases HQ.out w' hB;cases HK.out w' hB;clear hA;go_light;go_simp<;>rfl);(try simp only[Pt])))
    apply Free.chain_nil
    intro w6 hw6 _ _
    simp only[List.drop_succ_cons,List.drop_zero]
    have HF2:=h_ (HF.out w6 hw6)
    clear hw6 HF
    go_wp2_with fail
    exact HF2.out
  have q2:(a.kind==2)=false:=by simpa using h2
  clear h2 q23
  by_cases h3':a.kind=3
  ·have q2':(a.kind==3)=true:=by simpa using h3'
   clear h3'
   cases GB with
   |false=>
    have HF:Hid (∀w',Below w3.heap.size w3 w'->R (.returned (.bool false)) w'):=h_ fun w' hb=>FIN.out w' false (by rw[HV.out];simp[q1,q2,q2']) (HB3.out.trans (hb.mono HB3.out.size))
    clear FIN HV
    obtain⟨a0,a1,a2,a3,a4,a5,a6⟩:=HQ.out w3 (Below.refl _ _)
    obtain⟨k0,k1,k2,k3,k4,k5,k6⟩:=HK.out w3 (Below.refl _ _)
    go_wp2_with fail
    refine Free.wp_region_free 27 [(3, .det (.bool false)),(24, .det (.agg #[.int .i64 0, .int .i64 1]))] (fun w'=>Below w3.heap.size w3 w') (by kernel_rfl) (by kernel_rfl) (Free.mono_det (fun j mk r hf=>by simp only[Free.find]at hf;repeat' (first|cases hf|split at hf))) (Below.refl _ _).drew (fun _ _ h g=>h.trans (Below.mono g h.size)) ?_
    simp only[List.take_succ_cons,List.take_zero]
    iterate 27 (first|(apply Free.chain_skip (by first|exact unwanted2 rfl rfl rfl rfl|exact aJ rfl rfl rfl);simp only[Pt])|(apply Free.chain_still (by first|exact Free.wanted_of rfl rfl rfl|rfl) rfl;(intro w' hB hA;exact Hk.exec_mid 27 (.tmp 2) rfl W.heap.size 0 rfl cs _ (HM.out _ hB) Tryz.underlying27 rfl HI.out);simp only[Pt])|(apply Free.chain_det (by first|exact Free.wanted_of rfl rfl rfl|rfl) rfl;(intro w' hB hA;refine Free.opRun_call (f:=127) (args:= #[.agg cs.toArray, .int .i64 a.give]) (by clear hB hA;go_simp<;>rfl) ?_;refine(CMG.out _).mono ?_;rintro e w3 ⟨rfl,hb3⟩;exact⟨_,rfl,hb3,rfl⟩);simp only[Pt])|(apply Free.chain_still (by first|exact Free.wanted_of rfl rfl rfl|rfl) rfl;(intro w' hB hA;cases HQ.out w' hB;cases HK.out w' hB;clear hA;go_light;go_simp<;>rfl);(try simp only[Pt])))
    apply Free.chain_nil
    intro w6 hw6 _ _
    simp only[List.drop_succ_cons,List.drop_zero]
    have HF2:=h_ (HF.out w6 hw6)
    clear hw6 HF
    go_wp2_with fail
    exact HF2.out
   |true=>
    by_cases h3:0<=a.dest
    rotate_left
    ·have q3:decide (0<=a.dest)=false:=decide_eq_false h3
     have HF:Hid (∀w',Below w3.heap.size w3 w'->R (.returned (.bool false)) w'):=h_ fun w' hb=>FIN.out w' false (by rw[HV.out];simp[q1,q2,q2',q3]) (HB3.out.trans (hb.mono HB3.out.size))
     clear FIN HV
     obtain⟨a0,a1,a2,a3,a4,a5,a6⟩:=HQ.out w3 (Below.refl _ _)
     obtain⟨k0,k1,k2,k3,k4,k5,k6⟩:=HK.out w3 (Below.refl _ _)
     go_wp2_with fail
     refine Free.wp_region_free 27 [(3, .det (.bool true)),(24, .det (.agg #[.int .i64 0, .int .i64 1]))] (fun w'=>Below w3.heap.size w3 w') (by kernel_rfl) (by kernel_rfl) (Free.mono_det (fun j mk r hf=>by simp only[Free.find]at hf;repeat' (first|cases hf|split at hf))) (Below.refl _ _).drew (fun _ _ h g=>h.trans (Below.mono g h.size)) ?_
     simp only[List.take_succ_cons,List.take_zero]
     iterate 27 (first|(apply Free.chain_skip (by first|exact unwanted2 rfl rfl rfl rfl|exact aJ rfl rfl rfl);simp only[Pt])|(apply Free.chain_still (by first|exact Free.wanted_of rfl rfl rfl|rfl) rfl;(intro w' hB hA;exact Hk.exec_mid 27 (.tmp 2) rfl W.heap.size 0 rfl cs _ (HM.out _ hB) Tryz.underlying27 rfl HI.out);simp only[Pt])|(apply Free.chain_det (by first|exact Free.wanted_of rfl rfl rfl|rfl) rfl;(intro w' hB hA;refine Free.opRun_call (f:=127) (args:= #[.agg cs.toArray, .int .i64 a.give]) (by clear hB hA;go_simp<;>rfl) ?_;refine(CMG.out _).mono ?_;rintro e w3 ⟨rfl,hb3⟩;exact⟨_,rfl,hb3,rfl⟩);simp only[Pt])|(apply Free.chain_still (by first|exact Free.wanted_of rfl rfl rfl|rfl) rfl;(intro w' hB hA;cases HQ.out w' hB;cases HK.out w' hB;clear hA;go_light;go_simp<;>rfl);(try simp only[Pt])))
     apply Free.chain_nil
     intro w6 hw6 _ _
     simp only[List.drop_succ_cons,List.drop_zero]
     have HF2:=h_ (HF.out w6 hw6)
     clear hw6 HF
     go_wp2_with fail
     exact HF2.out
    have q3:decide (0<=a.dest)=true:=decide_eq_true h3
    by_cases h4:a.dest<c.parties
    rotate_left
    ·have q4:decide (a.dest<c.parties)=false:=decide_eq_false h4
     have HF:Hid (∀w',Below w3.heap.size w3 w'->R (.returned (.bool false)) w'):=h_ fun w' hb=>FIN.out w' false (by rw[HV.out];simp[q1,q2,q2',q4]) (HB3.out.trans (hb.mono HB3.out.size))
     clear FIN HV
     obtain⟨a0,a1,a2,a3,a4,a5,a6⟩:=HQ.out w3 (Below.refl _ _)
     obtain⟨k0,k1,k2,k3,k4,k5,k6⟩:=HK.out w3 (Below.refl _ _)
     go_wp2_with fail
     refine Free.wp_region_free 27 [(3, .det (.bool true)),(24, .det (.agg #[.int .i64 0, .int .i64 1]))] (fun w'=>Below w3.heap.size w3 w') (by kernel_rfl) (by kernel_rfl) (Free.mono_det (fun j mk r hf=>by simp only[Free.find]at hf;repeat' (first|cases hf|split at hf))) (Below.refl _ _).drew (fun _ _ h g=>h.trans (Below.mono g h.size)) ?_
     simp only[List.take_succ_cons,List.take_zero]
     iterate 27 (first|(apply Free.chain_skip (by first|exact unwanted2 rfl rfl rfl rfl|exact aJ rfl rfl rfl);simp only[Pt])|(apply Free.chain_still (by first|exact Free.wanted_of rfl rfl rfl|rfl) rfl;(intro w' hB hA;exact Hk.exec_mid 27 (.tmp 2) rfl W.heap.size 0 rfl cs _ (HM.out _ hB) Tryz.underlying27 rfl HI.out);simp only[Pt])|(apply Free.chain_det (by first|exact Free.wanted_of rfl rfl rfl|rfl) rfl;(intro w' hB hA;refine Free.opRun_call (f:=127) (args:= #[.agg cs.toArray, .int .i64 a.give]) (by clear hB hA;go_simp<;>rfl) ?_;refine(CMG.out _).mono ?_;rintro e w3 ⟨rfl,hb3⟩;exact⟨_,rfl,hb3,rfl⟩);simp only[Pt])|(apply Free.chain_still (by first|exact Free.wanted_of rfl rfl rfl|rfl) rfl;(intro w' hB hA;cases HQ.out w' hB;cases HK.out w' hB;clear hA;go_light;go_simp<;>rfl);(try simp only[Pt])))
     apply Free.chain_nil
     intro w6 hw6 _ _
     simp only[List.drop_succ_cons,List.drop_zero]
     have HF2:=h_ (HF.out w6 hw6)
     clear hw6 HF
     go_wp2_with fail
     exact HF2.out
    have q4:decide (a.dest<c.parties)=true:=decide_eq_true h4
    by_cases h5:a.unit= -1
    rotate_left
    ·have q5:(a.unit== -1)=false:=by simpa using h5
     have q5n:(a.unit != -1)=true:=by simpa using h5
     clear h5
     have HF:Hid (∀w',Below w3.heap.size w3 w'->R (.returned (.bool false)) w'):=h_ fun w' hb=>FIN.out w' false (by rw[HV.out];simp[q1,q2,q2',q5]) (HB3.out.trans (hb.mono HB3.out.size))
     clear FIN HV
     obtain⟨a0,a1,a2,a3,a4,a5,a6⟩:=HQ.out w3 (Below.refl _ _)
     obtain⟨k0,k1,k2,k3,k4,k5,k6⟩:=HK.out w3 (Below.refl _ _)
     go_wp2_with fail
     refine Free.wp_region_free 27 [(3, .det (.bool true)),(24, .det (.agg #[.int .i64 0, .int .i64 1]))] (fun w'=>Below w3.heap.size w3 w') (by kernel_rfl) (by kernel_rfl) (Free.mono_det (fun j mk r hf=>by simp only[Free.find]at hf;repeat' (first|cases hf|split at hf))) (Below.refl _ _).drew (fun _ _ h g=>h.trans (Below.mono g h.size)) ?_
     simp only[List.take_succ_cons,List.take_zero]
     iterate 27 (first|(apply Free.chain_skip (by first|exact unwanted2 rfl rfl rfl rfl|exact aJ rfl rfl rfl);simp only[Pt])|(apply Free.chain_still (by first|exact Free.wanted_of rfl rfl rfl|rfl) rfl;(intro w' hB hA;exact Hk.exec_mid 27 (.tmp 2) rfl W.heap.size 0 rfl cs _ (HM.out _ hB) Tryz.underlying27 rfl HI.out);simp only[Pt])|(apply Free.chain_det (by first|exact Free.wanted_of rfl rfl rfl|rfl) rfl;(intro w' hB hA;refine Free.opRun_call (f:=127) (args:= #[.agg cs.toArray, .int .i64 a.give]) (by clear hB hA;go_simp<;>rfl) ?_;refine(CMG.out _).mono ?_;rintro e w3 ⟨rfl,hb3⟩;exact⟨_,rfl,hb3,rfl⟩);simp only[Pt])|(apply Free.chain_still (by first|exact Free.wanted_of rfl rfl rfl|rfl) rfl;(intro w' hB hA;cases HQ.out w' hB;cases HK.out w' hB;clear hA;go_light;go_simp<;>rfl);(try simp only[Pt])))
     apply Free.chain_nil
     intro w6 hw6 _ _
     simp only[List.drop_succ_cons,List.drop_zero]
     have HF2:=h_ (HF.out w6 hw6)
     clear hw6 HF
     go_wp2_with fail
     exact HF2.out
    have q5:(a.unit== -1)=true:=by simpa using h5
    have q5n:(a.unit != -1)=false:=by simpa using h5
    clear h5
    have HF:Hid (∀w',Below w3.heap.size w3 w'->R (.returned (.bool Z)) w'):=h_ fun w' hb=>FIN.out w' Z (by rw[HV.out];simp[q1,q2,q2',q3,q4,q5]) (HB3.out.trans (hb.mono HB3.out.size))
    clear FIN HV
    obtain⟨a0,a1,a2,a3,a4,a5,a6⟩:=HQ.out w3 (Below.refl _ _)
    obtain⟨k0,k1,k2,k3,k4,k5,k6⟩:=HK.out w3 (Below.refl _ _)
    go_wp2_with fail
    refine Free.wp_region_free 27 [(3, .det (.bool true)),(24, .det (.agg #[.int .i64 0, .int .i64 1]))] (fun w'=>Below w3.heap.size w3 w') (by kernel_rfl) (by kernel_rfl) (Free.mono_det (fun j mk r hf=>by simp only[Free.find]at hf;repeat' (first|cases hf|split at hf))) (Below.refl _ _).drew (fun _ _ h g=>h.trans (Below.mono g h.size)) ?_
    simp only[List.take_succ_cons,List.take_zero]
    iterate 27 (first|(apply Free.chain_still (by first|exact Free.wanted_of rfl rfl rfl|rfl) rfl;(intro w' hB hA;exact Hk.exec_mid 27 (.tmp 2) rfl W.heap.size 0 rfl cs _ (HM.out _ hB) Tryz.underlying27 rfl HI.out);simp only[Pt])|(apply Free.chain_det (by first|exact Free.wanted_of rfl rfl rfl|rfl) rfl;(intro w' hB hA;refine Free.opRun_call (f:=127) (args:= #[.agg cs.toArray, .int .i64 a.give]) (by clear hB hA;go_simp<;>rfl) ?_;refine(CMG.out _).mono ?_;rintro e w3 ⟨rfl,hb3⟩;exact⟨_,rfl,hb3,rfl⟩);simp only[Pt])|(apply Free.chain_still (by first|exact Free.wanted_of rfl rfl rfl|rfl) rfl;(intro w' hB hA;exact Hk.exec_mid 43 (.tmp 112) rfl (W.heap.size+1) 5 rfl fs _ (HF5.out _ hB) Tryz.underlying43 rfl HIF.out);simp only[Pt])|(apply Free.chain_det (by first|exact Free.wanted_of rfl rfl rfl|rfl) rfl;(intro w' hB hA;refine Free.opRun_call (f:=125) (args:= #[]) (by clear hB hA;go_simp<;>rfl) ?_;refine(dl _).mono ?_;rintro e w3 ⟨rfl,hb3⟩;exact⟨_,rfl,hb3,rfl⟩);simp only[Pt])|(apply Free.chain_still (by first|exact Free.wanted_of rfl rfl rfl|rfl) rfl;(intro w' hB hA;exact cI rfl EFS.out rfl EZ.out);simp only[Pt])|(apply Free.chain_still (by first|exact Free.wanted_of rfl rfl rfl|rfl) rfl;(intro w' hB hA;cases HQ.out w' hB;cases HK.out w' hB;clear hA;go_light;go_simp<;>rfl);(try simp only[Pt])))
    apply Free.chain_nil
    intro w6 hw6 _ _
    simp only[List.drop_succ_cons,List.drop_zero]
    have HF2:=h_ (HF.out w6 hw6)
    clear hw6 HF
    go_wp2_with fail
    exact HF2.out
  have q2':(a.kind==3)=false:=by simpa using h3'
  clear h3'
  have HF:Hid (∀w',Below w3.heap.size w3 w'->R (.returned (.bool false)) w'):=h_ fun w' hb=>FIN.out w' false (by rw[HV.out];simp[q1,q2,q2']) (HB3.out.trans (hb.mono HB3.out.size))
  clear FIN HV
  have HF2:=h_ (HF.out w3 (Below.refl _ _))
  clear HF
  obtain⟨a0,a1,a2,a3,a4,a5,a6⟩:=HQ.out w3 (Below.refl _ _)
  obtain⟨k0,k1,k2,k3,k4,k5,k6⟩:=HK.out w3 (Below.refl _ _)
  have HMl:=h_ (HM.out w3 (Below.refl _ _))
  have HFl:=h_ (HF5.out w3 (Below.refl _ _))
  go_wp2_with fail
  exact HF2.out
end Go.Proofs.YtekfoaenomgjgaaGreatDoor
