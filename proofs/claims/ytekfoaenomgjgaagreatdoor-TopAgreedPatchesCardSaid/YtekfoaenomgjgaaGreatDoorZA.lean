/- Package migrate: what a replacement does to a mark; change. Condition: the contract, the patch and the holders lie in boxes; days are days. -/
import Derived.Test.YtekfoaenomgjgaaGreatDoorZ7
import Derived.Test.YtekfoaenomgjgaaGreatDoorQE
set_option maxRecDepth 100000
set_option linter.all false
namespace Go.Proofs.YtekfoaenomgjgaaGreatDoor
open Go.RowKit Go.W32 Go.Blk Go.Cs Go.Lib Go.Opn Go.Mg Go.Cv
structure ChB (c:ConM) (p:Pat) (h:Hd) (A:Option Addr) (n:Nat) (hs:List Int) (bc bp bh:Nat) (w:World):Prop where
 rc:Row w bc 27 (ak c)
 rp:Row w bp 47 (aw p h)
 rh:Row w bh 22 [.slice A hs.length n]
 at_:ConAt w c
 sl:SL w 1 Cs.encI A hs
theorem ChB.below{c:ConM}{p:Pat}{h:Hd}{A:Option Addr}{n:Nat}{hs:List Int}{bc bp bh:Nat}{w w':World}(a:ChB c p h A n hs bc bp bh w)(hb:Below w.heap.size w w'):ChB c p h A n hs bc bp bh w':=
 ⟨a.rc.below hb a.rc.lt,a.rp.below hb a.rp.lt,a.rh.below hb a.rh.lt,a.at_.below hb (Nat.le_refl _),a.sl.below hb (Nat.le_refl _)⟩
structure ChK (c:ConM) (p:Pat) (hs:List Int):Prop where
 n:c.kls.length<=4000
 hn:hs.length<=4000
 k:∀k∈c.kls,DayK k.1
 d0:p.kind=5->0<=p.days
 d1:p.kind=5->p.days<=400
 new:p.kind=2->DayK p.new
 r:p.kind=2->p.new.kind≠4->0<=p.new.role/\p.new.role<(hs.length:Int)
structure Mb (W:World) (m:Mar) (w:World):Prop where
 a:Row w W.heap.size 66 (ah m)
 z:Row w (W.heap.size+1) 66 [.int .i64 0, .int .i64 0, .int .i64 0, .int .i64 0, .bool false]
 below:Below W.heap.size W w
theorem Mb.new(W:World)(m:Mar):Mb W m ((W.alloc (.cells (ah m).toArray 66)).alloc (.cells #[.int .i64 0, .int .i64 0, .int .i64 0, .int .i64 0, .bool false] 66)):=by
 obtain⟨h1,h2,h3⟩:=bu W 66 66 (ah m) [.int .i64 0, .int .i64 0, .int .i64 0, .int .i64 0, .bool false]
 exact⟨h1,h2,h3⟩
theorem Mb.grow{W w w':World}{m:Mar}(h:Mb W m w)(hb:Below w.heap.size w w'):Mb W m w':=⟨h.a.below hb h.a.lt,h.z.below hb h.z.lt,h.below.trans (hb.mono h.below.size)⟩
set_option maxHeartbeats 4000000 in
theorem ch1_any(c:ConM)(p:Pat)(h:Hd)(A:Option Addr)(n:Nat)(hs:List Int)(bc bp bh:Nat)(x:Nat)(k:Kl)(m:Mar)(W:World)(hB:ChB c p h A n hs bc bp bh W)(hK:ChK c p hs)(hkd:p.kind=5)(hk:c.kls[x]? =some k)(hl:0<=m.left)(hl2:m.left<=400):
  Calls Tryz.prog 129 #[.int .i64 (x:Int), .agg (ah m).toArray, .pointer (some ⟨bp,0,none⟩), .pointer (some ⟨bc,0,none⟩)] W fun e w'=>e= .returned (.agg (ah (if m.status==1 then⟨m.status,max 1 (m.left+p.days-k.1.after),m.got,m.bearer,m.paused⟩else m)).toArray)/\Below W.heap.size W w':=by
 obtain⟨R,eR⟩:∃R:Ending->World->Prop,R=fun e w'=>e= .returned (.agg (ah (if m.status==1 then⟨m.status,max 1 (m.left+p.days-k.1.after),m.got,m.bearer,m.paused⟩else m)).toArray)/\Below W.heap.size W w':=⟨_,rfl⟩
 rw[<-eR]
 have FIN:Hid (∀w' q,q=(if m.status==1 then⟨m.status,max 1 (m.left+p.days-k.1.after),m.got,m.bearer,m.paused⟩else m)->Below W.heap.size W w'->R (.returned (.agg (ah q).toArray)) w'):=h_ fun w' v h hb=>by rw[eR,h];exact⟨rfl,hb⟩
 clear eR
 obtain⟨W1,e1⟩:∃W1,W1=(W.alloc (.cells (ah m).toArray 66)).alloc (.cells #[.int .i64 0, .int .i64 0, .int .i64 0, .int .i64 0, .bool false] 66):=⟨_,rfl⟩
 have hM1:Mb W m W1:=by rw[e1];exact Mb.new W m
 obtain⟨es,ees⟩:∃es,es=ah m:=⟨_,rfl⟩
 rw[<-ees]at e1⊢
 have E1:Hid ((W.alloc (.cells es.toArray 66)).alloc (.cells #[.int .i64 0, .int .i64 0, .int .i64 0, .int .i64 0, .bool false] 66)=W1):=h_ e1.symm
 have EES:=h_ ees
 have HI:=h_ (bV es (by rw[ees];rfl))
 have HM1:=h_ hM1
 have HRG:Hid (∀w',Mb W m w'->w'.rangeAt W.heap.size 0 es):=h_ fun w' h=>by rw[ees];exact h.a.rg
 clear e1 ees
 have c0:=hM1.a.at (show(ah m)[0]? =some (.int .i64 m.status) from rfl)
 by_cases h1:m.status=1
 ·have b1:(m.status==1)=true:=by simpa using h1
  obtain⟨q,eq⟩:∃q:Mar,q=⟨m.status,max 1 (m.left+p.days-k.1.after),m.got,m.bearer,m.paused⟩:=⟨_,rfl⟩
  have HEQ:Hid (q=(if m.status==1 then⟨m.status,max 1 (m.left+p.days-k.1.after),m.got,m.bearer,m.paused⟩else m)):=h_ (by rw[b1,eq];rfl)
  have hxl:=(List.getElem?_eq_some_iff.1 hk).1
  have hsl:=(hB.below hM1.below).at_.k
  obtain⟨kb,ko,eA⟩:=aC hsl (by intro e;rw[e]at hxl;simp at hxl)
  have HK:Hid (∀w',Below W1.heap.size W1 w'->Mb W m w'/\w'.cell? ⟨bp,18,none⟩=some (.int .i64 p.days)/\w'.cell? ⟨bc,4,none⟩=some (.slice (some ⟨kb,ko,none⟩) c.kls.length c.kc)/\w'.cell? ⟨kb,ko+x*16+5,none⟩=some (.int .i64 k.1.after)/\w'.cell? ⟨W.heap.size,1,none⟩=some (.int .i64 m.left)):=h_ fun w' hb=>by
   have hm:=hM1.grow hb
   have hB':=hB.below hm.below
   have hs':=hB'.at_.k
   rw[eA]at hs'
   refine⟨hm,hB'.rp.at rfl, ?_,(az hs' hk) 5 _ rfl,hm.a.at rfl⟩
   have:=hB'.rc.at (show(ak c)[4]? =some (.slice c.kA c.kls.length c.kc) from rfl)
   rw[eA]at this;exact this
  obtain⟨hk1,hk2,hk3,hk4⟩:=hK.k k (List.mem_of_getElem? hk)
  have hd0:=hK.d0 hkd
  have hd1:=hK.d1 hkd
  have hn:=hK.n
  have hx1:(x:Int)<(c.kls.length:Int):=by omega
  have hx0:(0:Int)<=(x:Int):=by omega
  have hw1:IntKind.i64.wrap (m.left+p.days)=m.left+p.days:=IntWalk.i64_in _ (by omega)
  have hw2:IntKind.i64.wrap (m.left+p.days-k.1.after)=m.left+p.days-k.1.after:=IntWalk.i64_in _ (by omega)
  have EQ:=h_ eq
  clear hK hk hB hM1 hsl eA eq h1 hxl hkd
  go_enter Tryz.func129,Tryz.ntmps129
  go_wp2_with (simp only[E1.out])
  clear c0
  refine Free.wp_region_free 14 [] (fun w'=>Below W1.heap.size W1 w') (by kernel_rfl) (by kernel_rfl) (Free.mono_det (fun j mk r hf=>by simp only[Free.find]at hf;repeat' (first|cases hf|split at hf))) (Below.refl _ _).drew (fun _ _ h g=>h.trans (Below.mono g h.size)) ?_
  simp only[List.take_succ_cons,List.take_zero]
  iterate 14 (apply Free.chain_still (by first|exact Free.wanted_of rfl rfl rfl|rfl) rfl;(intro w' hB hA;obtain⟨_,q1,q2,q3,q4⟩:=HK.out w' hB;clear hA hB;go_light;go_simp<;>rfl);(try simp only[Pt]))
  apply Free.chain_nil
  intro w6 hw6 _ _
  simp only[List.drop_succ_cons,List.drop_zero,List.drop_nil]
  have hm6:=(HK.out w6 hw6).1
  obtain⟨W3,e3⟩:∃W3,W3=w6.setCell ⟨W.heap.size,1,none⟩ (.int .i64 (max 1 (m.left+p.days-k.1.after))):=⟨_,rfl⟩
  obtain⟨ss,ess⟩:∃ss,ss=ah q:=⟨_,rfl⟩
  have hr3:Row W3 W.heap.size 66 ss:=by
   have h:=Blk.Blk.set (show Blk.Blk w6 W.heap.size (ah m) 66 from hm6.a) 1 (.int .i64 (max 1 (m.left+p.days-k.1.after)))
   rw[e3,ess,EQ.out];exact h
  have hz3:Row W3 (W.heap.size+1) 66 [.int .i64 0, .int .i64 0, .int .i64 0, .int .i64 0, .bool false]:=by
   rw[e3];exact Blk.Blk.set_ne (show Blk.Blk w6 (W.heap.size+1) _ 66 from hm6.z) (a:=⟨W.heap.size,1,none⟩) (by show W.heap.size≠W.heap.size+1;omega) _
  have hb3:Below W.heap.size W W3:=hm6.below.trans (by rw[e3];exact aq (a:=⟨W.heap.size,1,none⟩) (Nat.le_refl _) _)
  have f1:=Blk.Blk.frozen (show Blk.Blk w6 W.heap.size (ah m) 66 from hm6.a) 1
  have c1:=hm6.a.at (show(ah m)[1]? =some (.int .i64 m.left) from rfl)
  have E3:Hid (w6.setCell ⟨W.heap.size,1,none⟩ (.int .i64 (max 1 (m.left+p.days-k.1.after)))=W3):=h_ e3.symm
  have HIS:=h_ (bV ss (by rw[ess];rfl))
  have HML:=h_ hr3.rg
  have HST:=h_ (aU (es:=ss) hz3 rfl (by rw[ess];rfl) (by rw[ess];exact aB _) hb3 (Nat.le_succ _) 6 24)
  have ESS:=h_ ess
  clear hm6 e3 ess hr3 hz3 hb3 hw6
  go_wp2_with (first
   |(simp only[E3.out])
   |(refine ae (.tmp 5) ?_;refine wpList_load_mid rfl 66 (.tmp 5) rfl W.heap.size 0 rfl ss _ HML.out Tryz.underlying66 rfl HIS.out ?_)
   |(refine ai (.tmp 6) ?_;refine HST.out _ _ _ _ _ rfl rfl rfl rfl ?_;intro w9 H9;simp only[Pt]))
  rw[ESS.out]at H9
  refine bodyPost_ret (v:= .agg (ah q).toArray) (Hk.results_cell_row (fn:=Tryz.f129) (p:=6) (ty:=66) rfl _ _ (W.heap.size+1) 66 (ah q).toArray (0,0) _ rfl H9.out.1 Tryz.underlying66 rfl (by kernel_rfl)) rfl ?_
  exact FIN.out _ _ HEQ.out H9.out.2
 ·have b1:(m.status==1)=false:=by simpa using h1
  have HEQ:Hid (m=(if m.status==1 then⟨m.status,max 1 (m.left+p.days-k.1.after),m.got,m.bearer,m.paused⟩else m)):=h_ (by rw[b1];rfl)
  have HML:=h_ (HRG.out _ HM1.out)
  have HST:=h_ (aU (es:=es) HM1.out.z rfl (by rw[EES.out];rfl) (by rw[EES.out];exact aB _) HM1.out.below (Nat.le_succ _) 6 24)
  clear hK hk hB hM1 h1
  go_enter Tryz.func129,Tryz.ntmps129
  go_wp2_with (first
   |(simp only[E1.out])
   |(refine ae (.tmp 5) ?_;refine wpList_load_mid rfl 66 (.tmp 5) rfl W.heap.size 0 rfl es _ HML.out Tryz.underlying66 rfl HI.out ?_)
   |(refine ai (.tmp 6) ?_;refine HST.out _ _ _ _ _ rfl rfl rfl rfl ?_;intro w9 H9;simp only[Pt]))
  rw[EES.out]at H9
  refine bodyPost_ret (v:= .agg (ah m).toArray) (Hk.results_cell_row (fn:=Tryz.f129) (p:=6) (ty:=66) rfl _ _ (W.heap.size+1) 66 (ah m).toArray (0,0) _ rfl H9.out.1 Tryz.underlying66 rfl (by kernel_rfl)) rfl ?_
  exact FIN.out _ _ HEQ.out H9.out.2
set_option maxHeartbeats 4000000 in
theorem ch4_any(x:Int)(m:Mar)(W:World):Calls Tryz.prog 136 #[.int .i64 x, .agg (ah m).toArray] W fun e w'=>e= .returned (.agg (ah m.voided).toArray)/\Below W.heap.size W w':=by
 obtain⟨R,eR⟩:∃R:Ending->World->Prop,R=fun e w'=>e= .returned (.agg (ah m.voided).toArray)/\Below W.heap.size W w':=⟨_,rfl⟩
 rw[<-eR]
 have FIN:Hid (∀w' q,q=m.voided->Below W.heap.size W w'->R (.returned (.agg (ah q).toArray)) w'):=h_ fun w' v h hb=>by rw[eR,h];exact⟨rfl,hb⟩
 clear eR
 obtain⟨W1,e1⟩:∃W1,W1=(W.alloc (.cells (ah m).toArray 66)).alloc (.cells #[.int .i64 0, .int .i64 0, .int .i64 0, .int .i64 0, .bool false] 66):=⟨_,rfl⟩
 have hM1:Mb W m W1:=by rw[e1];exact Mb.new W m
 obtain⟨es,ees⟩:∃es,es=ah m:=⟨_,rfl⟩
 rw[<-ees]at e1⊢
 have E1:Hid ((W.alloc (.cells es.toArray 66)).alloc (.cells #[.int .i64 0, .int .i64 0, .int .i64 0, .int .i64 0, .bool false] 66)=W1):=h_ e1.symm
 have EES:=h_ ees
 have HI:=h_ (bV es (by rw[ees];rfl))
 have HM1:=h_ hM1
 have HRG:Hid (∀w',Mb W m w'->w'.rangeAt W.heap.size 0 es):=h_ fun w' h=>by rw[ees];exact h.a.rg
 clear e1 ees
 have HML:=h_ (HRG.out _ HM1.out)
 have CV:=void_any m W1
 rw[<-EES.out]at CV
 have CV:=h_ CV
 clear hM1
 go_enter Tryz.func136,Tryz.ntmps136
 go_wp2_with (first
  |(simp only[E1.out])
  |(refine ae (.tmp 3) ?_;refine wpList_load_mid rfl 66 (.tmp 3) rfl W.heap.size 0 rfl es _ HML.out Tryz.underlying66 rfl HI.out ?_))
 refine CV.out.mono ?_
 rintro e w4 ⟨rfl,hb4⟩
 have hm4:=HM1.out.grow hb4
 have HST:=h_ (aU (es:=ah m.voided) hm4.z rfl rfl (aB _) hm4.below (Nat.le_succ _) 4 6)
 clear hb4 hm4 CV
 go_wp2_with (refine ai (.tmp 4) ?_;refine HST.out _ _ _ _ _ rfl rfl rfl rfl ?_;intro w9 H9;simp only[Pt])
 refine bodyPost_ret (v:= .agg (ah m.voided).toArray) (Hk.results_cell_row (fn:=Tryz.f136) (p:=4) (ty:=66) rfl _ _ (W.heap.size+1) 66 (ah m.voided).toArray (0,0) _ rfl H9.out.1 Tryz.underlying66 rfl (by kernel_rfl)) rfl ?_
 exact FIN.out _ _ rfl H9.out.2
set_option maxHeartbeats 4000000 in
theorem ch3_any(p:Pat)(h:Hd)(bp:Nat)(x:Int)(m:Mar)(W:World)(hB:Row W bp 47 (aw p h)):Calls Tryz.prog 135 #[.int .i64 x, .agg (ah m).toArray, .pointer (some ⟨bp,0,none⟩)] W fun e w'=>e= .returned (.agg (ah (if p.new.waived then m.voided else m)).toArray)/\Below W.heap.size W w':=by
 obtain⟨R,eR⟩:∃R:Ending->World->Prop,R=fun e w'=>e= .returned (.agg (ah (if p.new.waived then m.voided else m)).toArray)/\Below W.heap.size W w':=⟨_,rfl⟩
 rw[<-eR]
 have FIN:Hid (∀w' q,q=(if p.new.waived then m.voided else m)->Below W.heap.size W w'->R (.returned (.agg (ah q).toArray)) w'):=h_ fun w' v h hb=>by rw[eR,h];exact⟨rfl,hb⟩
 clear eR
 obtain⟨W1,e1⟩:∃W1,W1=(W.alloc (.cells (ah m).toArray 66)).alloc (.cells #[.int .i64 0, .int .i64 0, .int .i64 0, .int .i64 0, .bool false] 66):=⟨_,rfl⟩
 have hM1:Mb W m W1:=by rw[e1];exact Mb.new W m
 obtain⟨es,ees⟩:∃es,es=ah m:=⟨_,rfl⟩
 rw[<-ees]at e1⊢
 have E1:Hid ((W.alloc (.cells es.toArray 66)).alloc (.cells #[.int .i64 0, .int .i64 0, .int .i64 0, .int .i64 0, .bool false] 66)=W1):=h_ e1.symm
 have EES:=h_ ees
 have HI:=h_ (bV es (by rw[ees];rfl))
 have HM1:=h_ hM1
 have HRG:Hid (∀w',Mb W m w'->w'.rangeAt W.heap.size 0 es):=h_ fun w' h=>by rw[ees];exact h.a.rg
 clear e1 ees
 have hr:=hB.below hM1.below hB.lt
 have p17:=hr.at (show(aw p h)[17]? =some (.bool p.new.waived) from rfl)
 obtain⟨wv,ewv⟩:∃wv,wv=p.new.waived:=⟨_,rfl⟩
 rw[<-ewv]at p17
 cases wv with
 |true=>
  have HEQ:Hid (m.voided=if p.new.waived then m.voided else m):=h_ (by rw[<-ewv];rfl)
  have HML:=h_ (HRG.out _ HM1.out)
  have CV:=void_any m W1
  rw[<-EES.out]at CV
  have CV:=h_ CV
  clear hM1 hr hB ewv
  go_enter Tryz.func135,Tryz.ntmps135
  go_wp2_with (first
   |(simp only[E1.out])
   |(refine ae (.tmp 4) ?_;refine wpList_load_mid rfl 66 (.tmp 4) rfl W.heap.size 0 rfl es _ HML.out Tryz.underlying66 rfl HI.out ?_))
  refine CV.out.mono ?_
  rintro e w4 ⟨rfl,hb4⟩
  have hm4:=HM1.out.grow hb4
  have HST:=h_ (aU (es:=ah m.voided) hm4.z rfl rfl (aB _) hm4.below (Nat.le_succ _) 5 10)
  clear hb4 hm4 CV
  go_wp2_with (refine ai (.tmp 5) ?_;refine HST.out _ _ _ _ _ rfl rfl rfl rfl ?_;intro w9 H9;simp only[Pt])
  refine bodyPost_ret (v:= .agg (ah m.voided).toArray) (Hk.results_cell_row (fn:=Tryz.f135) (p:=5) (ty:=66) rfl _ _ (W.heap.size+1) 66 (ah m.voided).toArray (0,0) _ rfl H9.out.1 Tryz.underlying66 rfl (by kernel_rfl)) rfl ?_
  exact FIN.out _ _ HEQ.out H9.out.2
 |false=>
  have HEQ:Hid (m=(if p.new.waived then m.voided else m)):=h_ (by rw[<-ewv];rfl)
  have HML:=h_ (HRG.out _ HM1.out)
  have HST:=h_ (aU (es:=es) HM1.out.z rfl (by rw[EES.out];rfl) (by rw[EES.out];exact aB _) HM1.out.below (Nat.le_succ _) 5 11)
  clear hM1 hr hB ewv
  go_enter Tryz.func135,Tryz.ntmps135
  go_wp2_with (first
   |(simp only[E1.out])
   |(refine ae (.tmp 4) ?_;refine wpList_load_mid rfl 66 (.tmp 4) rfl W.heap.size 0 rfl es _ HML.out Tryz.underlying66 rfl HI.out ?_)
   |(refine ai (.tmp 5) ?_;refine HST.out _ _ _ _ _ rfl rfl rfl rfl ?_;intro w9 H9;simp only[Pt]))
  rw[EES.out]at H9
  refine bodyPost_ret (v:= .agg (ah m).toArray) (Hk.results_cell_row (fn:=Tryz.f135) (p:=5) (ty:=66) rfl _ _ (W.heap.size+1) 66 (ah m).toArray (0,0) _ rfl H9.out.1 Tryz.underlying66 rfl (by kernel_rfl)) rfl ?_
  exact FIN.out _ _ HEQ.out H9.out.2
end Go.Proofs.YtekfoaenomgjgaaGreatDoor
namespace Go.Proofs.YtekfoaenomgjgaaGreatDoor
open Go.RowKit Go.W32 Go.Blk Go.Cs Go.Lib Go.Opn Go.Mg Go.Cv

def repM(p:Pat)(k:Cls)(hs:List Int)(m:Mar):Mar:=if p.new.waived then m.voided else if !m.runs then m else if p.new.kind==k.kind then m.cont k p.new else m.again k p.new hs
set_option maxHeartbeats 8000000 in
theorem ch2_any(c:ConM)(p:Pat)(h:Hd)(A:Option Addr)(n:Nat)(hs:List Int)(bc bp bh:Nat)(x:Nat)(k:Kl)(m:Mar)(W:World)(hB:ChB c p h A n hs bc bp bh W)(hK:ChK c p hs)(hkd:p.kind=2)(hk:c.kls[x]? =some k)(hl:0<=m.left)(hl2:m.left<=400):
  Calls Tryz.prog 130 #[.int .i64 (x:Int), .agg (ah m).toArray, .pointer (some ⟨bp,0,none⟩), .pointer (some ⟨bc,0,none⟩), .pointer (some ⟨bh,0,none⟩)] W fun e w'=>e= .returned (.agg (ah (repM p k.1 hs m)).toArray)/\Below W.heap.size W w':=by
 obtain⟨R,eR⟩:∃R:Ending->World->Prop,R=fun e w'=>e= .returned (.agg (ah (repM p k.1 hs m)).toArray)/\Below W.heap.size W w':=⟨_,rfl⟩
 rw[<-eR]
 have FIN:Hid (∀w' q,q=repM p k.1 hs m->Below W.heap.size W w'->R (.returned (.agg (ah q).toArray)) w'):=h_ fun w' v h hb=>by rw[eR,h];exact⟨rfl,hb⟩
 clear eR
 obtain⟨W1,e1⟩:∃W1,W1=(W.alloc (.cells (ah m).toArray 66)).alloc (.cells #[.int .i64 0, .int .i64 0, .int .i64 0, .int .i64 0, .bool false] 66):=⟨_,rfl⟩
 have hM1:Mb W m W1:=by rw[e1];exact Mb.new W m
 obtain⟨es,ees⟩:∃es,es=ah m:=⟨_,rfl⟩
 obtain⟨ds,eds⟩:∃ds,ds=aF k:=⟨_,rfl⟩
 obtain⟨ns,ens⟩:∃ns,ns=aF (p.new,(h.B,h.d)):=⟨_,rfl⟩
 rw[<-ees]at e1⊢
 have E1:Hid ((W.alloc (.cells es.toArray 66)).alloc (.cells #[.int .i64 0, .int .i64 0, .int .i64 0, .int .i64 0, .bool false] 66)=W1):=h_ e1.symm
 have EES:=h_ ees
 have HI:=h_ (bV es (by rw[ees];rfl))
 have HID:=h_ (eE ds (by rw[eds];rfl))
 have HIN:=h_ (eE ns (by rw[ens];rfl))
 have HM1:=h_ hM1
 have HRG:Hid (∀w',Mb W m w'->w'.rangeAt W.heap.size 0 es):=h_ fun w' h=>by rw[ees];exact h.a.rg
 have hxl:=(List.getElem?_eq_some_iff.1 hk).1
 have hsl:=(hB.below hM1.below).at_.k
 obtain⟨kb,ko,eA⟩:=aC hsl (by intro e;rw[e]at hxl;simp at hxl)
 have HKW:Hid (∀w',Below W1.heap.size W1 w'->Mb W m w'/\w'.cell? ⟨bp,2,none⟩=some (.int .i64 p.new.kind)/\w'.cell? ⟨bc,4,none⟩=some (.slice (some ⟨kb,ko,none⟩) c.kls.length c.kc)/\w'.cell? ⟨kb,ko+x*16,none⟩=some (.int .i64 k.1.kind)/\w'.rangeAt kb (ko+x*16) ds/\w'.rangeAt bp 2 ns/\w'.cell? ⟨bh,0,none⟩=some (.slice A hs.length n)/\SL w' 1 Cs.encI A hs):=h_ fun w' hb=>by
  have hm:=hM1.grow hb
  have hB':=hB.below hm.below
  have hs':=hB'.at_.k
  rw[eA]at hs'
  refine⟨hm,hB'.rp.at rfl, ?_,(az hs' hk) 0 _ rfl,by rw[eds];exact az hs' hk,by rw[ens];exact ks_range hB'.rp,hB'.rh.at rfl,hB'.sl⟩
  have:=hB'.rc.at (show(ak c)[4]? =some (.slice c.kA c.kls.length c.kc) from rfl)
  rw[eA]at this;exact this
 have p17:=((hB.below hM1.below).rp).at (show(aw p h)[17]? =some (.bool p.new.waived) from rfl)
 have hn:=hK.n
 have hx1:(x:Int)<(c.kls.length:Int):=by omega
 have hx0:(0:Int)<=(x:Int):=by omega
 have HDK:=h_ (hK.k k (List.mem_of_getElem? hk))
 have HNW:=h_ (hK.new hkd)
 have HRR:=h_ (hK.r hkd)
 have HHN:=h_ hK.hn
 obtain⟨wv,ewv⟩:∃wv,wv=p.new.waived:=⟨_,rfl⟩
 rw[<-ewv]at p17
 have EWV:=h_ ewv
 have EDS:=h_ eds
 have ENS:=h_ ens
 have HL:=h_ hl
 have HL2:=h_ hl2
 clear e1 hM1 ees eds ens hxl hsl eA hB hK hk hkd hl hl2 ewv
 cases wv with
 |true=>
  have HEQ:Hid (m.voided=repM p k.1 hs m):=h_ (by unfold repM;rw[<-EWV.out];rfl)
  have HML:=h_ (HRG.out _ HM1.out)
  have CV:=void_any m W1
  rw[<-EES.out]at CV
  have CV:=h_ CV
  go_enter Tryz.func130,Tryz.ntmps130
  go_wp2_with (first
   |(simp only[E1.out])
   |(refine ae (.tmp 6) ?_;refine wpList_load_mid rfl 66 (.tmp 6) rfl W.heap.size 0 rfl es _ HML.out Tryz.underlying66 rfl HI.out ?_))
  refine CV.out.mono ?_
  rintro e w4 ⟨rfl,hb4⟩
  have hm4:=HM1.out.grow hb4
  have HST:=h_ (aU (es:=ah m.voided) hm4.z rfl rfl (aB _) hm4.below (Nat.le_succ _) 7 13)
  clear hb4 hm4 CV
  go_wp2_with (refine ai (.tmp 7) ?_;refine HST.out _ _ _ _ _ rfl rfl rfl rfl ?_;intro w9 H9;simp only[Pt])
  refine bodyPost_ret (v:= .agg (ah m.voided).toArray) (Hk.results_cell_row (fn:=Tryz.f130) (p:=7) (ty:=66) rfl _ _ (W.heap.size+1) 66 (ah m.voided).toArray (0,0) _ rfl H9.out.1 Tryz.underlying66 rfl (by kernel_rfl)) rfl ?_
  exact FIN.out _ _ HEQ.out H9.out.2
 |false=>
 have HML:=h_ (HRG.out _ HM1.out)
 have CR:=runs_any m W1
 rw[<-EES.out]at CR
 have CR:=h_ CR
 go_enter Tryz.func130,Tryz.ntmps130
 go_wp2_with (first
  |(simp only[E1.out])
  |(refine ae (.tmp 6) ?_;refine wpList_load_mid rfl 66 (.tmp 6) rfl W.heap.size 0 rfl es _ HML.out Tryz.underlying66 rfl HI.out ?_))
 refine CR.out.mono ?_
 rintro e w3 ⟨rfl,hb3⟩
 have HK:Hid (∀w',Below w3.heap.size w3 w'->Mb W m w'/\w'.cell? ⟨bp,2,none⟩=some (.int .i64 p.new.kind)/\w'.cell? ⟨bc,4,none⟩=some (.slice (some ⟨kb,ko,none⟩) c.kls.length c.kc)/\w'.cell? ⟨kb,ko+x*16,none⟩=some (.int .i64 k.1.kind)/\w'.rangeAt kb (ko+x*16) ds/\w'.rangeAt bp 2 ns/\w'.cell? ⟨bh,0,none⟩=some (.slice A hs.length n)/\SL w' 1 Cs.encI A hs):=h_ fun w' hb=>HKW.out w' (hb3.trans (hb.mono hb3.size))
 obtain⟨rb,erb⟩:∃rb,rb=m.runs:=⟨_,rfl⟩
 rw[<-erb]
 have ERB:=h_ erb
 have hm3:=(HK.out w3 (Below.refl _ _)).1
 have HML3:=h_ (HRG.out _ hm3)
 clear CR hb3 p17 HML HKW erb
 cases rb with
 |false=>
  have HEQ:Hid (m=repM p k.1 hs m):=h_ (by unfold repM;rw[<-EWV.out, <-ERB.out];rfl)
  have HST:=h_ (aU (es:=es) hm3.z rfl (by rw[EES.out];rfl) (by rw[EES.out];exact aB _) hm3.below (Nat.le_succ _) 7 18)
  clear hm3
  go_wp2_with (first
   |(refine ae (.tmp 6) ?_;refine wpList_load_mid rfl 66 (.tmp 6) rfl W.heap.size 0 rfl es _ HML3.out Tryz.underlying66 rfl HI.out ?_)
   |(refine ai (.tmp 7) ?_;refine HST.out _ _ _ _ _ rfl rfl rfl rfl ?_;intro w9 H9;simp only[Pt]))
  rw[EES.out]at H9
  refine bodyPost_ret (v:= .agg (ah m).toArray) (Hk.results_cell_row (fn:=Tryz.f130) (p:=7) (ty:=66) rfl _ _ (W.heap.size+1) 66 (ah m).toArray (0,0) _ rfl H9.out.1 Tryz.underlying66 rfl (by kernel_rfl)) rfl ?_
  exact FIN.out _ _ HEQ.out H9.out.2
 |true=>
 clear hm3
 go_wp2_with fail
 by_cases hkk:p.new.kind=k.1.kind
 ·have bk:(p.new.kind==k.1.kind)=true:=by simpa using hkk
  obtain⟨q,eq⟩:∃q,q=m.cont k.1 p.new:=⟨_,rfl⟩
  have HEQ:Hid (q=repM p k.1 hs m):=h_ (by unfold repM;rw[<-EWV.out, <-ERB.out,bk,eq];rfl)
  have CC:Hid (∀w',Below w3.heap.size w3 w'->Calls Tryz.prog 133 #[.agg ds.toArray, .agg ns.toArray, .agg es.toArray] w' fun e w''=>e= .returned (.agg (ah q).toArray)/\Below w'.heap.size w' w''):=h_ fun w' _=>by
   have h:=cont_any k (p.new,(h.B,h.d)) m w' HL.out HL2.out HDK.out HNW.out
   rw[<-EDS.out, <-ENS.out, <-EES.out, <-eq]at h;exact h
  clear eq hkk
  refine Free.wp_region_free 11 [] (fun w'=>Below w3.heap.size w3 w') (by kernel_rfl) (by kernel_rfl) (Free.mono_det (fun j mk r hf=>by simp only[Free.find]at hf;repeat' (first|cases hf|split at hf))) (Below.refl _ _).drew (fun _ _ h g=>h.trans (Below.mono g h.size)) ?_
  simp only[List.take_succ_cons,List.take_zero]
  iterate 11 (apply Free.chain_still (by first|exact Free.wanted_of rfl rfl rfl|rfl) rfl;(intro w' hB hA;obtain⟨_,x1,x2,x3,_,_,x4,_⟩:=HK.out w' hB;clear hA hB;go_light;go_simp<;>rfl);(try simp only[Pt]))
  apply Free.chain_nil
  intro w6 hw6 _ _
  simp only[List.drop_succ_cons,List.drop_zero,List.drop_nil]
  have HK6:Hid (Below w3.heap.size w3 w6):=h_ hw6
  clear hw6
  go_wp2_with fail
  refine Free.wp_region_free 9 [(8, .det (.agg (ah q).toArray))] (fun w'=>Below w3.heap.size w3 w') (by kernel_rfl) (by kernel_rfl) (Free.mono_det (fun j mk r hf=>by simp only[Free.find]at hf;repeat' (first|cases hf|split at hf))) HK6.out.drew (fun _ _ h g=>h.trans (Below.mono g h.size)) ?_
  simp only[List.take_succ_cons,List.take_zero]
  iterate 9 (first|(apply Free.chain_still (by first|exact Free.wanted_of rfl rfl rfl|rfl) rfl;(intro w' hB hA;exact Hk.exec_mid 45 (.tmp 33) rfl kb (ko+x*16) rfl ds _ (HK.out w' hB).2.2.2.2.1 Tryz.underlying45 rfl HID.out);simp only[Pt])|(apply Free.chain_still (by first|exact Free.wanted_of rfl rfl rfl|rfl) rfl;(intro w' hB hA;exact Hk.exec_mid 45 (.tmp 35) rfl bp 2 rfl ns _ (HK.out w' hB).2.2.2.2.2.1 Tryz.underlying45 rfl HIN.out);simp only[Pt])|(apply Free.chain_still (by first|exact Free.wanted_of rfl rfl rfl|rfl) rfl;(intro w' hB hA;exact Hk.exec_mid 66 (.tmp 6) rfl W.heap.size 0 rfl es _ (HRG.out w' (HK.out w' hB).1) Tryz.underlying66 rfl HI.out);simp only[Pt])|(apply Free.chain_det (by first|exact Free.wanted_of rfl rfl rfl|rfl) rfl;(intro w' hB hA;refine Free.opRun_call (f:=133) (args:= #[.agg ds.toArray, .agg ns.toArray, .agg es.toArray]) (by clear hB hA;go_simp<;>rfl) ?_;refine(CC.out w' hB).mono ?_;rintro e w3 ⟨rfl,hb3⟩;exact⟨_,rfl,hb3,rfl⟩);simp only[Pt])|(apply Free.chain_still (by first|exact Free.wanted_of rfl rfl rfl|rfl) rfl;(intro w' hB hA;obtain⟨_,x1,x2,x3,_,_,x4,_⟩:=HK.out w' hB;clear hA hB;go_light;go_simp<;>rfl);(try simp only[Pt])))
  clear HK6
  apply Free.chain_nil
  intro w7 hw6 _ _
  simp only[List.drop_succ_cons,List.drop_zero,List.drop_nil]
  have hm6:=(HK.out w7 hw6).1
  have HST:=h_ (aU (es:=ah q) hm6.z rfl rfl (aB _) hm6.below (Nat.le_succ _) 7 38)
  clear hm6 hw6 CC
  go_wp2_with (refine ai (.tmp 7) ?_;refine HST.out _ _ _ _ _ rfl rfl rfl rfl ?_;intro w9 H9;simp only[Pt])
  refine bodyPost_ret (v:= .agg (ah q).toArray) (Hk.results_cell_row (fn:=Tryz.f130) (p:=7) (ty:=66) rfl _ _ (W.heap.size+1) 66 (ah q).toArray (0,0) _ rfl H9.out.1 Tryz.underlying66 rfl (by kernel_rfl)) rfl ?_
  exact FIN.out _ _ HEQ.out H9.out.2
 ·have bk:(p.new.kind==k.1.kind)=false:=by simpa using hkk
  obtain⟨q,eq⟩:∃q,q=m.again k.1 p.new hs:=⟨_,rfl⟩
  have HEQ:Hid (q=repM p k.1 hs m):=h_ (by unfold repM;rw[<-EWV.out, <-ERB.out,bk,eq];rfl)
  have CC:Hid (∀w',Below w3.heap.size w3 w'->Calls Tryz.prog 134 #[.agg ds.toArray, .agg ns.toArray, .agg es.toArray, .slice A hs.length n] w' fun e w''=>e= .returned (.agg (ah q).toArray)/\Below w'.heap.size w' w''):=h_ fun w' hb=>by
   have h:=again_any k (p.new,(h.B,h.d)) m A n hs w' (HK.out w' hb).2.2.2.2.2.2.2 HRR.out HHN.out
   rw[<-EDS.out, <-ENS.out, <-EES.out, <-eq]at h;exact h
  clear eq hkk
  refine Free.wp_region_free 11 [] (fun w'=>Below w3.heap.size w3 w') (by kernel_rfl) (by kernel_rfl) (Free.mono_det (fun j mk r hf=>by simp only[Free.find]at hf;repeat' (first|cases hf|split at hf))) (Below.refl _ _).drew (fun _ _ h g=>h.trans (Below.mono g h.size)) ?_
  simp only[List.take_succ_cons,List.take_zero]
  iterate 11 (apply Free.chain_still (by first|exact Free.wanted_of rfl rfl rfl|rfl) rfl;(intro w' hB hA;obtain⟨_,x1,x2,x3,_,_,x4,_⟩:=HK.out w' hB;clear hA hB;go_light;go_simp<;>rfl);(try simp only[Pt]))
  apply Free.chain_nil
  intro w6 hw6 _ _
  simp only[List.drop_succ_cons,List.drop_zero,List.drop_nil]
  have HK6:Hid (Below w3.heap.size w3 w6):=h_ hw6
  clear hw6
  go_wp2_with fail
  refine Free.wp_region_free 10 [(9, .det (.agg (ah q).toArray))] (fun w'=>Below w3.heap.size w3 w') (by kernel_rfl) (by kernel_rfl) (Free.mono_det (fun j mk r hf=>by simp only[Free.find]at hf;repeat' (first|cases hf|split at hf))) HK6.out.drew (fun _ _ h g=>h.trans (Below.mono g h.size)) ?_
  simp only[List.take_succ_cons,List.take_zero]
  iterate 10 (first|(apply Free.chain_still (by first|exact Free.wanted_of rfl rfl rfl|rfl) rfl;(intro w' hB hA;exact Hk.exec_mid 45 (.tmp 42) rfl kb (ko+x*16) rfl ds _ (HK.out w' hB).2.2.2.2.1 Tryz.underlying45 rfl HID.out);simp only[Pt])|(apply Free.chain_still (by first|exact Free.wanted_of rfl rfl rfl|rfl) rfl;(intro w' hB hA;exact Hk.exec_mid 45 (.tmp 44) rfl bp 2 rfl ns _ (HK.out w' hB).2.2.2.2.2.1 Tryz.underlying45 rfl HIN.out);simp only[Pt])|(apply Free.chain_still (by first|exact Free.wanted_of rfl rfl rfl|rfl) rfl;(intro w' hB hA;exact Hk.exec_mid 66 (.tmp 6) rfl W.heap.size 0 rfl es _ (HRG.out w' (HK.out w' hB).1) Tryz.underlying66 rfl HI.out);simp only[Pt])|(apply Free.chain_det (by first|exact Free.wanted_of rfl rfl rfl|rfl) rfl;(intro w' hB hA;refine Free.opRun_call (f:=134) (args:= #[.agg ds.toArray, .agg ns.toArray, .agg es.toArray, .slice A hs.length n]) (by clear hB hA;go_simp<;>rfl) ?_;refine(CC.out w' hB).mono ?_;rintro e w3 ⟨rfl,hb3⟩;exact⟨_,rfl,hb3,rfl⟩);simp only[Pt])|(apply Free.chain_still (by first|exact Free.wanted_of rfl rfl rfl|rfl) rfl;(intro w' hB hA;obtain⟨_,x1,x2,x3,_,_,x4,_⟩:=HK.out w' hB;clear hA hB;go_light;go_simp<;>rfl);(try simp only[Pt])))
  clear HK6
  apply Free.chain_nil
  intro w7 hw6 _ _
  simp only[List.drop_succ_cons,List.drop_zero,List.drop_nil]
  have hm6:=(HK.out w7 hw6).1
  have HST:=h_ (aU (es:=ah q) hm6.z rfl rfl (aB _) hm6.below (Nat.le_succ _) 7 48)
  clear hm6 hw6 CC
  go_wp2_with (refine ai (.tmp 7) ?_;refine HST.out _ _ _ _ _ rfl rfl rfl rfl ?_;intro w9 H9;simp only[Pt])
  refine bodyPost_ret (v:= .agg (ah q).toArray) (Hk.results_cell_row (fn:=Tryz.f130) (p:=7) (ty:=66) rfl _ _ (W.heap.size+1) 66 (ah q).toArray (0,0) _ rfl H9.out.1 Tryz.underlying66 rfl (by kernel_rfl)) rfl ?_
  exact FIN.out _ _ HEQ.out H9.out.2
structure ChFn (c:ConM) (p:Pat) (h:Hd) (A:Option Addr) (n:Nat) (hs:List Int) (bc bp bh:Nat) (f:Nat) (caps:Array Value):Prop where
 enter:∀args w,(callFunc f args).run Tryz.prog w= .ok (.enter f args) w
 run:∀w',ChB c p h A n hs bc bp bh w'->∀(x:Nat) (m:Mar),(p.kind=1\/x<c.kls.length)->0<=m.left->m.left<=400->Calls Tryz.prog f (#[.int .i64 (x:Int), .agg (ah m).toArray]++caps) w' fun e w''=>e= .returned (.agg (ah (chgM c.con.cls p hs x m)).toArray)/\Below w'.heap.size w' w''
def ChPost(c:ConM)(p:Pat)(h:Hd)(A:Option Addr)(n:Nat)(hs:List Int)(W:World)(e:Ending)(w':World):Prop:=
 ∃f caps bc bp bh,e= .returned (.func (.func f) #[] caps)/\ChFn c p h A n hs bc bp bh f caps/\ChB c p h A n hs bc bp bh w'/\(W.heap.size<=bc/\W.heap.size<=bp/\W.heap.size<=bh)/\Below W.heap.size W w'
theorem cls_at{c:ConM}{x:Nat}{k:Kl}(hk:c.kls[x]? =some k):clsAt c.con.cls (x:Int)=k.1:=by
 unfold clsAt ConM.con
 rw[Int.toNat_natCast,List.getElem?_map,hk];rfl
set_option maxHeartbeats 4000000 in
theorem change_any(c:ConM)(p:Pat)(h:Hd)(A:Option Addr)(n:Nat)(hs:List Int)(W:World)(hc:ConAt W c)(hA:SL W 1 Cs.encI A hs)(hK:ChK c p hs):
  Calls Tryz.prog 94 #[.agg (ak c).toArray, .agg (aw p h).toArray, .slice A hs.length n] W (ChPost c p h A n hs W):=by
 obtain⟨R,eR⟩:∃R,R=ChPost c p h A n hs W:=⟨_,rfl⟩
 rw[<-eR]
 obtain⟨W1,e1,hr1,hr2,hr3,hb1⟩:=dK W 27 47 22 (ak c) (aw p h) [.slice A hs.length n]
 have hB:ChB c p h A n hs W.heap.size (W.heap.size+1) (W.heap.size+2) W1:=⟨hr1,hr2,hr3,hc.below hb1 (Nat.le_refl _),hA.below hb1 (Nat.le_refl _)⟩
 have FIN:Hid (∀f caps,ChFn c p h A n hs W.heap.size (W.heap.size+1) (W.heap.size+2) f caps->R (.returned (.func (.func f) #[] caps)) W1):=h_ fun f caps hf=>by rw[eR];exact⟨f,caps,_,_,_,rfl,hf,hB,⟨Nat.le_refl _,by omega,by omega⟩,hb1⟩
 clear eR
 have p0:=hr2.at (show(aw p h)[0]? =some (.int .i64 p.kind) from rfl)
 obtain⟨cs,ecs⟩:∃cs,cs=ak c:=⟨_,rfl⟩
 obtain⟨ps,eps⟩:∃ps,ps=aw p h:=⟨_,rfl⟩
 rw[<-ecs, <-eps]at e1⊢
 have E1:Hid (((W.alloc (.cells cs.toArray 27)).alloc (.cells ps.toArray 47)).alloc (.cells #[.slice A hs.length n] 22)=W1):=h_ e1
 clear e1 hr1 hr2 hr3 hb1 ecs eps
 by_cases h5:p.kind=5
 ·have b5:(p.kind==5)=true:=by simpa using h5
  have HF:=h_ (FIN.out 129 #[.pointer (some ⟨W.heap.size+1,0,none⟩), .pointer (some ⟨W.heap.size,0,none⟩)] ⟨enters_of Tryz.func129 (by kernel_rfl) rfl,fun w' hB x m hx hl hl2=>by
   have hx':x<c.kls.length:=by omega
   obtain⟨k,hk⟩:∃k,c.kls[x]? =some k:=⟨_,List.getElem?_eq_getElem hx'⟩
   have h:=ch1_any c p h A n hs _ _ _ x k m w' hB hK h5 hk hl hl2
   unfold chgM
   rw[if_pos b5,cls_at hk];exact h⟩)
  clear FIN h5 hB
  go_enter Tryz.func94,Tryz.ntmps94
  go_wp2_with (simp only[E1.out])
  exact HF.out
 have b5:(p.kind==5)=false:=by simpa using h5
 by_cases h2:p.kind=2
 ·have b2:(p.kind==2)=true:=by simpa using h2
  have HF:=h_ (FIN.out 130 #[.pointer (some ⟨W.heap.size+1,0,none⟩), .pointer (some ⟨W.heap.size,0,none⟩), .pointer (some ⟨W.heap.size+2,0,none⟩)] ⟨enters_of Tryz.func130 (by kernel_rfl) rfl,fun w' hB x m hx hl hl2=>by
   have hx':x<c.kls.length:=by omega
   obtain⟨k,hk⟩:∃k,c.kls[x]? =some k:=⟨_,List.getElem?_eq_getElem hx'⟩
   have h:=ch2_any c p h A n hs _ _ _ x k m w' hB hK h2 hk hl hl2
   unfold chgM
   rw[if_neg (by rw[b5];decide),if_pos b2,cls_at hk];exact h⟩)
  clear FIN h2 h5 hB
  go_enter Tryz.func94,Tryz.ntmps94
  go_wp2_with (simp only[E1.out])
  exact HF.out
 have b2:(p.kind==2)=false:=by simpa using h2
 by_cases h1:p.kind=1
 ·have b1:(p.kind==1)=true:=by simpa using h1
  have HF:=h_ (FIN.out 135 #[.pointer (some ⟨W.heap.size+1,0,none⟩)] ⟨enters_of Tryz.func135 (by kernel_rfl) rfl,fun w' hB x m hx hl hl2=>by
   have h:=ch3_any p h _ x m w' hB.rp
   unfold chgM
   rw[if_neg (by rw[b5];decide),if_neg (by rw[b2];decide),if_pos b1];exact h⟩)
  clear FIN h1 h2 h5 hB
  go_enter Tryz.func94,Tryz.ntmps94
  go_wp2_with (simp only[E1.out])
  exact HF.out
 have b1:(p.kind==1)=false:=by simpa using h1
 have HF:=h_ (FIN.out 136 #[] ⟨enters_of Tryz.func136 (by kernel_rfl) rfl,fun w' hB x m hx hl hl2=>by
  have h:=ch4_any x m w'
  unfold chgM
  rw[if_neg (by rw[b5];decide),if_neg (by rw[b2];decide),if_neg (by rw[b1];decide)];exact h⟩)
 clear FIN h1 h2 h5 hB
 go_enter Tryz.func94,Tryz.ntmps94
 go_wp2_with (simp only[E1.out])
 exact HF.out
end Go.Proofs.YtekfoaenomgjgaaGreatDoor
