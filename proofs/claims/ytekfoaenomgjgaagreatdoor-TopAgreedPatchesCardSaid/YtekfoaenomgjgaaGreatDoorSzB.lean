/- Package migrate: Migrate, where the patch can be applied; reference 15: Few. Condition: the contract, the patch and the state lie in memory; the state is well-formed. -/
import Derived.Test.YtekfoaenomgjgaaGreatDoorSzA
import Derived.Test.YtekfoaenomgjgaaGreatDoorZB
set_option maxRecDepth 100000
set_option linter.all false
namespace Go.Proofs.YtekfoaenomgjgaaGreatDoor
open Go.RowKit Go.W32 Go.Blk Go.Cs Go.Lib Go.Opn Go.Mg Go.Cv

def MiPost(c:Con)(p:Pat)(s:Sta)(d:Con)(W:World)(e:Ending)(w':World):Prop:=
 Below W.heap.size W w'/\∃s':StaM,e= .returned (.tuple #[.agg (aE s').toArray, .int .i64 0])/\MgO c p s d W.heap.size w' s'
theorem StaOw.keepX{lo:Nat}{w w':World}{s:StaM}{g:Nat}(h:StaOw lo w s)(hg:w.grownBy w' (some g))(hn:∀ {v:Value} {T:TypeId} {sz n:Nat} {xs:List Value},w.ownsRow lo T sz v n xs->v.ownBlock=some g->T≠56/\T≠27->False):StaOw lo w' s:=
 ⟨owns_keep h.h fun k hk=>hg.block k (owns_lt h.h hk).2 (fun e=>hn h.h (by rw[hk,e]) (by decide)),owns_keep h.u fun k hk=>hg.block k (owns_lt h.u hk).2 (fun e=>hn h.u (by rw[hk,e]) (by decide)),owns_keep h.m fun k hk=>hg.block k (owns_lt h.m hk).2 (fun e=>hn h.m (by rw[hk,e]) (by decide))⟩
theorem fk{w:World}{lo g:Nat}{T T':TypeId}{sz n:Nat}{v:Value}{xs cs:List Value}(h:w.ownsRow lo T sz v n xs)(hg:v.ownBlock=some g)(hr:Row w g T' cs):T=T':=by
 rcases h.2 with⟨rfl,_⟩|⟨g1,_,cur,rfl,_,h2,_⟩
 ·cases hg
 ·have:g1=g:=Option.some.inj hg
  subst this
  rw[show w.heap[g1]? =_ from hr]at h2
  injection h2 with h2
  injection h2 with _ h2
  exact h2.symm
set_option maxHeartbeats 8000000 in
theorem mig_any(c:ConM)(p:Pat)(h:Hd)(s:StaM)(d:Con)(W:World)(hc:ConAt W c)(hz:ConSz c)(hp:PatAt W p h)(hpk:bn p.kind)(hst:p.new.start.length<=1000000)(hs:StaAt W s)(hv:sysB c.con s.sta=true)(hd:bf c.con p=some d):
  Calls Tryz.prog 22 #[.agg (ak c).toArray, .agg (aw p h).toArray, .agg (aE s).toArray] W (MiPost c.con p s.sta d W):=by
 obtain⟨R,eR⟩:∃R,R=MiPost c.con p s.sta d W:=⟨_,rfl⟩
 rw[<-eR]
 have FIN:Hid (∀w' s',MgO c.con p s.sta d W.heap.size w' s'->Below W.heap.size W w'->R (.returned (.tuple #[.agg (aE s').toArray, .int .i64 0])) w'):=h_ fun w' s' h1 hb=>by rw[eR];exact⟨hb,s',rfl,h1⟩
 clear eR
 obtain⟨cs,ecs⟩:∃cs,cs=ak c:=⟨_,rfl⟩
 obtain⟨ps,eps⟩:∃ps,ps=aw p h:=⟨_,rfl⟩
 obtain⟨ss,ess⟩:∃ss,ss=aE s:=⟨_,rfl⟩
 obtain⟨W1,e1,hr1,hr2,hr3,hz1,hb1,hs1⟩:=boxes4 W 27 47 56 56 cs ps ss zSt
 have E1:Hid ((((W.alloc (.cells cs.toArray 27)).alloc (.cells ps.toArray 47)).alloc (.cells ss.toArray 56)).alloc (.cells #[.int .i64 0, .slice none 0 0, .slice none 0 0, .slice none 0 0] 56)=W1):=h_ e1
 have CV:=sysv_any c s W1 (hc.below hb1 (Nat.le_refl _)) hz (hs.below hb1 (Nat.le_refl _))
 rw[hv, <-ecs, <-ess]at CV
 have CM:Hid (∀w',Below W1.heap.size W1 w'->Calls Tryz.prog 61 #[.agg cs.toArray, .agg ps.toArray, .agg ss.toArray] w' (MgPost c.con p s.sta d w')):=h_ fun w' hb=>by
  have hbw:=hb1.trans (hb.mono hb1.size)
  have h1:=mgd_any c p h s d w' (hc.below hbw (Nat.le_refl _)) hz (hp.below hbw (Nat.le_refl _)) hpk hst (hs.below hbw (Nat.le_refl _)) hv hd
  rw[<-ecs, <-eps, <-ess]at h1;exact h1
 have CV:=h_ CV
 have HK:Hid (∀w',Below W1.heap.size W1 w'->w'.rangeAt W.heap.size 0 cs/\w'.rangeAt (W.heap.size+1) 0 ps/\w'.rangeAt (W.heap.size+1+1) 0 ss/\Row w' (W.heap.size+1+1+1) 56 zSt/\Below W.heap.size W w'/\W.heap.size+3<w'.heap.size):=h_ fun w' hb=>⟨(hr1.below hb hr1.lt).rg,(hr2.below hb hr2.lt).rg,(hr3.below hb hr3.lt).rg,hz1.below hb hz1.lt,hb1.trans (hb.mono hb1.size),by have:=hb.size;omega⟩
 have HIC:=h_ (aK cs (by rw[ecs];rfl))
 have HIP:Hid ((Tryz.prog.info? 47).map (·.size)=some ps.length):=h_ (by rw[eps];kernel_rfl)
 have HIS:=h_ (dc ss (by rw[ess];rfl))
 obtain⟨g1,g2,g3,_,_,_⟩:=HK.out W1 (Below.refl _ _)
 have G1:=h_ g1
 have G3:=h_ g3
 rw[<-ecs, <-eps, <-ess]
 clear e1 hr1 hr2 hr3 hz1 hb1 hs1 ecs eps ess hc hz hp hpk hst hs hv hd g1 g2 g3
 go_enter Tryz.func22,Tryz.ntmps22
 go_wp2_with (first
  |(simp only[E1.out])
  |(refine ae (.tmp 3) ?_;refine wpList_load_mid rfl 27 (.tmp 3) rfl W.heap.size 0 rfl cs _ G1.out Tryz.underlying27 rfl HIC.out ?_)
  |(refine ae (.tmp 5) ?_;refine wpList_load_mid rfl 56 (.tmp 5) rfl (W.heap.size+1+1) 0 rfl ss _ G3.out Tryz.underlying56 rfl HIS.out ?_))
 refine CV.out.mono ?_
 rintro e w2 ⟨rfl,hb2⟩
 obtain⟨g1,g2,g3,_,_,_⟩:=HK.out w2 hb2
 have H1:=h_ g1
 have H2:=h_ g2
 have H3:=h_ g3
 have CM2:=h_ (CM.out w2 hb2)
 have HB2:=h_ hb2
 clear hb2 g1 g2 g3 CV CM G1 G3 E1
 go_wp2_with (first
  |(refine ae (.tmp 3) ?_;refine wpList_load_mid rfl 27 (.tmp 3) rfl W.heap.size 0 rfl cs _ H1.out Tryz.underlying27 rfl HIC.out ?_)
  |(refine ae (.tmp 4) ?_;refine wpList_load_mid rfl 47 (.tmp 4) rfl (W.heap.size+1) 0 rfl ps _ H2.out Tryz.underlying47 rfl HIP.out ?_)
  |(refine ae (.tmp 5) ?_;refine wpList_load_mid rfl 56 (.tmp 5) rfl (W.heap.size+1+1) 0 rfl ss _ H3.out Tryz.underlying56 rfl HIS.out ?_))
 refine CM2.out.mono ?_
 rintro e w3 ⟨hb3,c',s',rfl,ho⟩
 obtain⟨es,ees⟩:∃es,es=ak c':=⟨_,rfl⟩
 obtain⟨ts,ets⟩:∃ts,ts=aE s':=⟨_,rfl⟩
 rw[<-ees, <-ets]
 obtain⟨_,_,_,z3,hbw3,hl3⟩:=HK.out w3 (HB2.out.trans (hb3.mono HB2.out.size))
 have hle:W.heap.size<=w2.heap.size:=(HK.out w2 HB2.out).2.2.2.2.1.size
 obtain⟨Wa,ea⟩:∃Wa,Wa=(w3.alloc (.cells (ak gF).toArray 27)).alloc (.cells zSt.toArray 56):=⟨_,rfl⟩
 obtain⟨q1,q2,qb⟩:=bu w3 27 56 (ak gF) zSt
 rw[<-ea]at q1 q2 qb
 have EA:Hid ((w3.alloc (.cells #[.int .i64 0, .slice none 0 0, .slice none 0 0, .slice none 0 0, .slice none 0 0, .int .i64 0, .slice none 0 0] 27)).alloc (.cells #[.int .i64 0, .slice none 0 0, .slice none 0 0, .slice none 0 0] 56)=Wa):=h_ ea.symm
 have za:=z3.below qb (by omega)
 have hba:Below W.heap.size W Wa:=hbw3.trans (qb.mono hbw3.size)
 obtain⟨o1,o2,o3,o4,o5,o6⟩:=ho
 have oa:StaOw W.heap.size Wa s':=(o6.mono hle).below qb
 have HS8:Hid (∀(Q:Exit->Act->World->Prop) (ops:Array Oper) (rest:List Oper) (o:Oper) (a:Act),o.guard=none->o.op= .store 27 (.tmp 8) (.tmp 21)->a.eval (.tmp 8)= .pointer (some ⟨w3.heap.size,0,none⟩)->a.eval (.tmp 21)= .agg es.toArray->(∀w9,Hid (Row w9 (w3.heap.size+1) 56 zSt/\Row w9 (W.heap.size+1+1+1) 56 zSt/\StaOw W.heap.size w9 s'/\Below W.heap.size W w9)->wpList Tryz.prog ops Q rest (a.put o.dst undef) w9)->wpList Tryz.prog ops Q (o::rest) a Wa):=h_ (by
  intro Q ops rest o a hgd ho hx hy hK
  refine Hk.wpList_store_own hgd 27 (.tmp 8) (.tmp 21) ho w3.heap.size hx es hy (ak gF) 27 q1 (by rw[ees];kernel_rfl) (by rw[ees];rfl) (by rw[ees];exact aX c') ?_
  intro w9 k1 k2 _
  exact hK w9 (h_ ⟨q2.keep (k2.block _ q2.lt (fun e=>by injection e with e;omega)),za.keep (k2.block _ za.lt (fun e=>by injection e with e;omega)),oa.keepX k2 (fun h hg hT=>hT.2 (fk h hg q1)),hba.trans (aj k2 (fun g hg=>by injection hg with e;omega) hba.size)⟩))
 have HS9:Hid (∀w4,Hid (Row w4 (w3.heap.size+1) 56 zSt/\Row w4 (W.heap.size+1+1+1) 56 zSt/\StaOw W.heap.size w4 s'/\Below W.heap.size W w4)->∀(Q:Exit->Act->World->Prop) (ops:Array Oper) (rest:List Oper) (o:Oper) (a:Act),o.guard=none->o.op= .store 56 (.tmp 9) (.tmp 22)->a.eval (.tmp 9)= .pointer (some ⟨w3.heap.size+1,0,none⟩)->a.eval (.tmp 22)= .agg ts.toArray->(∀w9,Hid (Row w9 (w3.heap.size+1) 56 ts/\Row w9 (W.heap.size+1+1+1) 56 zSt/\StaOw W.heap.size w9 s'/\Below W.heap.size W w9)->wpList Tryz.prog ops Q rest (a.put o.dst undef) w9)->wpList Tryz.prog ops Q (o::rest) a w4):=h_ (by
  intro w4 h4 Q ops rest o a hgd ho hx hy hK
  obtain⟨p1,p2,p3,p4⟩:=h4.out
  refine Hk.wpList_store_own hgd 56 (.tmp 9) (.tmp 22) ho (w3.heap.size+1) hx ts hy zSt 56 p1 (by rw[ets];kernel_rfl) (by rw[ets];rfl) (by rw[ets];exact cB s') ?_
  intro w9 k1 k2 _
  exact hK w9 (h_ ⟨k1,p2.keep (k2.block _ p2.lt (fun e=>by injection e with e;omega)),p3.keepX k2 (fun h hg hT=>hT.1 (fk h hg p1)),p4.trans (aj k2 (fun g hg=>by injection hg with e;omega) p4.size)⟩))
 have HS6:Hid (∀w4,Hid (Row w4 (w3.heap.size+1) 56 ts/\Row w4 (W.heap.size+1+1+1) 56 zSt/\StaOw W.heap.size w4 s'/\Below W.heap.size W w4)->∀(Q:Exit->Act->World->Prop) (ops:Array Oper) (rest:List Oper) (o:Oper) (a:Act),o.guard=none->o.op= .store 56 (.tmp 6) (.tmp 24)->a.eval (.tmp 6)= .pointer (some ⟨W.heap.size+1+1+1,0,none⟩)->a.eval (.tmp 24)= .agg ts.toArray->(∀w9,Hid (Row w9 (W.heap.size+1+1+1) 56 ts/\StaOw W.heap.size w9 s'/\Below W.heap.size W w9)->wpList Tryz.prog ops Q rest (a.put o.dst undef) w9)->wpList Tryz.prog ops Q (o::rest) a w4):=h_ (by
  intro w4 h4 Q ops rest o a hgd ho hx hy hK
  obtain⟨p1,p2,p3,p4⟩:=h4.out
  refine Hk.wpList_store_own hgd 56 (.tmp 6) (.tmp 24) ho (W.heap.size+1+1+1) hx ts hy zSt 56 p2 (by rw[ets];kernel_rfl) (by rw[ets];rfl) (by rw[ets];exact cB s') ?_
  intro w9 k1 k2 _
  exact hK w9 (h_ ⟨k1,p3.keepX k2 (fun h hg hT=>hT.1 (fk h hg p2)),p4.trans (aj k2 (fun g hg=>by injection hg with e;omega) p4.size)⟩))
 have HF:Hid (∀w',StaOw W.heap.size w' s'->Below W.heap.size W w'->R (.returned (.tuple #[.agg ts.toArray, .int .i64 0])) w'):=h_ fun w' h1 h2=>by rw[ets];exact FIN.out w' s' ⟨o1,o2,o3,o4,o5,h1⟩ h2
 have HIT:=h_ (dc ts (by rw[ets];rfl))
 clear FIN hb3 ees ets z3 hbw3 hl3 hle ea q1 q2 qb za hba o1 o2 o3 o4 o5 o6 oa CM2 H1 H2 H3
 go_wp2_with (first
  |(simp only[EA.out])
  |(refine ai (.tmp 8) ?_;refine HS8.out _ _ _ _ _ rfl rfl rfl rfl ?_;intro w4 H4;simp only[Pt])
  |(refine ai (.tmp 9) ?_;refine HS9.out _ H4 _ _ _ _ _ rfl rfl rfl rfl ?_;intro w5 H5;simp only[Pt])
  |(refine ae (.tmp 9) ?_;refine wpList_load_mid rfl 56 (.tmp 9) rfl (w3.heap.size+1) 0 rfl ts _ H5.out.1.rg Tryz.underlying56 rfl HIT.out ?_)
  |(refine ai (.tmp 6) ?_;refine HS6.out _ H5 _ _ _ _ _ rfl rfl rfl rfl ?_;intro w6 H6;simp only[Pt]))
 refine bodyPost_ret (v:= .tuple #[.agg ts.toArray, .int .i64 0]) (Hk.results_cell_row_tmp (fn:=Tryz.f22) (p:=6) (u:=7) (ty:=56) rfl _ _ (W.heap.size+1+1+1) 56 ts.toArray (0,0) _ rfl H6.out.1 Tryz.underlying56 rfl (by rw[HIT.out];simp) rfl) rfl ?_
 exact HF.out _ H6.out.2.1 H6.out.2.2
def fewB(s:StaM):Bool:=decide (s.holders.length<=20)&&(decide (s.used.length<=70)&&decide (s.marks.length<=60))
set_option maxHeartbeats 4000000 in
theorem few_any15(s:StaM)(W:World):Calls Tryz.prog 19 #[.agg (aE s).toArray] W fun e w'=>e= .returned (.bool (fewB s))/\Below W.heap.size W w':=by
 obtain⟨R,eR⟩:∃R:Ending->World->Prop,R=fun e w'=>e= .returned (.bool (fewB s))/\Below W.heap.size W w':=⟨_,rfl⟩
 rw[<-eR]
 have FIN:Hid (∀w' v,v=fewB s->Below W.heap.size W w'->R (.returned (.bool v)) w'):=h_ fun w' v h hb=>by rw[eR,h];exact⟨rfl,hb⟩
 clear eR
 obtain⟨ss,ess⟩:∃ss,ss=aE s:=⟨_,rfl⟩
 obtain⟨W1,e1⟩:∃W1,W1=W.alloc (.cells ss.toArray 56):=⟨_,rfl⟩
 have hr:Row W1 W.heap.size 56 ss:=by rw[e1];exact Row.new _ _ _
 have E1:Hid (W.alloc (.cells ss.toArray 56)=W1):=h_ e1.symm
 have HB1:Hid (Below W.heap.size W W1):=h_ (by rw[e1];exact bel1 _ _)
 have s1:=hr.at (show ss[1]? =some (.slice s.hA s.holders.length s.hc) by rw[ess];rfl)
 have s2:=hr.at (show ss[2]? =some (.slice s.uA s.used.length s.uc) by rw[ess];rfl)
 have s3:=hr.at (show ss[3]? =some (.slice s.mA s.marks.length s.mc) by rw[ess];rfl)
 rw[<-ess]
 clear e1 hr ess
 by_cases h1:s.holders.length<=20
 rotate_left
 ·have q1:decide ((s.holders.length:Int)<=20)=false:=decide_eq_false (by omega)
  have HF:=h_ (FIN.out W1 false (by unfold fewB;simp[h1]) HB1.out)
  clear FIN
  go_enter Tryz.func19,Tryz.ntmps19
  go_wp2_with (simp only[E1.out])
  exact HF.out
 have q1:decide ((s.holders.length:Int)<=20)=true:=decide_eq_true (by omega)
 by_cases h2:s.used.length<=70
 rotate_left
 ·have q2:decide ((s.used.length:Int)<=70)=false:=decide_eq_false (by omega)
  have HF:=h_ (FIN.out W1 false (by unfold fewB;simp[h2]) HB1.out)
  clear FIN
  go_enter Tryz.func19,Tryz.ntmps19
  go_wp2_with (simp only[E1.out])
  exact HF.out
 have q2:decide ((s.used.length:Int)<=70)=true:=decide_eq_true (by omega)
 by_cases h3:s.marks.length<=60
 rotate_left
 ·have q3:decide ((s.marks.length:Int)<=60)=false:=decide_eq_false (by omega)
  have HF:=h_ (FIN.out W1 false (by unfold fewB;simp[h3]) HB1.out)
  clear FIN
  go_enter Tryz.func19,Tryz.ntmps19
  go_wp2_with (simp only[E1.out])
  exact HF.out
 have q3:decide ((s.marks.length:Int)<=60)=true:=decide_eq_true (by omega)
 have HF:=h_ (FIN.out W1 true (by unfold fewB;simp[h1,h2,h3]) HB1.out)
 clear FIN
 go_enter Tryz.func19,Tryz.ntmps19
 go_wp2_with (simp only[E1.out])
 exact HF.out
end Go.Proofs.YtekfoaenomgjgaaGreatDoor
