/- Package patch: Apply. Condition: the contract and the patch lie in memory. -/
import Derived.Test.YtekfoaenomgjgaaGreatDoorCvU
set_option maxRecDepth 100000
set_option linter.all false
namespace Go.Proofs.YtekfoaenomgjgaaGreatDoor
open Go.RowKit Go.W32 Go.Blk Go.Cs Go.Lib Go.Opn Go.Mg Go.Cv

def ApPost(c:ConM)(p:Pat)(W:World)(e:Ending)(w':World):Prop:=
 Below W.heap.size W w'/\∃(c':ConM) (n:Int),e= .returned (.tuple #[.agg (ak c').toArray, .int .i64 n])/\
  ((n=0/\bf c.con p=some c'.con/\ConOw W.heap.size w' c')\/(n≠0/\bf c.con p=none))
structure ApB (W:World) (c:ConM) (p:Pat) (h:Hd) (cs ps zs:List Value) (w:World):Prop where
 c:Row w W.heap.size 27 cs
 p:Row w (W.heap.size+1) 47 ps
 z:Row w (W.heap.size+2) 27 zs
 below:Below W.heap.size W w
theorem ApB.grow{W w w':World}{c:ConM}{p:Pat}{h:Hd}{cs ps zs:List Value}(a:ApB W c p h cs ps zs w)(hb:Below w.heap.size w w'):ApB W c p h cs ps zs w':=
 ⟨a.c.below hb a.c.lt,a.p.below hb a.p.lt,a.z.below hb a.z.lt,a.below.trans (hb.mono a.below.size)⟩
theorem ApB.to{W w w':World}{B:Nat}{c:ConM}{p:Pat}{h:Hd}{cs ps zs:List Value}(a:ApB W c p h cs ps zs w)(hb:Below B w w')(hB:W.heap.size+2<B):ApB W c p h cs ps zs w':=
 ⟨a.c.below hb (by omega),a.p.below hb (by omega),a.z.below hb hB,a.below.trans (hb.mono (by omega))⟩
set_option maxHeartbeats 8000000 in
theorem gZ(c:ConM)(p:Pat)(h:Hd)(W:World)(hc:ConAt W c)(hz:ConSz c)(hp:PatAt W p h)(hcl:p.cl.length<=4611686018427387903)(hpk:bn p.kind)(hst:p.new.start.length<=1000000):
  Calls Tryz.prog 21 #[.agg (ak c).toArray, .agg (aw p h).toArray] W (ApPost c p W):=by
 obtain⟨R,eR⟩:∃R,R=ApPost c p W:=⟨_,rfl⟩
 rw[<-eR]
 obtain⟨cs,ecs⟩:∃cs,cs=ak c:=⟨_,rfl⟩
 obtain⟨ps,eps⟩:∃ps,ps=aw p h:=⟨_,rfl⟩
 obtain⟨zs,ezs⟩:∃zs,zs=ak gF:=⟨_,rfl⟩
 have FNO:Hid (∀w' n,n≠0->bf c.con p=none->Below W.heap.size W w'->R (.returned (.tuple #[.agg zs.toArray, .int .i64 n])) w'):=h_ fun w' n hn ha hb=>by
  rw[eR,ezs];exact⟨hb,gF,n,rfl, .inr ⟨hn,ha⟩⟩
 have FYES:Hid (∀w' c',bf c.con p=some c'.con->ConOw W.heap.size w' c'->Below W.heap.size W w'->R (.returned (.tuple #[.agg (ak c').toArray, .int .i64 0])) w'):=h_ fun w' c' h1 h2 hb=>by
  rw[eR];exact⟨hb,c',0,rfl, .inl ⟨rfl,h1,h2⟩⟩
 clear eR
 obtain⟨W1,e1⟩:∃W1,W1=((W.alloc (.cells cs.toArray 27)).alloc (.cells ps.toArray 47)).alloc (.cells zs.toArray 27):=⟨_,rfl⟩
 have s1:(W.alloc (.cells cs.toArray 27)).heap.size=W.heap.size+1:=by simp
 have s2:((W.alloc (.cells cs.toArray 27)).alloc (.cells ps.toArray 47)).heap.size=W.heap.size+2:=by simp
 have hA:ApB W c p h cs ps zs W1:=by
  rw[e1]
  refine⟨((Row.new W 27 cs).alloc _).alloc _, ?_, ?_,(((Below.refl _ _).alloc (Nat.le_refl _) _).alloc (by simp) _).alloc (by rw[s2];omega) _⟩
  ·rw[<-s1];exact(Row.new _ 47 ps).alloc _
  ·rw[<-s2];exact Row.new _ 27 zs
 have HZ:Hid ((#[.int .i64 0, .slice none 0 0, .slice none 0 0, .slice none 0 0, .slice none 0 0, .int .i64 0, .slice none 0 0]:Array Value)=zs.toArray):=h_ (by rw[ezs];rfl)
 have HZ1:Hid (∀v∈zs,v.oneCell'=true):=h_ (by rw[ezs];exact aX _)
 have HI:=h_ (aK zs (by rw[ezs];rfl))
 have HIC:=h_ (aK cs (by rw[ecs];rfl))
 have E1:Hid (((W.alloc (.cells cs.toArray 27)).alloc (.cells ps.toArray 47)).alloc (.cells #[.int .i64 0, .slice none 0 0, .slice none 0 0, .slice none 0 0, .slice none 0 0, .int .i64 0, .slice none 0 0] 27)=W1):=h_ (by rw[HZ.out];exact e1.symm)
 have CV:=dJ c W1 (hc.below hA.below (Nat.le_refl _)) hz
 rw[<-ecs]at CV
 have CV:=h_ CV
 have HA:=h_ hA
 have HMC:=h_ hA.c.rg
 rw[<-ecs, <-eps]
 have ECS:=h_ ecs
 have EPS:=h_ eps
 have EZS:=h_ ezs
 have HCON:=h_ hc
 have HPAT:=h_ hp
 have HSZ:=h_ hz
 have HCL:=h_ hcl
 have HST:=h_ hst
 clear e1 s1 s2 hA ecs eps ezs hc hp hz hcl hst
 go_enter Tryz.func21,Tryz.ntmps21
 go_wp2_with (first
  |(simp only[E1.out])
  |(refine ae (.tmp 2) ?_;refine wpList_load_mid rfl 27 (.tmp 2) rfl W.heap.size 0 rfl cs _ HMC.out Tryz.underlying27 rfl HIC.out ?_))
 refine CV.out.mono ?_
 rintro e w2 ⟨⟨ix,rfl⟩,hb2⟩
 have HA2:=h_ (HA.out.grow hb2)
 obtain⟨ec,eec⟩:∃ec,ec=dx c.con:=⟨_,rfl⟩
 rw[<-eec]
 clear CV HMC hb2 HA
 by_cases h0:ec=0
 rotate_left
 ·have HN:Hid (bf c.con p=none):=h_ (by
   unfold bf
   cases gc p.kind with
   |none=>rfl
   |some e=>exact if_neg (fun hh=>h0 (by rw[eec];exact hh.1)))
  have q:(ec !=0)=true:=by simpa using h0
  clear h0 eec
  have HR2:=h_ (HA2.out).z
  have HBL:=h_ (HA2.out).below
  go_wp2_with (refine ai (.tmp 4) ?_;refine Hk.wpList_store_own rfl 27 (.tmp 4) (.tmp 22) rfl (W.heap.size+2) rfl zs (congrArg Value.agg HZ.out) zs 27 HR2.out HI.out rfl HZ1.out ?_;intro w9 h91 h92 h93;have H91:=h_ h91;have H92:=h_ h92;clear h91 h92 h93;simp only[Pt])
  refine bodyPost_ret (v:= .tuple #[.agg zs.toArray, .int .i64 1]) (Hk.results_cell_row_tmp (fn:=Tryz.f21) (p:=4) (u:=5) (ty:=27) rfl _ _ (W.heap.size+2) 27 zs.toArray (0,0) _ rfl H91.out Tryz.underlying27 rfl (by rw[HI.out];simp) rfl) rfl ?_
  exact FNO.out _ 1 (by decide) HN.out (HBL.out.trans (aj H92.out (fun g hg=>by injection hg with e;omega) HBL.out.size))
 have q:(ec !=0)=false:=by simpa using h0
 have HEC:Hid (dx c.con=0):=h_ (by rw[<-eec];exact h0)
 clear h0 eec
 have HPK:Hid (∀w',ApB W c p h cs ps zs w'->w'.cell? ⟨W.heap.size+1,0,none⟩=some (.int .i64 p.kind)):=h_ fun w' a=>a.p.at (by rw[EPS.out];rfl)
 have pk:=HPK.out w2 HA2.out
 have HKD:=h_ hpk
 obtain⟨es,ees⟩:∃es:List Value,es=lvL (Mk.get effL p.kind):=⟨_,rfl⟩
 obtain⟨fd,efd⟩:∃fd,fd=(Mk.get effL p.kind).isSome:=⟨_,rfl⟩
 have HES:Hid (((Mk.get effL p.kind).map encE).getD (.agg zE.toArray)= .agg es.toArray):=h_ (by rw[ees];exact lvL_get _)
 have HFD:Hid ((Mk.get effL p.kind).isSome=fd):=h_ efd.symm
 have HEL:Hid (es.length=5):=h_ (by rw[ees];exact lvL_len _)
 have HE1:Hid (∀v∈es,v.oneCell'=true):=h_ (by rw[ees];exact lvL_one _)
 have EES:=h_ ees
 have HB2:Hid (W.heap.size+2<w2.heap.size):=h_ HA2.out.z.lt
 clear hpk ees efd
 go_wp2_with fail
 letI:Fre2.Rel:=⟨RelE w2.heap.size,RelE.refl,RelE.trans⟩
 refine Fre4.wp_region_free 10 [(0, .ind (fun m=> .map (some m)) (fun m w=>Mk.MapIs w nV bn encE m effL)),(7, .ind (fun x=> .pointer (some ⟨x,0,none⟩)) (fun x w=>w2.heap.size<=x/\TE w x)),(8, .det undef)]
  (fun w=>ApB W c p h cs ps zs w/\w2.heap.size<=w.heap.size) (CE w2.heap.size es) (by kernel_rfl) (by kernel_rfl) ?_ ⟨HA2.out.to (Below.refl _ _).drew HB2.out,Nat.le_refl _⟩ (fun w1 w3 h r=>⟨h.1.to (r.below h.2) HB2.out,Nat.le_trans h.2 r.size⟩)
  ⟨Nat.le_refl _,fun h=>(by cases h),fun _ z hz ht=>(by have h9:z<w2.heap.size:=TE.lt ht;omega),fun h=>(by cases h)⟩ (fun k d w hk hc=>hc.still ?_) ?_
 ·intro j mk r hf x w1 w3 hr rr
  simp only[Free.find]at hf
  repeat' split at hf
  all_goals first|(cases hf;done)|skip
  ·cases hf
   refine Mk.MapIs.keep hr (rr.same x (Mk.MapIs.lt hr) (.inr fun⟨cs,e⟩=> ?_))
   obtain⟨m1,m2,m3,_⟩:=hr
   rw[m3]at e;cases e
  ·cases hf
   exact⟨hr.1,rr.te _ hr.2⟩
 ·simp only[Free.find]at hk
  repeat' split at hk
  all_goals first|(cases hk;done)|skip
  refine⟨fun e=> ?_,fun e=> ?_⟩<;>(subst e;simp at*)
 simp only[List.take_succ_cons,List.take_zero]
 clear pk
 apply Fre4.chain_ind (by first|exact Free.wanted_of rfl rfl rfl|rfl) rfl
 ·intro d w' hd hc hB hA
  refine Fre4.opRun_call (f:=55) (args:= #[]) (by clear hB hA hc;go_simp<;>rfl) ?_
  refine(effects_any w').mono ?_
  rintro e w3 ⟨rfl,hm3,hb3,hs3⟩
  refine⟨_,rfl,RelE.of hb3,hc.grow hb3 (fun z hz hn=> ?_) ⟨by decide,by decide⟩,w'.heap.size,rfl,hm3⟩
  have hzl:=hn.lt
  have hzw:z=w'.heap.size:=by omega
  subst hzw
  obtain⟨m1,m2,m3,_⟩:=hm3
  obtain⟨cs,e⟩:=hn
  rw[m3]at e;cases e
 intro m
 simp only[Pt]
 iterate 2 (apply Fre4.chain_still (by first|exact Free.wanted_of rfl rfl rfl|rfl) rfl;(intro w' hB hA;have pk:=HPK.out w' hB.1;clear hA hB;go_light;go_simp<;>rfl);(try simp only[Pt]))
 apply Fre4.chain_still (by first|exact Free.wanted_of rfl rfl rfl|rfl) rfl
 ·intro w' hB hA
  have hm:Mk.MapIs w' nV bn encE m effL:=hA _ List.mem_cons_self (by kernel_rfl)
  exact exec_look2 rfl eC hm Tryz.underlying121 (zero_E w') HKD.out rfl rfl HES.out HFD.out
 simp only[Pt]
 iterate 3 (apply Fre4.chain_still (by first|exact Free.wanted_of rfl rfl rfl|rfl) rfl;(intro w' hB hA;clear hA hB;go_light;go_simp<;>rfl);(try simp only[Pt]))
 apply Fre4.chain_ind (by first|exact Free.wanted_of rfl rfl rfl|rfl) rfl
 ·intro d w' hd hc hB hA
  refine Fre4.opRun_of (v:= .pointer (some ⟨w'.heap.size,0,none⟩)) (w':=w'.alloc (.cells zE.toArray 119)) (by rw[<-zE_arr];clear hB hA hc;go_light;go_simp<;>rfl) ⟨RelE.of ((Below.refl _ _).alloc (Nat.le_refl _) _),hc.box hd,w'.heap.size,rfl,hc.bs,_,heap_alloc_new w' _⟩
 intro x
 simp only[Pt]
 apply Fre4.chain_det (by first|exact Free.wanted_of rfl rfl rfl|rfl) rfl
 ·intro d w' hd hc hB hA
  have hx:w2.heap.size<=x/\TE w' x:=hA _ List.mem_cons_self (by kernel_rfl)
  obtain⟨q1,q2,q3⟩:=hc.put hd hx.1 hx.2
  exact Fre4.opRun_skip (aY 119 (.tmp 8) (.tmp 28) rfl x es.toArray rfl rfl 119 zE.toArray q1 (by rw[info_E es HEL.out];simp) (by rw[List.size_toArray,List.size_toArray,HEL.out];rfl) (all_oneCell_toArray HE1.out)) ⟨q3,q2,rfl⟩
 simp only[Pt]
 iterate 1 (apply Fre4.chain_still (by first|exact Free.wanted_of rfl rfl rfl|rfl) rfl;(intro w' hB hA;clear hA hB;go_light;go_simp<;>rfl);(try simp only[Pt]))
 apply Fre4.chain_nil
 intro w3 hB3 hC3 hg3 hh
 have hx3:=hh _ List.mem_cons_self
 simp only at hx3
 have hr3:Row w3 x 119 es:=by
  obtain⟨y,y1,y2,y3⟩:=hC3.yes rfl
  have e:=y3 x hx3.1 hx3.2
  subst e
  exact y2
 simp only[List.drop_succ_cons,List.drop_zero,List.drop_nil]
 have HA3:=h_ hB3.1
 have HR3:=h_ hr3
 have HX3:Hid (W.heap.size+2<x):=h_ (Nat.lt_of_lt_of_le HB2.out hx3.1)
 have HB3:=h_ hB3.2
 clear hB3 hC3 hg3 hh hx3 hr3
 cases fd with
 |false=>
  have HN:Hid (bf c.con p=none):=h_ (by
   have he:=eff_map p.kind
   have hf:=HFD.out
   rw[Option.isSome_eq_false_iff,Option.isNone_iff_eq_none]at hf
   rw[hf]at he
   unfold bf
   rw[<-he];rfl)
  have HR2:=h_ (HA3.out).z
  have HBL:=h_ (HA3.out).below
  go_wp2_with (refine ai (.tmp 4) ?_;refine Hk.wpList_store_own rfl 27 (.tmp 4) (.tmp 39) rfl (W.heap.size+2) rfl zs (congrArg Value.agg HZ.out) zs 27 HR2.out HI.out rfl HZ1.out ?_;intro w9 h91 h92 h93;have H91:=h_ h91;have H92:=h_ h92;clear h91 h92 h93;simp only[Pt])
  refine bodyPost_ret (v:= .tuple #[.agg zs.toArray, .int .i64 1]) (Hk.results_cell_row_tmp (fn:=Tryz.f21) (p:=4) (u:=5) (ty:=27) rfl _ _ (W.heap.size+2) 27 zs.toArray (0,0) _ rfl H91.out Tryz.underlying27 rfl (by rw[HI.out];simp) rfl) rfl ?_
  exact FNO.out _ 1 (by decide) HN.out (HBL.out.trans (aj H92.out (fun g hg=>by injection hg with e;omega) HBL.out.size))
 |true=>
 obtain⟨⟨ef,fv⟩,hget⟩:=Option.isSome_iff_exists.1 HFD.out
 have HEO:Hid (gc p.kind=some ef):=h_ (by rw[<-eff_map,hget];rfl)
 have HE:Hid (es=gq ef fv):=h_ (by rw[EES.out,hget];rfl)
 have HGET:=h_ hget
 have HPAT3:Hid (∀w',Below W.heap.size W w'->PatAt w' p h):=h_ fun w' hb=>⟨HPAT.out.cl.below hb (Nat.le_refl _),HPAT.out.st.below hb (Nat.le_refl _)⟩
 obtain⟨FB,eFB⟩:∃FB,FB=dw c.kls.length p ef:=⟨_,rfl⟩
 have CF:=fits_any c p h ef fv w3 (HPAT3.out w3 HA3.out.below) HCL.out
 rw[<-ECS.out, <-EPS.out, <-HE.out, <-eFB]at CF
 have CF:=h_ CF
 have HMC:=h_ HA3.out.c.rg
 have HMP:=h_ HA3.out.p.rg
 have HME:=h_ HR3.out.rg
 have HIP:Hid ((Tryz.prog.info? 47).map (·.size)=some ps.length):=by show _=_;rw[EPS.out];kernel_rfl
 have HIE:=h_ (info_E es HEL.out)
 have EFB:=h_ eFB
 clear hget eFB
 go_wp2_with (first
  |(refine ae (.tmp 2) ?_;refine Row.still (by first|exact Free.wanted_of rfl rfl rfl|rfl) (Hk.exec_mid 27 (.tmp 2) rfl W.heap.size 0 rfl cs _ HMC.out Tryz.underlying27 rfl HIC.out) ?_;simp only[Pt])
  |(refine ae (.tmp 3) ?_;refine Row.still (by first|exact Free.wanted_of rfl rfl rfl|rfl) (Hk.exec_mid 47 (.tmp 3) rfl (W.heap.size+1) 0 rfl ps _ HMP.out Tryz.underlying47 rfl HIP.out) ?_;simp only[Pt])
  |(refine ae (.tmp 8) ?_;refine Row.still (by first|exact Free.wanted_of rfl rfl rfl|rfl) (Hk.exec_mid 119 (.tmp 8) rfl x 0 rfl es _ HME.out Tryz.underlying119 rfl HIE.out) ?_;simp only[Pt]))
 refine CF.out.mono ?_
 rintro e w4 ⟨rfl,hb4⟩
 have HA4:=h_ (HA3.out.grow hb4)
 have HR4:=h_ (HR3.out.below hb4 HR3.out.lt)
 clear CF HMC HMP HME hb4
 have HAP:Hid (∀(b:Bool),b=FB->bf c.con p=if b=true/\ ¬(p.kind=1/\c.kls.length=400)/\dx (c.con.after p)=0 then some (c.con.after p)else none):=h_ fun b hb=>by
  unfold bf
  rw[HEO.out,hb,EFB.out]
  simp only[HEC.out,true_and]
  rw[show c.con.cls.length=c.kls.length from List.length_map _]
 cases FB with
 |false=>
  have HN:Hid (bf c.con p=none):=h_ (by rw[HAP.out false rfl];exact if_neg (fun h=>by cases h.1))
  have HR2:=h_ (HA4.out).z
  have HBL:=h_ (HA4.out).below
  go_wp2_with (refine ai (.tmp 4) ?_;refine Hk.wpList_store_own rfl 27 (.tmp 4) (.tmp 39) rfl (W.heap.size+2) rfl zs (congrArg Value.agg HZ.out) zs 27 HR2.out HI.out rfl HZ1.out ?_;intro w9 h91 h92 h93;have H91:=h_ h91;have H92:=h_ h92;clear h91 h92 h93;simp only[Pt])
  refine bodyPost_ret (v:= .tuple #[.agg zs.toArray, .int .i64 1]) (Hk.results_cell_row_tmp (fn:=Tryz.f21) (p:=4) (u:=5) (ty:=27) rfl _ _ (W.heap.size+2) 27 zs.toArray (0,0) _ rfl H91.out Tryz.underlying27 rfl (by rw[HI.out];simp) rfl) rfl ?_
  exact FNO.out _ 1 (by decide) HN.out (HBL.out.trans (aj H92.out (fun g hg=>by injection hg with e;omega) HBL.out.size))
 |true=>
 have HLIM:Hid (c.kls.length<=400):=h_ (ci HEC.out).k
 have pk:=HPK.out w4 HA4.out
 have ck4:w4.cell? ⟨W.heap.size,4,none⟩=some (.slice c.kA c.kls.length c.kc):=HA4.out.c.at (by rw[ECS.out];rfl)
 obtain⟨l4,el4⟩:∃l4,l4=decide (p.kind=1/\c.kls.length=400):=⟨_,rfl⟩
 have HL4:=h_ el4
 clear el4
 cases l4 with
 |true=>
  have h41:=of_decide_eq_true HL4.out.symm
  have q1:(p.kind==1)=true:=by rw[h41.1];rfl
  have q2:((c.kls.length:Int)==400)=true:=by rw[h41.2];rfl
  have HN:Hid (bf c.con p=none):=h_ (by rw[HAP.out true rfl];exact if_neg (fun h=>h.2.1 h41))
  clear h41
  have HR2:=h_ (HA4.out).z
  have HBL:=h_ (HA4.out).below
  go_wp2_with (refine ai (.tmp 4) ?_;refine Hk.wpList_store_own rfl 27 (.tmp 4) (.tmp 49) rfl (W.heap.size+2) rfl zs (congrArg Value.agg HZ.out) zs 27 HR2.out HI.out rfl HZ1.out ?_;intro w9 h91 h92 h93;have H91:=h_ h91;have H92:=h_ h92;clear h91 h92 h93;simp only[Pt])
  refine bodyPost_ret (v:= .tuple #[.agg zs.toArray, .int .i64 3]) (Hk.results_cell_row_tmp (fn:=Tryz.f21) (p:=4) (u:=5) (ty:=27) rfl _ _ (W.heap.size+2) 27 zs.toArray (0,0) _ rfl H91.out Tryz.underlying27 rfl (by rw[HI.out];simp) rfl) rfl ?_
  exact FNO.out _ 3 (by decide) HN.out (HBL.out.trans (aj H92.out (fun g hg=>by injection hg with e;omega) HBL.out.size))
 |false=>
 have hnl:=of_decide_eq_false HL4.out.symm
 have hft:dw c.kls.length p ef=true:=EFB.out.symm
 have hdx:=do_fn (h:=h) HGET.out hft HCL.out HST.out
 have HOF:Hid (cA (c.kls.length:Int) (-1) p.cl=true):=h_ (by unfold dw at hft;simp only[Bool.and_eq_true]at hft;exact hft.2.1)
 clear hft
 have hdy:∃f,fv=fnV f/\DoFn p h f:=hdx
 clear hdx
 obtain⟨f,efv,hdo⟩:=hdy
 subst efv
 have HDO:=h_ hdo
 have HAP2:Hid (bf c.con p=if dx (c.con.after p)=0 then some (c.con.after p)else none):=h_ (by
  rw[HAP.out true rfl]
  by_cases h:dx (c.con.after p)=0
  ·rw[if_pos ⟨rfl,hnl,h⟩,if_pos h]
  ·rw[if_neg (fun hh=>h hh.2.2),if_neg h])
 have hmk:=made_kls c.kls.length (by have:=HLIM.out;omega) w4
 obtain⟨W5,e5⟩:∃W5,W5=w4.alloc (.cells (madeCells (aF (Cls.zero,(none,0))).toArray ((c.kls.length+1)*16)) 45):=⟨_,rfl⟩
 rw[<-e5]at hmk
 have HM5:Hid (CpL c w4.heap.size w4.heap.size 0 (List.replicate c.kls.length (Cls.zero,(none,0))) W5):=h_ (by rw[e5];exact CpL.made c w4 (by have:=HLIM.out;omega))
 have HB5:Hid (Below w4.heap.size w4 W5):=h_ (by rw[e5];exact(Below.refl _ _).alloc (Nat.le_refl _) _)
 have ck5:W5.cell? ⟨W.heap.size,4,none⟩=some (.slice c.kA c.kls.length c.kc):=(HA4.out.to HB5.out HA4.out.z.lt).c.at (by rw[ECS.out];rfl)
 have hw1:(c.kls.length:Int)+1<=401:=by have:=HLIM.out;omega
 clear e5 hdo HAP
 have qq:((p.kind==1)=true/\((c.kls.length:Int)==400)=false)\/(p.kind==1)=false:=by
  by_cases hk1:p.kind=1
  ·exact .inl ⟨by rw[hk1];rfl,by rw[beq_eq_false_iff_ne];intro e;exact hnl ⟨hk1,by omega⟩⟩
  ·exact .inr (by simpa using hk1)
 clear hnl
 rcases qq with⟨q1,q2⟩|q1
 all_goals
  go_wp2_with fail
  clear hmk ck4
  go_loopw [61] (fun v wr=> ∃(k:Nat) (kls:List Kl),v= .int .i64 (k:Int)/\k<=c.kls.length/\CpL c w4.heap.size w4.heap.size k kls wr/\Below w4.heap.size w4 wr) (fun v _=>(c.kls.length:Int).toNat- (RowKit.intOf v).toNat)
  case atStart=>exact⟨0,_,rfl,Nat.zero_le _,HM5.out,HB5.out⟩
  case round=>
   clear HM5 HB5
   obtain⟨k,kls,rfl,hk,hra,hbr⟩:=hrel
   have HAr:=h_ (HA4.out.to hbr HA4.out.z.lt)
   have HBr:=h_ hbr
   rcases Nat.lt_or_eq_of_le hk with hkl|hkl
   ·have hki:(k:Int)<(c.kls.length:Int):=by omega
    have hkb:(k:Int)+1<=9223372036854775807:=by have:=HLIM.out;omega
    obtain⟨y,ey⟩:∃y,c.kls[k]? =some y:=⟨_,List.getElem?_eq_getElem hkl⟩
    have hcr:=HCON.out.below HAr.out.below (Nat.le_refl _)
    have hsl:=hcr.k
    obtain⟨b,off,eK⟩:=aC hsl (by intro e;rw[e]at hkl;simp at hkl)
    rw[eK]at hsl⊢
    obtain⟨ys,eys⟩:∃ys,ys=aF y:=⟨_,rfl⟩
    have hyl:ys.length=16:=by rw[eys];rfl
    have HMY:Hid (wr.rangeAt b (off+k*16) ys):=h_ (by rw[eys];exact az hsl ey)
    have HIY:=h_ (eE ys hyl)
    obtain⟨W5,e5⟩:∃W5,W5=wr.alloc (.cells ys.toArray 45):=⟨_,rfl⟩
    have hb5:Below wr.heap.size wr W5:=by rw[e5];exact(Below.refl _ _).alloc (Nat.le_refl _) _
    have hr5:Row W5 wr.heap.size 45 ys:=by rw[e5];exact Row.new _ _ _
    have HST5:=h_ (Sel.store_box HIY.out (by rw[eys];exact cr y) 12 65 wr W5 _ rfl e5)
    have HM5:=h_ hr5.rg
    have hra5:=hra.below hb5
    have CC:=gd y W5 ((hcr.st y (List.mem_of_getElem? ey)).below hb5 (Nat.le_refl _)) (Nat.le_trans ((ci HEC.out).st y (List.mem_of_getElem? ey)) (by decide))
    rw[<-eys]at CC
    have CC:=h_ CC
    have HR5:=h_ hra5
    have HLW:Hid (w4.heap.size<=W5.heap.size/\Below w4.heap.size w4 W5):=h_ ⟨Nat.le_trans hbr.size hb5.size,hbr.trans (hb5.mono hbr.size)⟩
    have HYL:=h_ hyl
    have EY:=h_ ey
    clear hcr hsl eK eys hyl e5 hb5 hr5 hra5 hra hbr ey hk
    go_wp2_with (first
     |(refine ae (.tmp 64) ?_;refine wpList_load_mid rfl 45 (.tmp 64) rfl b (off+k*16) rfl ys _ HMY.out Tryz.underlying45 rfl HIY.out ?_)
     |(refine ai (.tmp 12) ?_;refine HST5.out _ _ _ _ _ rfl rfl rfl rfl _ (by simp[HYL.out]) ?_;simp only[Pt])
     |(refine ae (.tmp 12) ?_;refine wpList_load_mid rfl 45 (.tmp 12) rfl wr.heap.size 0 rfl ys _ HM5.out Tryz.underlying45 rfl HIY.out ?_))
    refine CC.out.mono ?_
    rintro e w6 ⟨A',c',rfl,ho6,hb6⟩
    have hra6:=HR5.out.below hb6
    have hnw:w6.ownsRow w4.heap.size 133 2 (.slice A' y.1.start.length c') y.1.start.length (y.1.start.flatMap ar):=ap ho6 HLW.out.1
    have hb46:Below w4.heap.size w4 w6:=HLW.out.2.trans (hb6.mono HLW.out.1)
    obtain⟨us,eus⟩:∃us,us=aF (y.1,(A',c')):=⟨_,rfl⟩
    have HSE:Hid (∀(Q:Exit->Act->World->Prop) (ops:Array Oper) (rest:List Oper) (o:Oper) (a:Act),o.guard=none->o.op= .store 45 (.tmp 70) (.tmp 69)->a.eval (.tmp 70)= .pointer (some ⟨w4.heap.size,k*16,none⟩)->a.eval (.tmp 69)= .agg us.toArray->(∀w9,Hid ((∃kls',CpL c w4.heap.size w4.heap.size (k+1) kls' w9)/\Below w4.heap.size w4 w9)->wpList Tryz.prog ops Q rest (a.put o.dst undef) w9)->wpList Tryz.prog ops Q (o::rest) a w6):=h_ (by
     intro Q ops rest o a hgd ho hx hy hK
     refine Sel.wpList_store_elem hgd 45 (.tmp 70) (.tmp 69) ho bP (fun k=>cr k) hra6.own.row k (by rw[hra6.len];exact hkl) (y.1,(A',c')) hx (by rw[hy,eus]) (by kernel_rfl) ?_
     intro w9 o9 g9 _
     exact hK w9 (h_ ⟨⟨_,hra6.next EY.out o9 g9 hnw⟩,hb46.trans (aj g9 (fun g hg=>Nat.le_of_eq (Option.some.inj hg)) hb46.size)⟩))
    have HUS:Hid ((aF (y.1,(A',c'))).toArray=us.toArray):=h_ (by rw[eus])
    rw[HUS.out]
    have hklen:kls.length=c.kls.length:=hra6.len
    clear ho6 hb6 hra6 hnw hb46 eus CC HR5 HUS hklen
    go_wp2_with (refine ai (.tmp 70) ?_;refine HSE.out _ _ _ _ _ rfl rfl rfl rfl ?_;intro w9 H9;simp only[Pt])
    go_roundw
    case rel=>
     obtain⟨⟨kls',h1⟩,h2⟩:=H9.out
     exact⟨k+1,kls',rfl,hkl,h1,h2⟩
    case measure=>simp[RowKit.intOf];omega
   ·have hki: ¬(k:Int)<(c.kls.length:Int):=by omega
    have hval:=hra.val
    rw[Sel.part_all _ _ (by rw[List.length_map];omega)]at hval
    have hown:=hra.own
    have hlen:=hra.len
    rw[hlen]at hown
    have hnn:c.kls.length<=4000:=by have:=HLIM.out;omega
    have hp4:∀w',Below w4.heap.size wr w'->PatAt w' p h:=fun w' hb=>HPAT3.out w' (HA4.out.below.trans ((HBr.out.trans hb).mono HA4.out.below.size))
    have CD:=HDO.out.run w4.heap.size _ kls wr HBr.out.size hown hp4 (by rw[hlen];exact hnn) (by rw[hlen];exact HOF.out)
    rw[<-EPS.out]at CD
    have CD:=h_ CD
    have hcf:=HDO.out.enter
    have HMP:=h_ HAr.out.p.rg
    have cx4:wr.cell? ⟨x,4,none⟩=some (.func (.func f) #[] #[]):=(HR4.out.below HBr.out HR4.out.lt).at (by rw[HE.out];rfl)
    have HVAL:=h_ hval
    have HLEN:=h_ hlen
    clear hra hbr hval hown hlen hnn hp4 hk hkl
    go_wp2_with (refine ae (.tmp 3) ?_;refine wpList_load_mid rfl 47 (.tmp 3) rfl (W.heap.size+1) 0 rfl ps _ HMP.out Tryz.underlying47 rfl HIP.out ?_)
    refine CD.out.mono ?_
    rintro e w7 ⟨v7,kls7,rfl,hk7,hm7,hl7,hb7⟩
    obtain⟨A7,k7,rfl⟩:=hk7.form
    have hA7:=HAr.out.to hb7 HA4.out.z.lt
    have c7:=hA7.c.at (show cs[4]? =some (.slice c.kA c.kls.length c.kc) by rw[ECS.out];rfl)
    have f7:=Blk.Blk.frozen hA7.c 4
    obtain⟨cM,ecM⟩:∃cM,cM=ConM.withK c kls7 A7 k7:=⟨_,rfl⟩
    obtain⟨c2,ec2⟩:∃c2,c2=ak cM:=⟨_,rfl⟩
    obtain⟨W8,e8⟩:∃W8,W8=w7.setCell ⟨W.heap.size,4,none⟩ (.slice A7 kls7.length k7):=⟨_,rfl⟩
    have hr8:Row W8 W.heap.size 27 c2:=by
     have h:=Blk.Blk.set hA7.c 4 (.slice A7 kls7.length k7)
     rw[ECS.out,set_K, <-ecM, <-ec2]at h
     rw[e8];exact h
    have hA8:ApB W c p h c2 ps zs W8:=by
     refine⟨hr8, ?_, ?_, ?_⟩
     ·rw[e8];exact Blk.Blk.set_ne hA7.p (a:=⟨W.heap.size,4,none⟩) (by show W.heap.size≠W.heap.size+1;omega) _
     ·rw[e8];exact Blk.Blk.set_ne hA7.z (a:=⟨W.heap.size,4,none⟩) (by show W.heap.size≠W.heap.size+2;omega) _
     ·rw[e8];exact hA7.below.trans (aq (a:=⟨W.heap.size,4,none⟩) (Nat.le_refl _) _)
    have hlo:W.heap.size<w4.heap.size:=HA4.out.c.lt
    have hk8:KlsOwn W8 w4.heap.size (.slice A7 kls7.length k7) kls7:=by
     rw[e8]
     exact⟨aD hk7.row hlo,fun q hq=>aD (hk7.st q hq) hlo⟩
    have hc0:=HCON.out.below hA8.below (Nat.le_refl _)
    have hcM:ConAt W8 cM:=by
     rw[ecM]
     exact⟨hc0.h,hc0.u,hc0.a,aW bP hk8.row,hc0.o,fun q hq=>aW (fun _=>rfl) (hk8.st q hq)⟩
    have hzM:ConSz cM:=by
     rw[ecM]
     have hz:=HSZ.out
     have hlk:kls7.length<=9223372036854775807:=by have:=HLIM.out;have:=HLEN.out;omega
     exact⟨hz.h,hz.u,hz.a,hlk,hz.o,hz.uc,fun q hq=>Nat.le_trans (bE (hk8.st q hq)).1 (bE (hk8.st q hq)).2⟩
    have hcon:cM.con=c.con.after p:=by
     rw[ecM]
     show(⟨c.parties,c.holders,c.units,c.acts,kls7.map Prod.fst,c.days,c.off⟩:Con)=_
     rw[hm7,HVAL.out];rfl
    have CV:=dJ cM W8 hcM hzM
    rw[<-ec2]at CV
    have CV:=h_ CV
    have HMC:=h_ hr8.rg
    have HIC2:=h_ (aK c2 (by rw[ec2];rfl))
    have HA8:=h_ hA8
    have HK8:=h_ hk8
    have HCM:=h_ hcM
    have HZM:=h_ hzM
    have HCN:=h_ hcon
    have EC2:=h_ ec2
    have ECM:=h_ ecM
    have E8:Hid (w7.setCell ⟨W.heap.size,4,none⟩ (.slice A7 kls7.length k7)=W8):=h_ e8.symm
    clear hk7 hm7 hl7 hb7 hA7 ecM ec2 e8 hr8 hA8 hlo hk8 hc0 hcM hzM hcon CD hcf HMP cx4
    go_wp2_with (first
     |(simp only[E8.out])
     |(refine ae (.tmp 2) ?_;refine wpList_load_mid rfl 27 (.tmp 2) rfl W.heap.size 0 rfl c2 _ HMC.out Tryz.underlying27 rfl HIC2.out ?_))
    refine CV.out.mono ?_
    rintro e w9 ⟨⟨ix9,rfl⟩,hb9⟩
    have HA9:=h_ (HA8.out.grow hb9)
    have HK9:=h_ (HK8.out.below hb9)
    obtain⟨ec,eec⟩:∃ec,ec=dx cM.con:=⟨_,rfl⟩
    rw[<-eec]
    clear CV HMC hb9
    by_cases h9:ec=0
    rotate_left
    ·have HN:Hid (bf c.con p=none):=h_ (by rw[HAP2.out,if_neg (by rw[<-HCN.out, <-eec];exact h9)])
     have q:(ec !=0)=true:=by simpa using h9
     clear h9 eec
     have HR2:=h_ (HA9.out).z
     have HBL:=h_ (HA9.out).below
     go_wp2_with (refine ai (.tmp 4) ?_;refine Hk.wpList_store_own rfl 27 (.tmp 4) (.tmp 85) rfl (W.heap.size+2) rfl zs (congrArg Value.agg HZ.out) zs 27 HR2.out HI.out rfl HZ1.out ?_;intro w9 h91 h92 h93;have H91:=h_ h91;have H92:=h_ h92;clear h91 h92 h93;simp only[Pt])
     refine bodyPost_ret (v:= .tuple #[.agg zs.toArray, .int .i64 1]) (Hk.results_cell_row_tmp (fn:=Tryz.f21) (p:=4) (u:=5) (ty:=27) rfl _ _ (W.heap.size+2) 27 zs.toArray (0,0) _ rfl H91.out Tryz.underlying27 rfl (by rw[HI.out];simp) rfl) rfl ?_
     exact FNO.out _ 1 (by decide) HN.out (HBL.out.trans (aj H92.out (fun g hg=>by injection hg with e;omega) HBL.out.size))
    have q:(ec !=0)=false:=by simpa using h9
    have HYES:Hid (bf c.con p=some (c.con.after p)):=h_ (by rw[HAP2.out,if_pos (by rw[<-HCN.out, <-eec];exact h9)])
    have hsh:ConShort cM:=ci (by rw[<-eec];exact h9)
    have HLH:Hid (c.holders.length<=100000):=h_ (by have:=hsh.h;rw[ECM.out]at this;exact Nat.le_trans this (by decide))
    have HLU:Hid (c.units.length<=100000):=h_ (by have:=hsh.u;rw[ECM.out]at this;exact Nat.le_trans this (by decide))
    have HLA:Hid (c.acts.length<=100000):=h_ (by have:=hsh.a;rw[ECM.out]at this;exact Nat.le_trans this (by decide))
    have HLO:Hid (c.off.length<=100000):=h_ (by have:=hsh.o;rw[ECM.out]at this;exact Nat.le_trans this (by decide))
    have HSH:=h_ hsh
    clear hsh
    clear h9 eec
    go_wp2_with fail
    have H10cb:Hid (∀w',Below w9.heap.size w9 w'->w'.cell? ⟨W.heap.size,1,none⟩=some (.slice c.hA c.holders.length c.hc)/\w'.cell? ⟨W.heap.size,2,none⟩=some (.slice c.uA c.units.length c.uc)/\SL w' 1 Cs.encI c.hA c.holders/\SL w' 5 cL c.uA c.units):=h_ fun w' hb=>by
     have a:=HA9.out.grow hb
     have hc:=HCON.out.below a.below (Nat.le_refl _)
     exact⟨a.c.at (by rw[EC2.out,ECM.out];rfl),a.c.at (by rw[EC2.out,ECM.out];rfl),hc.h,hc.u⟩
    refine Free.wp_region_free 7 [(2, .ind (fun x=> .slice (Sel.slN x).1 c.holders.length (Sel.slN x).2) (fun x w=>w.ownsRow w9.heap.size 3 1 (.slice (Sel.slN x).1 c.holders.length (Sel.slN x).2) c.holders.length (c.holders.flatMap Cs.encI))),(5, .ind (fun x=> .slice (Sel.slN x).1 c.units.length (Sel.slN x).2) (fun x w=>w.ownsRow w9.heap.size 96 5 (.slice (Sel.slN x).1 c.units.length (Sel.slN x).2) c.units.length (c.units.flatMap cL)))]
     (fun w'=>Below w9.heap.size w9 w') (by kernel_rfl) (by kernel_rfl) ?_ (Below.refl _ _).drew (fun w1 w2 h g=>h.trans (Below.mono g h.size)) ?_
    ·intro j mk r hf x w1 w2 hr rr
     simp only[Free.find]at hf
     repeat' split at hf
     all_goals first|(cases hf;done)|skip
     all_goals (cases hf;exact owns_keep hr fun g hg=>rr.block _ (owns_lt hr hg).2)
    simp only[List.take_succ_cons,List.take_zero]
    iterate 3 (first|(apply Free.chain_ind (by first|exact Free.wanted_of rfl rfl rfl|rfl) rfl;(intro w' hB hA;refine Free.opRun_call (f:=58) (args:= #[.slice c.hA c.holders.length c.hc]) (by clear hB hA;go_simp<;>rfl) ?_;refine(clI_any c.hA c.hc c.holders w' (H10cb.out w' hB).2.2.1 HLH.out).mono ?_;rintro e w3 ⟨A',c',rfl,ho3,hb3⟩;obtain⟨x,hx⟩:=Sel.slN_ex ho3;exact⟨_,rfl,hb3,x,by rw[hx],by rw[hx];exact ap ho3 hB.size⟩))|(apply Free.chain_still (by first|exact Free.wanted_of rfl rfl rfl|rfl) rfl;(intro w' hB hA;obtain⟨q1,q2,_,_⟩:=H10cb.out w' hB;clear hA hB;go_light;go_simp<;>rfl);(try simp only[Pt])))
    intro x10
    simp only[Pt]
    iterate 3 (first|(apply Free.chain_ind (by first|exact Free.wanted_of rfl rfl rfl|rfl) rfl;(intro w' hB hA;refine Free.opRun_call (f:=59) (args:= #[.slice c.uA c.units.length c.uc]) (by clear hB hA;go_simp<;>rfl) ?_;refine(clU_any c.uA c.uc c.units w' (H10cb.out w' hB).2.2.2 HLU.out).mono ?_;rintro e w3 ⟨A',c',rfl,ho3,hb3⟩;obtain⟨x,hx⟩:=Sel.slN_ex ho3;exact⟨_,rfl,hb3,x,by rw[hx],by rw[hx];exact ap ho3 hB.size⟩))|(apply Free.chain_still (by first|exact Free.wanted_of rfl rfl rfl|rfl) rfl;(intro w' hB hA;obtain⟨q1,q2,_,_⟩:=H10cb.out w' hB;clear hA hB;go_light;go_simp<;>rfl);(try simp only[Pt])))
    intro y10
    simp only[Pt]
    iterate 1 (apply Free.chain_still (by first|exact Free.wanted_of rfl rfl rfl|rfl) rfl;(intro w' hB hA;clear hA hB;go_light;go_simp<;>rfl);(try simp only[Pt]))
    apply Free.chain_nil
    intro w10 hb10 _ hh10
    have hy10:=hh10 _ List.mem_cons_self
    have hx10:=hh10 _ (List.mem_cons_of_mem _ List.mem_cons_self)
    simp only at hx10 hy10
    simp only[List.drop_succ_cons,List.drop_zero]
    have a10:=HA9.out.grow hb10
    obtain⟨q1,q2,_,_⟩:=H10cb.out w10 hb10
    have f1:=Blk.Blk.frozen a10.c 1
    have f2:=Blk.Blk.frozen a10.c 2
    obtain⟨cN,ecN⟩:∃cN,cN=ConM.withHU cM (Sel.slN x10) (Sel.slN y10):=⟨_,rfl⟩
    obtain⟨c3,ec3⟩:∃c3,c3=ak cN:=⟨_,rfl⟩
    obtain⟨W11,e11⟩:∃W11,W11=(w10.setCell ⟨W.heap.size,1,none⟩ (.slice (Sel.slN x10).1 c.holders.length (Sel.slN x10).2)).setCell ⟨W.heap.size,2,none⟩ (.slice (Sel.slN y10).1 c.units.length (Sel.slN y10).2):=⟨_,rfl⟩
    have hr11:Row W11 W.heap.size 27 c3:=by
     have h:=gy a10.c 1 2 (.slice (Sel.slN x10).1 c.holders.length (Sel.slN x10).2) (.slice (Sel.slN y10).1 c.units.length (Sel.slN y10).2)
     rw[e11,ec3,ecN]
     rw[EC2.out,ECM.out]at h
     rw[ECM.out]
     exact h
    have hA11:ApB W c p h c3 ps zs W11:=by
     refine⟨hr11, ?_, ?_, ?_⟩
     ·rw[e11];exact gH a10.p (by omega) _ _ _ _
     ·rw[e11];exact gH a10.z (by omega) _ _ _ _
     ·rw[e11];exact(a10.below.trans (aq (a:=⟨W.heap.size,1,none⟩) (Nat.le_refl _) _)).trans (aq (a:=⟨W.heap.size,2,none⟩) (Nat.le_refl _) _)
    have hlo4:W.heap.size<w4.heap.size:=HA4.out.c.lt
    have hlo9:W.heap.size<w9.heap.size:=HA9.out.c.lt
    have hk11:KlsOwn W11 w4.heap.size (.slice A7 kls7.length k7) kls7:=by
     rw[e11]
     have h:=HK9.out.below hb10
     exact⟨aD (aD h.row hlo4) hlo4,fun q hq=>aD (aD (h.st q hq) hlo4) hlo4⟩
    have hx11:=aD (k:=2) (u:= .slice (Sel.slN y10).1 c.units.length (Sel.slN y10).2) (aD (k:=1) (u:= .slice (Sel.slN x10).1 c.holders.length (Sel.slN x10).2) hx10 hlo9) hlo9
    have hy11:=aD (k:=2) (u:= .slice (Sel.slN y10).1 c.units.length (Sel.slN y10).2) (aD (k:=1) (u:= .slice (Sel.slN x10).1 c.holders.length (Sel.slN x10).2) hy10 hlo9) hlo9
    rw[<-e11]at hx11 hy11
    have E11:Hid ((w10.setCell ⟨W.heap.size,1,none⟩ (.slice (Sel.slN x10).1 c.holders.length (Sel.slN x10).2)).setCell ⟨W.heap.size,2,none⟩ (.slice (Sel.slN y10).1 c.units.length (Sel.slN y10).2)=W11):=h_ e11.symm
    have HA11:=h_ hA11
    have HK11:=h_ hk11
    have HX11:=h_ hx11
    have HY11:=h_ hy11
    have EC3:=h_ ec3
    have ECN:=h_ ecN
    clear ec3 ecN e11 hr11 hA11 hk11 hx11 hy11 hx10 hy10 a10 hh10 hb10 hlo4 hlo9
    go_wp2_with fail
    rw[E11.out]
    clear q1 q2 f1 f2
    have H12cb:Hid (∀w',Below W11.heap.size W11 w'->w'.cell? ⟨W.heap.size,3,none⟩=some (.slice c.aA c.acts.length c.ac)/\w'.cell? ⟨W.heap.size,6,none⟩=some (.slice c.oA c.off.length c.oc)/\SL w' 7 cP c.aA c.acts/\SL w' 1 Cs.encI c.oA c.off):=h_ fun w' hb=>by
     have a:=HA11.out.grow hb
     have hc:=HCON.out.below a.below (Nat.le_refl _)
     exact⟨a.c.at (by rw[EC3.out,ECN.out,ECM.out];rfl),a.c.at (by rw[EC3.out,ECN.out,ECM.out];rfl),hc.a,hc.o⟩
    refine Free.wp_region_free 7 [(2, .ind (fun x=> .slice (Sel.slN x).1 c.acts.length (Sel.slN x).2) (fun x w=>w.ownsRow W11.heap.size 98 7 (.slice (Sel.slN x).1 c.acts.length (Sel.slN x).2) c.acts.length (c.acts.flatMap cP))),(5, .ind (fun x=> .slice (Sel.slN x).1 c.off.length (Sel.slN x).2) (fun x w=>w.ownsRow W11.heap.size 3 1 (.slice (Sel.slN x).1 c.off.length (Sel.slN x).2) c.off.length (c.off.flatMap Cs.encI)))]
     (fun w'=>Below W11.heap.size W11 w') (by kernel_rfl) (by kernel_rfl) ?_ (Below.refl _ _).drew (fun w1 w2 h g=>h.trans (Below.mono g h.size)) ?_
    ·intro j mk r hf x w1 w2 hr rr
     simp only[Free.find]at hf
     repeat' split at hf
     all_goals first|(cases hf;done)|skip
     all_goals (cases hf;exact owns_keep hr fun g hg=>rr.block _ (owns_lt hr hg).2)
    simp only[List.take_succ_cons,List.take_zero]
    iterate 3 (first|(apply Free.chain_ind (by first|exact Free.wanted_of rfl rfl rfl|rfl) rfl;(intro w' hB hA;refine Free.opRun_call (f:=60) (args:= #[.slice c.aA c.acts.length c.ac]) (by clear hB hA;go_simp<;>rfl) ?_;refine(clA_any c.aA c.ac c.acts w' (H12cb.out w' hB).2.2.1 HLA.out).mono ?_;rintro e w3 ⟨A',c',rfl,ho3,hb3⟩;obtain⟨x,hx⟩:=Sel.slN_ex ho3;exact⟨_,rfl,hb3,x,by rw[hx],by rw[hx];exact ap ho3 hB.size⟩))|(apply Free.chain_still (by first|exact Free.wanted_of rfl rfl rfl|rfl) rfl;(intro w' hB hA;obtain⟨q1,q2,_,_⟩:=H12cb.out w' hB;clear hA hB;go_light;go_simp<;>rfl);(try simp only[Pt])))
    intro x12
    simp only[Pt]
    iterate 3 (first|(apply Free.chain_ind (by first|exact Free.wanted_of rfl rfl rfl|rfl) rfl;(intro w' hB hA;refine Free.opRun_call (f:=58) (args:= #[.slice c.oA c.off.length c.oc]) (by clear hB hA;go_simp<;>rfl) ?_;refine(clI_any c.oA c.oc c.off w' (H12cb.out w' hB).2.2.2 HLO.out).mono ?_;rintro e w3 ⟨A',c',rfl,ho3,hb3⟩;obtain⟨x,hx⟩:=Sel.slN_ex ho3;exact⟨_,rfl,hb3,x,by rw[hx],by rw[hx];exact ap ho3 hB.size⟩))|(apply Free.chain_still (by first|exact Free.wanted_of rfl rfl rfl|rfl) rfl;(intro w' hB hA;obtain⟨q1,q2,_,_⟩:=H12cb.out w' hB;clear hA hB;go_light;go_simp<;>rfl);(try simp only[Pt])))
    intro y12
    simp only[Pt]
    iterate 1 (apply Free.chain_still (by first|exact Free.wanted_of rfl rfl rfl|rfl) rfl;(intro w' hB hA;clear hA hB;go_light;go_simp<;>rfl);(try simp only[Pt]))
    apply Free.chain_nil
    intro w12 hb12 _ hh12
    have hy12:=hh12 _ List.mem_cons_self
    have hx12:=hh12 _ (List.mem_cons_of_mem _ List.mem_cons_self)
    simp only at hx12 hy12
    simp only[List.drop_succ_cons,List.drop_zero]
    have a12:=HA11.out.grow hb12
    obtain⟨q1,q2,_,_⟩:=H12cb.out w12 hb12
    have f1:=Blk.Blk.frozen a12.c 3
    have f2:=Blk.Blk.frozen a12.c 6
    obtain⟨cO,ecO⟩:∃cO,cO=ConM.withAO cN (Sel.slN x12) (Sel.slN y12):=⟨_,rfl⟩
    obtain⟨c4,ec4⟩:∃c4,c4=ak cO:=⟨_,rfl⟩
    obtain⟨W13,e13⟩:∃W13,W13=(w12.setCell ⟨W.heap.size,3,none⟩ (.slice (Sel.slN x12).1 c.acts.length (Sel.slN x12).2)).setCell ⟨W.heap.size,6,none⟩ (.slice (Sel.slN y12).1 c.off.length (Sel.slN y12).2):=⟨_,rfl⟩
    have hr13:Row W13 W.heap.size 27 c4:=by
     have h:=gy a12.c 3 6 (.slice (Sel.slN x12).1 c.acts.length (Sel.slN x12).2) (.slice (Sel.slN y12).1 c.off.length (Sel.slN y12).2)
     rw[e13,ec4,ecO]
     rw[EC3.out,ECN.out,ECM.out]at h
     rw[ECN.out,ECM.out]
     exact h
    have hz13:Row W13 (W.heap.size+2) 27 zs:=by rw[e13];exact gH a12.z (by omega) _ _ _ _
    have hbl13:Below W.heap.size W W13:=by rw[e13];exact(a12.below.trans (aq (a:=⟨W.heap.size,3,none⟩) (Nat.le_refl _) _)).trans (aq (a:=⟨W.heap.size,6,none⟩) (Nat.le_refl _) _)
    have hlo4:W.heap.size+2<w4.heap.size:=HA4.out.z.lt
    have hlo9:W.heap.size+2<w9.heap.size:=HA9.out.z.lt
    have hlo11:W.heap.size+2<W11.heap.size:=HA11.out.z.lt
    have set13:∀ {lo n sz:Nat} {T:TypeId} {v:Value} {xs:List Value},W.heap.size+2<lo->w12.ownsRow lo T sz v n xs->W13.ownsRow lo T sz v n xs:=fun {lo n sz T v xs} hl h=>by
     rw[e13];exact aD (aD h (by omega)) (by omega)
    have hk13:KlsOwn W13 w4.heap.size (.slice A7 kls7.length k7) kls7:=by
     have h:=HK11.out.below hb12
     exact⟨set13 hlo4 h.row,fun q hq=>set13 hlo4 (h.st q hq)⟩
    have keep12:∀ {lo n sz:Nat} {T:TypeId} {v:Value} {xs:List Value},W11.ownsRow lo T sz v n xs->w12.ownsRow lo T sz v n xs:=fun {lo n sz T v xs} h=>owns_keep h fun g hg=>hb12.block _ (owns_lt h hg).2
    have hx13:=set13 hlo9 (keep12 HX11.out)
    have hy13:=set13 hlo9 (keep12 HY11.out)
    have hu13:=set13 hlo11 hx12
    have hv13:=set13 hlo11 hy12
    have HFY:Hid (∀w',W13.grownBy w' (some (W.heap.size+2))->R (.returned (.tuple #[.agg (ak cO).toArray, .int .i64 0])) w'):=h_ fun w' hg=>by
     have k13:∀ {lo n sz:Nat} {T:TypeId} {v:Value} {xs:List Value},W.heap.size+2<lo->W13.ownsRow lo T sz v n xs->w'.ownsRow lo T sz v n xs:=fun {lo n sz T v xs} hl h=>owns_keep h fun g hgg=>hg.block g (owns_lt h hgg).2 fun e=>by
      have:=(owns_lt h hgg).1
      injection e with e
      omega
     refine FYES.out w' cO ?_ ?_ (hbl13.trans (aj hg (fun g hg=>by injection hg with e;omega) hbl13.size))
     ·rw[HYES.out, <-HCN.out,ecO,ECN.out];rfl
     ·rw[ecO,ECN.out,ECM.out]
      exact⟨ap (k13 hlo9 hx13) (by omega),ap (k13 hlo9 hy13) (by omega),ap (k13 hlo11 hu13) (by omega),ap (k13 hlo4 hk13.row) (by omega),ap (k13 hlo11 hv13) (by omega),fun q hq=>ap (k13 hlo4 (hk13.st q hq)) (by omega)⟩
    have HM13:=h_ hr13.rg
    have HZ13:=h_ hz13
    have HI4:=h_ (aK c4 (by rw[ec4];rfl))
    have H14:Hid (∀v∈c4,v.oneCell'=true):=h_ (by rw[ec4];exact aX _)
    have EC4:=h_ ec4
    have E13:Hid ((w12.setCell ⟨W.heap.size,3,none⟩ (.slice (Sel.slN x12).1 c.acts.length (Sel.slN x12).2)).setCell ⟨W.heap.size,6,none⟩ (.slice (Sel.slN y12).1 c.off.length (Sel.slN y12).2)=W13):=h_ e13.symm
    clear ec4 ecO e13 hr13 hz13 hbl13 hlo4 hlo9 hlo11 set13 hk13 keep12 hx13 hy13 hu13 hv13 hx12 hy12 a12 hh12 hb12
    go_wp2_with (first
     |(simp only[E13.out])
     |(refine ae (.tmp 2) ?_;refine wpList_load_mid rfl 27 (.tmp 2) rfl W.heap.size 0 rfl c4 _ HM13.out Tryz.underlying27 rfl HI4.out ?_)
     |(refine ai (.tmp 4) ?_;refine Hk.wpList_store_own rfl 27 (.tmp 4) (.tmp 102) rfl (W.heap.size+2) rfl c4 rfl zs 27 HZ13.out HI4.out (by rw[EC4.out,EZS.out];rfl) H14.out ?_;intro w15 h15a h15b h15c;have H15a:=h_ h15a;have H15b:=h_ h15b;clear h15a h15b h15c;simp only[Pt]))
    refine bodyPost_ret (v:= .tuple #[.agg c4.toArray, .int .i64 0]) (Hk.results_cell_row_tmp (fn:=Tryz.f21) (p:=4) (u:=5) (ty:=27) rfl _ _ (W.heap.size+2) 27 c4.toArray (0,0) _ rfl H15a.out Tryz.underlying27 rfl (by rw[HI4.out];simp) rfl) rfl ?_
    rw[EC4.out]
    exact HFY.out _ H15b.out
end Go.Proofs.YtekfoaenomgjgaaGreatDoor
