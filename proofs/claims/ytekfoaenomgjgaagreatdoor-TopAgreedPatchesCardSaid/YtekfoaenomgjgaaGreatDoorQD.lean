/- Package version: a contract copied. Condition: the contract is valid, and lies in memory. Package version: check. Condition: the contract lies in memory. Package version: what InForce keeps from round to round. No condition. -/
import Derived.Test.YtekfoaenomgjgaaGreatDoorCvU
import Derived.Test.YtekfoaenomgjgaaGreatDoorZD
import Derived.Test.YtekfoaenomgjgaaGreatDoorCvS
set_option maxRecDepth 100000
set_option linter.all false
namespace Go.Proofs.YtekfoaenomgjgaaGreatDoor
open Go.RowKit Go.W32 Go.Blk Go.Cs Go.Lib Go.Opn Go.Mg Go.Cv
structure VcB (W:World) (cs zs:List Value) (w:World):Prop where
 c:Row w W.heap.size 27 cs
 z:Row w (W.heap.size+1) 27 zs
 below:Below W.heap.size W w
theorem VcB.grow{W w w':World}{cs zs:List Value}(a:VcB W cs zs w)(hb:Below w.heap.size w w'):VcB W cs zs w':=
 ⟨a.c.below hb a.c.lt,a.z.below hb a.z.lt,a.below.trans (hb.mono a.below.size)⟩
theorem VcB.to{W w w':World}{cs zs:List Value}{B:Nat}(a:VcB W cs zs w)(hb:Below B w w')(hB:W.heap.size+1<B):VcB W cs zs w':=
 ⟨a.c.below hb (by omega),a.z.below hb hB,a.below.trans (hb.mono (by omega))⟩
def CopPost(c:ConM)(W:World)(e:Ending)(w':World):Prop:=
 Below W.heap.size W w'/\∃c':ConM,e= .returned (.agg (ak c').toArray)/\c'.con=c.con/\ConOw W.heap.size w' c'
structure VL (c:ConM) (W:World) (lo:Nat) (A:Option Addr) (cap k:Nat) (kls:List Kl) (w:World):Prop where
 row:w.ownsRow lo 45 16 (.slice A kls.length cap) kls.length (kls.flatMap aF)
 val:kls.map Prod.fst=c.kls.map Prod.fst
 new:∀j q,j<k->kls[j]? =some q->w.ownsRow lo 133 2 (.slice q.2.1 q.1.start.length q.2.2) q.1.start.length (q.1.start.flatMap ar)
 old:∀j,k<=j->kls[j]? =c.kls[j]?
theorem VL.below{c:ConM}{W w w':World}{lo cap k:Nat}{A:Option Addr}{kls:List Kl}(h:VL c W lo A cap k kls w)(hb:Below w.heap.size w w'):VL c W lo A cap k kls w':=
 ⟨owns_keep h.row fun g hg=>hb.block _ (owns_lt h.row hg).2,h.val,fun j q hj hq=>owns_keep (h.new j q hj hq) fun g hg=>hb.block _ (owns_lt (h.new j q hj hq) hg).2,h.old⟩
theorem VL.next{c:ConM}{W w w':World}{lo g cap k:Nat}{kls:List Kl}{y:Kl}{x:Option Addr×Nat}(h:VL c W lo (some ⟨g,0,none⟩) cap k kls w)(hy:kls[k]? =some y)
  (hr:w'.ownsRow lo 45 16 (.slice (some ⟨g,0,none⟩) kls.length cap) kls.length ((kls.set k (y.1,x)).flatMap aF)) (hg:w.grownBy w' (some g))
  (hn:w.ownsRow lo 133 2 (.slice x.1 y.1.start.length x.2) y.1.start.length (y.1.start.flatMap ar)):VL c W lo (some ⟨g,0,none⟩) cap (k+1) (kls.set k (y.1,x)) w':=by
 have hkl:=(List.getElem?_eq_some_iff.1 hy).1
 have keep:∀ {q:Kl},w.ownsRow lo 133 2 (.slice q.2.1 q.1.start.length q.2.2) q.1.start.length (q.1.start.flatMap ar)->w'.ownsRow lo 133 2 (.slice q.2.1 q.1.start.length q.2.2) q.1.start.length (q.1.start.flatMap ar):=fun {q} hq=>
  owns_keep hq fun j hj=>hg.block j (owns_lt hq hj).2 fun e=>cv hq h.row (by decide) hj e.symm
 refine⟨by rw[List.length_set];exact hr, ?_,fun j q hj hq=> ?_,fun j hj=> ?_⟩
 ·rw[List.map_set, <-h.val]
  exact Sel.set_same (by rw[List.getElem?_map,hy];rfl)
 ·rw[List.getElem?_set]at hq
  by_cases hjk:k=j
  ·subst hjk
   simp only[if_pos,hkl,if_true]at hq
   injection hq with hq
   subst hq
   exact keep (q:=(y.1,x)) hn
  ·rw[if_neg hjk]at hq
   exact keep (h.new j q (by omega) hq)
 ·rw[List.getElem?_set,if_neg (by omega)]
  exact h.old j (by omega)
set_option maxHeartbeats 8000000 in
theorem vcop_any(c:ConM)(W:World)(hc:ConAt W c)(hz:ConSz c)(hs:ConShort c):Calls Tryz.prog 26 #[.agg (ak c).toArray] W (CopPost c W):=by
 obtain⟨R,eR⟩:∃R,R=CopPost c W:=⟨_,rfl⟩
 rw[<-eR]
 obtain⟨cs,ecs⟩:∃cs,cs=ak c:=⟨_,rfl⟩
 obtain⟨zs,ezs⟩:∃zs,zs=ak gF:=⟨_,rfl⟩
 have FIN:Hid (∀w' c',c'.con=c.con->ConOw W.heap.size w' c'->Below W.heap.size W w'->R (.returned (.agg (ak c').toArray)) w'):=h_ fun w' c' h1 h2 hb=>by
  rw[eR];exact⟨hb,c',rfl,h1,h2⟩
 clear eR
 obtain⟨W1,e1⟩:∃W1,W1=(W.alloc (.cells cs.toArray 27)).alloc (.cells zs.toArray 27):=⟨_,rfl⟩
 have s1:(W.alloc (.cells cs.toArray 27)).heap.size=W.heap.size+1:=by simp
 have hA:VcB W cs zs W1:=by
  rw[e1]
  refine⟨(Row.new W 27 cs).alloc _, ?_,((Below.refl _ _).alloc (Nat.le_refl _) _).alloc (by simp) _⟩
  rw[<-s1];exact Row.new _ 27 zs
 have HZ:Hid ((#[.int .i64 0, .slice none 0 0, .slice none 0 0, .slice none 0 0, .slice none 0 0, .int .i64 0, .slice none 0 0]:Array Value)=zs.toArray):=h_ (by rw[ezs];rfl)
 have E1:Hid ((W.alloc (.cells cs.toArray 27)).alloc (.cells #[.int .i64 0, .slice none 0 0, .slice none 0 0, .slice none 0 0, .slice none 0 0, .int .i64 0, .slice none 0 0] 27)=W1):=h_ (by rw[HZ.out];exact e1.symm)
 have HLH:Hid (c.holders.length<=100000):=h_ (Nat.le_trans hs.h (by decide))
 have HLU:Hid (c.units.length<=100000):=h_ (Nat.le_trans hs.u (by decide))
 have HLA:Hid (c.acts.length<=100000):=h_ (Nat.le_trans hs.a (by decide))
 have HLO:Hid (c.off.length<=100000):=h_ (Nat.le_trans hs.o (by decide))
 have HA1:=h_ hA
 have ECS:=h_ ecs
 have EZS:=h_ ezs
 have HCON:=h_ hc
 have HSZ:=h_ hz
 have HSH:=h_ hs
 rw[<-ecs]
 clear e1 s1 hA ecs ezs hc hz hs
 go_enter Tryz.func26,Tryz.ntmps26
 go_wp2_with fail
 rw[E1.out]
 have H3cb:Hid (∀w',Below W1.heap.size W1 w'->w'.cell? ⟨W.heap.size,1,none⟩=some (.slice c.hA c.holders.length c.hc)/\w'.cell? ⟨W.heap.size,2,none⟩=some (.slice c.uA c.units.length c.uc)/\SL w' 1 Cs.encI c.hA c.holders/\SL w' 5 cL c.uA c.units):=h_ fun w' hb=>by
  have a:=HA1.out.grow hb
  have hc:=HCON.out.below a.below (Nat.le_refl _)
  exact⟨a.c.at (by rw[ECS.out];rfl),a.c.at (by rw[ECS.out];rfl),hc.h,hc.u⟩
 refine Free.wp_region_free 7 [(2, .ind (fun x=> .slice (Sel.slN x).1 c.holders.length (Sel.slN x).2) (fun x w=>w.ownsRow W1.heap.size 3 1 (.slice (Sel.slN x).1 c.holders.length (Sel.slN x).2) c.holders.length (c.holders.flatMap Cs.encI))),(5, .ind (fun x=> .slice (Sel.slN x).1 c.units.length (Sel.slN x).2) (fun x w=>w.ownsRow W1.heap.size 96 5 (.slice (Sel.slN x).1 c.units.length (Sel.slN x).2) c.units.length (c.units.flatMap cL)))]
  (fun w'=>Below W1.heap.size W1 w') (by kernel_rfl) (by kernel_rfl) ?_ (Below.refl _ _).drew (fun w1 w2 h g=>h.trans (Below.mono g h.size)) ?_
 ·intro j mk r hf x w1 w2 hr rr
  simp only[Free.find]at hf
  repeat' split at hf
  all_goals first|(cases hf;done)|skip
  all_goals (cases hf;exact owns_keep hr fun g hg=>rr.block _ (owns_lt hr hg).2)
 simp only[List.take_succ_cons,List.take_zero]
 iterate 2 (apply Free.chain_still (by first|exact Free.wanted_of rfl rfl rfl|rfl) rfl;(intro w' hB hA;obtain⟨q1,q2,_,_⟩:=H3cb.out w' hB;clear hA hB;go_light;go_simp<;>rfl);(try simp only[Pt]))
 apply Free.chain_ind (by first|exact Free.wanted_of rfl rfl rfl|rfl) rfl
 ·intro w' hB hA
  refine Free.opRun_call (f:=58) (args:= #[.slice c.hA c.holders.length c.hc]) (by clear hB hA;go_simp<;>rfl) ?_
  refine(clI_any c.hA c.hc c.holders w' (H3cb.out w' hB).2.2.1 HLH.out).mono ?_
  rintro e w3 ⟨A',c',rfl,ho3,hb3⟩
  obtain⟨x,hx⟩:=Sel.slN_ex ho3
  exact⟨_,rfl,hb3,x,by rw[hx],by rw[hx];exact ap ho3 hB.size⟩
 intro x3
 simp only[Pt]
 iterate 2 (apply Free.chain_still (by first|exact Free.wanted_of rfl rfl rfl|rfl) rfl;(intro w' hB hA;obtain⟨q1,q2,_,_⟩:=H3cb.out w' hB;clear hA hB;go_light;go_simp<;>rfl);(try simp only[Pt]))
 apply Free.chain_ind (by first|exact Free.wanted_of rfl rfl rfl|rfl) rfl
 ·intro w' hB hA
  refine Free.opRun_call (f:=59) (args:= #[.slice c.uA c.units.length c.uc]) (by clear hB hA;go_simp<;>rfl) ?_
  refine(clU_any c.uA c.uc c.units w' (H3cb.out w' hB).2.2.2 HLU.out).mono ?_
  rintro e w3 ⟨A',c',rfl,ho3,hb3⟩
  obtain⟨x,hx⟩:=Sel.slN_ex ho3
  exact⟨_,rfl,hb3,x,by rw[hx],by rw[hx];exact ap ho3 hB.size⟩
 intro y3
 simp only[Pt]
 iterate 1 (apply Free.chain_still (by first|exact Free.wanted_of rfl rfl rfl|rfl) rfl;(intro w' hB hA;clear hA hB;go_light;go_simp<;>rfl);(try simp only[Pt]))
 apply Free.chain_nil
 intro w3 hb3 _ hh3
 have hy3:=hh3 _ List.mem_cons_self
 have hx3:=hh3 _ (List.mem_cons_of_mem _ List.mem_cons_self)
 simp only at hx3 hy3
 simp only[List.drop_succ_cons,List.drop_zero]
 have a3:=HA1.out.grow hb3
 obtain⟨q1,q2,_,_⟩:=H3cb.out w3 hb3
 have f1:=Blk.Blk.frozen a3.c 1
 have f2:=Blk.Blk.frozen a3.c 2
 obtain⟨cN,ecN⟩:∃cN,cN=ConM.withHU c (Sel.slN x3) (Sel.slN y3):=⟨_,rfl⟩
 obtain⟨c3,ec3⟩:∃c3,c3=ak cN:=⟨_,rfl⟩
 obtain⟨W4,e4⟩:∃W4,W4=(w3.setCell ⟨W.heap.size,1,none⟩ (.slice (Sel.slN x3).1 c.holders.length (Sel.slN x3).2)).setCell ⟨W.heap.size,2,none⟩ (.slice (Sel.slN y3).1 c.units.length (Sel.slN y3).2):=⟨_,rfl⟩
 have hA4:VcB W c3 zs W4:=by
  refine⟨?_, ?_, ?_⟩
  ·have h:=gy a3.c 1 2 (.slice (Sel.slN x3).1 c.holders.length (Sel.slN x3).2) (.slice (Sel.slN y3).1 c.units.length (Sel.slN y3).2)
   rw[e4,ec3,ecN]
   rw[ECS.out]at h
   exact h
  ·rw[e4];exact gH a3.z (by omega) _ _ _ _
  ·rw[e4];exact(a3.below.trans (aq (a:=⟨W.heap.size,1,none⟩) (Nat.le_refl _) _)).trans (aq (a:=⟨W.heap.size,2,none⟩) (Nat.le_refl _) _)
 have hlo1:W.heap.size<W1.heap.size:=HA1.out.c.lt
 have HX4:Hid (W4.ownsRow W1.heap.size 3 1 (.slice (Sel.slN x3).1 c.holders.length (Sel.slN x3).2) c.holders.length (c.holders.flatMap Cs.encI)):=h_ (by rw[e4];exact aD (aD hx3 hlo1) hlo1)
 have HY4:Hid (W4.ownsRow W1.heap.size 96 5 (.slice (Sel.slN y3).1 c.units.length (Sel.slN y3).2) c.units.length (c.units.flatMap cL)):=h_ (by rw[e4];exact aD (aD hy3 hlo1) hlo1)
 have E4:Hid ((w3.setCell ⟨W.heap.size,1,none⟩ (.slice (Sel.slN x3).1 c.holders.length (Sel.slN x3).2)).setCell ⟨W.heap.size,2,none⟩ (.slice (Sel.slN y3).1 c.units.length (Sel.slN y3).2)=W4):=h_ e4.symm
 have HA4:=h_ hA4
 have EC3:=h_ ec3
 have ECN:=h_ ecN
 clear ec3 ecN e4 hA4 hx3 hy3 a3 hh3 hb3 hlo1
 go_wp2_with fail
 rw[E4.out]
 clear q1 q2 f1 f2
 have H5cb:Hid (∀w',Below W4.heap.size W4 w'->w'.cell? ⟨W.heap.size,3,none⟩=some (.slice c.aA c.acts.length c.ac)/\w'.cell? ⟨W.heap.size,6,none⟩=some (.slice c.oA c.off.length c.oc)/\SL w' 7 cP c.aA c.acts/\SL w' 1 Cs.encI c.oA c.off):=h_ fun w' hb=>by
  have a:=HA4.out.grow hb
  have hc:=HCON.out.below a.below (Nat.le_refl _)
  exact⟨a.c.at (by rw[EC3.out,ECN.out];rfl),a.c.at (by rw[EC3.out,ECN.out];rfl),hc.a,hc.o⟩
 refine Free.wp_region_free 7 [(2, .ind (fun x=> .slice (Sel.slN x).1 c.acts.length (Sel.slN x).2) (fun x w=>w.ownsRow W4.heap.size 98 7 (.slice (Sel.slN x).1 c.acts.length (Sel.slN x).2) c.acts.length (c.acts.flatMap cP))),(5, .ind (fun x=> .slice (Sel.slN x).1 c.off.length (Sel.slN x).2) (fun x w=>w.ownsRow W4.heap.size 3 1 (.slice (Sel.slN x).1 c.off.length (Sel.slN x).2) c.off.length (c.off.flatMap Cs.encI)))]
  (fun w'=>Below W4.heap.size W4 w') (by kernel_rfl) (by kernel_rfl) ?_ (Below.refl _ _).drew (fun w1 w2 h g=>h.trans (Below.mono g h.size)) ?_
 ·intro j mk r hf x w1 w2 hr rr
  simp only[Free.find]at hf
  repeat' split at hf
  all_goals first|(cases hf;done)|skip
  all_goals (cases hf;exact owns_keep hr fun g hg=>rr.block _ (owns_lt hr hg).2)
 simp only[List.take_succ_cons,List.take_zero]
 iterate 2 (apply Free.chain_still (by first|exact Free.wanted_of rfl rfl rfl|rfl) rfl;(intro w' hB hA;obtain⟨q1,q2,_,_⟩:=H5cb.out w' hB;clear hA hB;go_light;go_simp<;>rfl);(try simp only[Pt]))
 apply Free.chain_ind (by first|exact Free.wanted_of rfl rfl rfl|rfl) rfl
 ·intro w' hB hA
  refine Free.opRun_call (f:=60) (args:= #[.slice c.aA c.acts.length c.ac]) (by clear hB hA;go_simp<;>rfl) ?_
  refine(clA_any c.aA c.ac c.acts w' (H5cb.out w' hB).2.2.1 HLA.out).mono ?_
  rintro e w3 ⟨A',c',rfl,ho3,hb3⟩
  obtain⟨x,hx⟩:=Sel.slN_ex ho3
  exact⟨_,rfl,hb3,x,by rw[hx],by rw[hx];exact ap ho3 hB.size⟩
 intro x5
 simp only[Pt]
 iterate 2 (apply Free.chain_still (by first|exact Free.wanted_of rfl rfl rfl|rfl) rfl;(intro w' hB hA;obtain⟨q1,q2,_,_⟩:=H5cb.out w' hB;clear hA hB;go_light;go_simp<;>rfl);(try simp only[Pt]))
 apply Free.chain_ind (by first|exact Free.wanted_of rfl rfl rfl|rfl) rfl
 ·intro w' hB hA
  refine Free.opRun_call (f:=58) (args:= #[.slice c.oA c.off.length c.oc]) (by clear hB hA;go_simp<;>rfl) ?_
  refine(clI_any c.oA c.oc c.off w' (H5cb.out w' hB).2.2.2 HLO.out).mono ?_
  rintro e w3 ⟨A',c',rfl,ho3,hb3⟩
  obtain⟨x,hx⟩:=Sel.slN_ex ho3
  exact⟨_,rfl,hb3,x,by rw[hx],by rw[hx];exact ap ho3 hB.size⟩
 intro y5
 simp only[Pt]
 iterate 1 (apply Free.chain_still (by first|exact Free.wanted_of rfl rfl rfl|rfl) rfl;(intro w' hB hA;clear hA hB;go_light;go_simp<;>rfl);(try simp only[Pt]))
 apply Free.chain_nil
 intro w5 hb5 _ hh5
 have hy5:=hh5 _ List.mem_cons_self
 have hx5:=hh5 _ (List.mem_cons_of_mem _ List.mem_cons_self)
 simp only at hx5 hy5
 simp only[List.drop_succ_cons,List.drop_zero]
 have a5:=HA4.out.grow hb5
 obtain⟨q1,q2,_,_⟩:=H5cb.out w5 hb5
 have f1:=Blk.Blk.frozen a5.c 3
 have f2:=Blk.Blk.frozen a5.c 6
 obtain⟨cO,ecO⟩:∃cO,cO=ConM.withAO cN (Sel.slN x5) (Sel.slN y5):=⟨_,rfl⟩
 obtain⟨c4,ec4⟩:∃c4,c4=ak cO:=⟨_,rfl⟩
 obtain⟨W6,e6⟩:∃W6,W6=(w5.setCell ⟨W.heap.size,3,none⟩ (.slice (Sel.slN x5).1 c.acts.length (Sel.slN x5).2)).setCell ⟨W.heap.size,6,none⟩ (.slice (Sel.slN y5).1 c.off.length (Sel.slN y5).2):=⟨_,rfl⟩
 have hA6:VcB W c4 zs W6:=by
  refine⟨?_, ?_, ?_⟩
  ·have h:=gy a5.c 3 6 (.slice (Sel.slN x5).1 c.acts.length (Sel.slN x5).2) (.slice (Sel.slN y5).1 c.off.length (Sel.slN y5).2)
   rw[e6,ec4,ecO]
   rw[EC3.out,ECN.out]at h
   rw[ECN.out]
   exact h
  ·rw[e6];exact gH a5.z (by omega) _ _ _ _
  ·rw[e6];exact(a5.below.trans (aq (a:=⟨W.heap.size,3,none⟩) (Nat.le_refl _) _)).trans (aq (a:=⟨W.heap.size,6,none⟩) (Nat.le_refl _) _)
 have hlo1:W.heap.size<W1.heap.size:=HA1.out.c.lt
 have hlo4:W.heap.size<W4.heap.size:=HA4.out.c.lt
 have HX6:Hid (W6.ownsRow W1.heap.size 3 1 (.slice (Sel.slN x3).1 c.holders.length (Sel.slN x3).2) c.holders.length (c.holders.flatMap Cs.encI)):=h_ (by rw[e6];exact aD (aD (owns_keep HX4.out fun g hg=>hb5.block _ (owns_lt HX4.out hg).2) hlo1) hlo1)
 have HY6:Hid (W6.ownsRow W1.heap.size 96 5 (.slice (Sel.slN y3).1 c.units.length (Sel.slN y3).2) c.units.length (c.units.flatMap cL)):=h_ (by rw[e6];exact aD (aD (owns_keep HY4.out fun g hg=>hb5.block _ (owns_lt HY4.out hg).2) hlo1) hlo1)
 have HU6:Hid (W6.ownsRow W4.heap.size 98 7 (.slice (Sel.slN x5).1 c.acts.length (Sel.slN x5).2) c.acts.length (c.acts.flatMap cP)):=h_ (by rw[e6];exact aD (aD hx5 hlo4) hlo4)
 have HV6:Hid (W6.ownsRow W4.heap.size 3 1 (.slice (Sel.slN y5).1 c.off.length (Sel.slN y5).2) c.off.length (c.off.flatMap Cs.encI)):=h_ (by rw[e6];exact aD (aD hy5 hlo4) hlo4)
 have E6:Hid ((w5.setCell ⟨W.heap.size,3,none⟩ (.slice (Sel.slN x5).1 c.acts.length (Sel.slN x5).2)).setCell ⟨W.heap.size,6,none⟩ (.slice (Sel.slN y5).1 c.off.length (Sel.slN y5).2)=W6):=h_ e6.symm
 have ck6:=hA6.c.at (show c4[4]? =some (.slice c.kA c.kls.length c.kc) by rw[ec4,ecO,ECN.out];rfl)
 have CK:=h_ (clK_any c.kA c.kc c.kls W6 (HCON.out.k.below hA6.below (Nat.le_refl _)) (Nat.le_trans HSH.out.k (by decide)))
 have HA6:=h_ hA6
 have EC4:=h_ ec4
 have ECO:=h_ ecO
 clear ec4 ecO e6 hA6 hx5 hy5 a5 hh5 hb5 hlo1 hlo4 HX4 HY4
 go_wp2_with (simp only[E6.out])
 refine CK.out.mono ?_
 rintro e w7 ⟨A7,k7,rfl,ho7,hb7⟩
 have hA7:=HA6.out.grow hb7
 have c7:=hA7.c.at (show c4[4]? =some (.slice c.kA c.kls.length c.kc) by rw[EC4.out,ECO.out,ECN.out];rfl)
 have f7:=Blk.Blk.frozen hA7.c 4
 obtain⟨c5,ec5⟩:∃c5,c5=ak (ConM.withK cO c.kls A7 k7):=⟨_,rfl⟩
 obtain⟨W8,e8⟩:∃W8,W8=w7.setCell ⟨W.heap.size,4,none⟩ (.slice A7 c.kls.length k7):=⟨_,rfl⟩
 have hA8:VcB W c5 zs W8:=by
  refine⟨?_, ?_, ?_⟩
  ·have h:=Blk.Blk.set hA7.c 4 (.slice A7 c.kls.length k7)
   rw[EC4.out,set_K, <-ec5]at h
   rw[e8];exact h
  ·rw[e8];exact Blk.Blk.set_ne hA7.z (a:=⟨W.heap.size,4,none⟩) (by show W.heap.size≠W.heap.size+1;omega) _
  ·rw[e8];exact hA7.below.trans (aq (a:=⟨W.heap.size,4,none⟩) (Nat.le_refl _) _)
 have hlo6:W.heap.size<W6.heap.size:=HA6.out.c.lt
 have hlo6':W.heap.size+1<W6.heap.size:=HA6.out.z.lt
 have hvl:VL c W W6.heap.size A7 k7 0 c.kls W8:=⟨by rw[e8];exact aD ho7 hlo6,rfl,fun j q hj=>absurd hj (Nat.not_lt_zero j),fun _ _=>rfl⟩
 have hsz8:W6.heap.size<=W8.heap.size:=by rw[e8];simp[World.setCell];exact hb7.size
 have k8:∀ {lo n sz:Nat} {T:TypeId} {v:Value} {xs:List Value},W.heap.size<lo->W6.ownsRow lo T sz v n xs->W8.ownsRow lo T sz v n xs/\∀g,v.ownBlock=some g->g<W6.heap.size:=fun {lo n sz T v xs} hl h=>
  ⟨by rw[e8];exact aD (owns_keep h fun g hg=>hb7.block _ (owns_lt h hg).2) hl,fun g hg=>(owns_lt h hg).2⟩
 have hlo1:W.heap.size<W1.heap.size:=HA1.out.c.lt
 have hlo4:W.heap.size<W4.heap.size:=HA4.out.c.lt
 have HR8:Hid (∀w',Below W6.heap.size W8 w'->w'.ownsRow W1.heap.size 3 1 (.slice (Sel.slN x3).1 c.holders.length (Sel.slN x3).2) c.holders.length (c.holders.flatMap Cs.encI)/\w'.ownsRow W1.heap.size 96 5 (.slice (Sel.slN y3).1 c.units.length (Sel.slN y3).2) c.units.length (c.units.flatMap cL)/\
   w'.ownsRow W4.heap.size 98 7 (.slice (Sel.slN x5).1 c.acts.length (Sel.slN x5).2) c.acts.length (c.acts.flatMap cP)/\w'.ownsRow W4.heap.size 3 1 (.slice (Sel.slN y5).1 c.off.length (Sel.slN y5).2) c.off.length (c.off.flatMap Cs.encI)):=h_ fun w' hb=>
  ⟨owns_keep (k8 hlo1 HX6.out).1 fun g hg=>hb.block _ ((k8 hlo1 HX6.out).2 g hg),owns_keep (k8 hlo1 HY6.out).1 fun g hg=>hb.block _ ((k8 hlo1 HY6.out).2 g hg),owns_keep (k8 hlo4 HU6.out).1 fun g hg=>hb.block _ ((k8 hlo4 HU6.out).2 g hg),owns_keep (k8 hlo4 HV6.out).1 fun g hg=>hb.block _ ((k8 hlo4 HV6.out).2 g hg)⟩
 have c8:=hA8.c.at (show c5[4]? =some (.slice A7 c.kls.length k7) by rw[ec5];rfl)
 have HA8:=h_ hA8
 have HVL:=h_ hvl
 have HS8:=h_ hsz8
 have HL6:=h_ hlo6'
 have EC5:=h_ ec5
 have E8:Hid (w7.setCell ⟨W.heap.size,4,none⟩ (.slice A7 c.kls.length k7)=W8):=h_ e8.symm
 clear ck6 CK ho7 hb7 hA7 ec5 e8 hA8 hlo6 hlo6' hvl hsz8 k8 hlo1 hlo4 HX6 HY6 HU6 HV6
 go_wp2_with (simp only[E8.out])
 clear c7 f7 c8
 go_loopw [27] (fun v wr=> ∃(k:Nat) (kls:List Kl),v= .int .i64 (k:Int)/\k<=c.kls.length/\VL c W W6.heap.size A7 k7 k kls wr/\Below W6.heap.size W8 wr) (fun v _=>(c.kls.length:Int).toNat- (RowKit.intOf v).toNat)
 case atStart=>exact⟨0,_,rfl,Nat.zero_le _,HVL.out,Below.refl _ _⟩
 case round=>
  clear HVL
  obtain⟨k,kls,rfl,hk,hra,hbr⟩:=hrel
  have hAr:=HA8.out.to hbr HL6.out
  have hlen:kls.length=c.kls.length:=by have:=congrArg List.length hra.val;simpa using this
  rcases Nat.lt_or_eq_of_le hk with hkl|hkl
  ·have hki:(k:Int)<(c.kls.length:Int):=by omega
   have hkb:(k:Int)+1<=9223372036854775807:=by have:=HSH.out.k;omega
   obtain⟨y,ey⟩:∃y,c.kls[k]? =some y:=⟨_,List.getElem?_eq_getElem hkl⟩
   have ey2:kls[k]? =some y:=by rw[hra.old k (Nat.le_refl _)];exact ey
   obtain⟨g,rfl⟩:∃g,A7=some ⟨g,0,none⟩:=by
    rcases hra.row.2 with⟨_,h2⟩|⟨g,cap,cur,h2,_⟩
    ·omega
    ·injection h2 with h2 _;exact⟨g,h2⟩
   have hrow:=hra.row
   have hgl:=World.ownsRow.lt hrow g rfl
   have HCR:Hid (∀w',Below wr.heap.size wr w'->w'.cell? ⟨W.heap.size,4,none⟩=some (.slice (some ⟨g,0,none⟩) c.kls.length k7)/\w'.cell? ⟨g,k*16+4,none⟩=some (.slice y.2.1 y.1.start.length y.2.2)/\SL w' 2 ar y.2.1 y.1.start):=h_ fun w' hb=>by
    have hv:=hra.below hb
    refine⟨(hAr.grow hb).c.at (by rw[EC5.out];rfl), ?_,(HCON.out.st y (List.mem_of_getElem? ey)).below (hAr.below.trans (hb.mono hAr.below.size)) (Nat.le_refl _)⟩
    have cw:=hv.row.cellAt (k*16+4) (by omega)
    rw[Sel.flat_at bP ey2 (show(aF y)[4]? =some (.slice y.2.1 y.1.start.length y.2.2) from rfl)]at cw
    exact cw
   have CC:Hid (∀w',SL w' 2 ar y.2.1 y.1.start->Calls Tryz.prog 63 #[.slice y.2.1 y.1.start.length y.2.2] w' fun e w''=> ∃A' c',e= .returned (.slice A' y.1.start.length c')/\w''.ownsRow w'.heap.size 133 2 (.slice A' y.1.start.length c') y.1.start.length (y.1.start.flatMap ar)/\Below w'.heap.size w' w''):=h_ fun w' hs=>cl2b_any y.2.1 y.2.2 y.1.start w' hs (Nat.le_trans (HSH.out.st y (List.mem_of_getElem? ey)) (by decide))
   have HRA:=h_ hra
   have HBR:=h_ hbr
   have HLN:=h_ hlen
   have EY2:=h_ ey2
   have HGL:=h_ hgl
   have HSR:Hid (W6.heap.size<=wr.heap.size):=h_ (Nat.le_trans HS8.out hbr.size)
   clear hra hbr hAr hlen ey ey2 hrow hgl hk
   go_wp2_with fail
   refine Free.wp_region_free 12 [(9, .ind (fun x=> .slice (Sel.slN x).1 y.1.start.length (Sel.slN x).2) (fun x w=>w.ownsRow W6.heap.size 133 2 (.slice (Sel.slN x).1 y.1.start.length (Sel.slN x).2) y.1.start.length (y.1.start.flatMap ar)))]
    (fun w'=>Below wr.heap.size wr w') (by kernel_rfl) (by kernel_rfl) ?_ (Below.refl _ _).drew (fun w1 w2 h g=>h.trans (Below.mono g h.size)) ?_
   ·intro j mk r hf x w1 w2 hr rr
    simp only[Free.find]at hf
    split at hf
    ·cases hf;exact owns_keep hr fun g hg=>rr.block _ (owns_lt hr hg).2
    ·cases hf
   simp only[List.take_succ_cons,List.take_zero]
   iterate 10 (first|(apply Free.chain_ind (by first|exact Free.wanted_of rfl rfl rfl|rfl) rfl;(intro w' hB hA;refine Free.opRun_call (f:=63) (args:= #[.slice y.2.1 y.1.start.length y.2.2]) (by clear hB hA;go_simp<;>rfl) ?_;refine(CC.out w' (HCR.out w' hB).2.2).mono ?_;rintro e w3 ⟨A',c',rfl,ho3,hb3⟩;obtain⟨x,hx⟩:=Sel.slN_ex ho3;exact⟨_,rfl,hb3,x,by rw[hx],by rw[hx];exact ap ho3 (Nat.le_trans HSR.out hB.size)⟩))|(apply Free.chain_still (by first|exact Free.wanted_of rfl rfl rfl|rfl) rfl;(intro w' hB hA;obtain⟨q1,q2,_⟩:=HCR.out w' hB;clear hA hB;go_light;go_simp<;>rfl);(try simp only[Pt])))
   intro x9
   simp only[Pt]
   iterate 2 (apply Free.chain_still (by first|exact Free.wanted_of rfl rfl rfl|rfl) rfl;(intro w' hB hA;obtain⟨q1,q2,_⟩:=HCR.out w' hB;clear hA hB;go_light;go_simp<;>rfl);(try simp only[Pt]))
   apply Free.chain_nil
   intro w9 hb9 _ hh9
   have hx9:=hh9 _ List.mem_cons_self
   simp only at hx9
   simp only[List.drop_succ_cons,List.drop_zero]
   have hv9:=HRA.out.below hb9
   have cw:=(HCR.out w9 hb9).2.1
   have fw:=hv9.row.frozenAt (k*16+4)
   have hoc:=Sel.own_cell bP hv9.row k 4 EY2.out (y.1,Sel.slN x9) (.slice (Sel.slN x9).1 y.1.start.length (Sel.slN x9).2) (by decide) rfl
   have HNX:Hid (VL c W W6.heap.size (some ⟨g,0,none⟩) k7 (k+1) (kls.set k (y.1,Sel.slN x9)) (w9.setCell ⟨g,k*16+4,none⟩ (.slice (Sel.slN x9).1 y.1.start.length (Sel.slN x9).2))/\Below W6.heap.size W8 (w9.setCell ⟨g,k*16+4,none⟩ (.slice (Sel.slN x9).1 y.1.start.length (Sel.slN x9).2))):=h_ ⟨hv9.next EY2.out hoc.1 hoc.2 hx9,(HBR.out.trans (hb9.mono HSR.out)).trans (aq (a:=⟨g,k*16+4,none⟩) HGL.out.1 _)⟩
   clear hv9 hoc hx9 hh9 hb9 HRA
   go_wp2_with fail
   go_roundw
   case rel=>exact⟨k+1,_,rfl,hkl,HNX.out.1,HNX.out.2⟩
   case measure=>simp[RowKit.intOf];omega
  ·have hki: ¬(k:Int)<(c.kls.length:Int):=by omega
   obtain⟨cF,ecF⟩:∃cF,cF=ConM.withK cO kls A7 k7:=⟨_,rfl⟩
   have e5F:c5=ak cF:=by
    rw[EC5.out,ecF]
    unfold ak ConM.withK
    simp only[hlen]
   have HFY:Hid (∀w',wr.grownBy w' (some (W.heap.size+1))->R (.returned (.agg (ak cF).toArray)) w'):=h_ fun w' hg=>by
    have k13:∀ {lo n sz:Nat} {T:TypeId} {v:Value} {xs:List Value},W.heap.size+1<lo->wr.ownsRow lo T sz v n xs->w'.ownsRow lo T sz v n xs:=fun {lo n sz T v xs} hl h=>owns_keep h fun g hgg=>hg.block g (owns_lt h hgg).2 fun e=>by
     have:=(owns_lt h hgg).1
     injection e with e
     omega
    have hlo1:W.heap.size+1<W1.heap.size:=HA1.out.z.lt
    have hlo4:W.heap.size+1<W4.heap.size:=HA4.out.z.lt
    obtain⟨r1,r2,r3,r4⟩:=HR8.out wr hbr
    have hz:=HSZ.out
    have hst:∀q∈kls,wr.ownsRow W6.heap.size 133 2 (.slice q.2.1 q.1.start.length q.2.2) q.1.start.length (q.1.start.flatMap ar):=fun q hq=>by
     obtain⟨j,hj,e⟩:=List.mem_iff_getElem.1 hq
     exact hra.new j q (by omega) (by rw[List.getElem?_eq_getElem hj,e])
    have hl6:=HL6.out
    refine FIN.out w' cF ?_ ?_ (hAr.below.trans (aj hg (fun g hg=>by injection hg with e;omega) hAr.below.size))
    ·rw[ecF,ECO.out,ECN.out]
     show(⟨c.parties,c.holders,c.units,c.acts,kls.map Prod.fst,c.days,c.off⟩:Con)=c.con
     rw[hra.val];rfl
    ·rw[ecF,ECO.out,ECN.out]
     exact⟨ap (k13 hlo1 r1) (by omega),ap (k13 hlo1 r2) (by omega),ap (k13 hlo4 r3) (by omega),ap (k13 HL6.out hra.row) (by omega),ap (k13 hlo4 r4) (by omega),fun q hq=>ap (k13 HL6.out (hst q hq)) (by omega)⟩
   have HM13:=h_ hAr.c.rg
   have HZ13:=h_ hAr.z
   have HI5:=h_ (aK c5 (by rw[EC5.out];rfl))
   have H15:Hid (∀v∈c5,v.oneCell'=true):=h_ (by rw[EC5.out];exact aX _)
   have E5F:=h_ e5F
   clear hra hbr hAr hlen hk hkl ecF e5F
   go_wp2_with (first
    |(refine ae (.tmp 1) ?_;refine wpList_load_mid rfl 27 (.tmp 1) rfl W.heap.size 0 rfl c5 _ HM13.out Tryz.underlying27 rfl HI5.out ?_)
    |(refine ai (.tmp 2) ?_;refine Hk.wpList_store_own rfl 27 (.tmp 2) (.tmp 43) rfl (W.heap.size+1) rfl c5 rfl zs 27 HZ13.out HI5.out (by rw[EC5.out,EZS.out];rfl) H15.out ?_;intro w15 h15a h15b h15c;have H15a:=h_ h15a;have H15b:=h_ h15b;clear h15a h15b h15c;simp only[Pt]))
   refine bodyPost_ret (v:= .agg c5.toArray) (Hk.results_cell_row (fn:=Tryz.f26) (p:=2) (ty:=27) rfl _ _ (W.heap.size+1) 27 c5.toArray (0,0) _ rfl H15a.out Tryz.underlying27 rfl (by rw[HI5.out];simp)) rfl ?_
   rw[E5F.out]
   exact HFY.out _ H15b.out
end Go.Proofs.YtekfoaenomgjgaaGreatDoor

namespace Go.Cv
open Go Go.Cs
def errA(c:Con)(n:Nat):Int:=if dx c=0 then(if n<=60 then 0 else 3)else 1
end Go.Cv
namespace Go.Proofs.YtekfoaenomgjgaaGreatDoor
open Go.RowKit Go.W32 Go.Blk Go.Cs Go.Lib Go.Opn Go.Mg Go.Cv

set_option maxHeartbeats 1000000 in
theorem check_any(c:ConM)(A:Option Addr)(n k:Nat)(W:World)(hc:ConAt W c)(hz:ConSz c):Calls Tryz.prog 25 #[.agg (ak c).toArray, .slice A n k] W fun e w'=>e= .returned (.int .i64 (errA c.con n))/\Below W.heap.size W w':=by
 obtain⟨R,eR⟩:∃R:Ending->World->Prop,R=fun e w'=>e= .returned (.int .i64 (errA c.con n))/\Below W.heap.size W w':=⟨_,rfl⟩
 rw[<-eR]
 have FIN:Hid (∀w' v,v=errA c.con n->Below W.heap.size W w'->R (.returned (.int .i64 v)) w'):=h_ fun w' v h hb=>by rw[eR,h];exact⟨rfl,hb⟩
 clear eR
 obtain⟨W1,cs,hx⟩:=boxC W c
 have E1:=h_ hx.e
 have HB1:=h_ hx.below
 have CV:=dJ c W1 (hc.below hx.below (Nat.le_refl _)) hz
 rw[<-hx.cs]at CV⊢
 have CV:=h_ CV
 have HMC:=h_ hx.row.rg
 have HI:=h_ (aK cs (by rw[hx.cs];rfl))
 clear hx hc hz
 go_enter Tryz.func25,Tryz.ntmps25
 go_wp2_with (first
  |(simp only[E1.out])
  |(refine ae (.tmp 2) ?_;refine wpList_load_mid rfl 27 (.tmp 2) rfl W.heap.size 0 rfl cs _ HMC.out Tryz.underlying27 rfl HI.out ?_))
 refine CV.out.mono ?_
 rintro e w2 ⟨⟨ix,rfl⟩,hb2⟩
 have HB2:=h_ (HB1.out.trans (hb2.mono HB1.out.size))
 obtain⟨ec,eec⟩:∃ec,ec=dx c.con:=⟨_,rfl⟩
 rw[<-eec]
 clear CV HMC hb2
 by_cases h0:ec=0
 ·have q:(ec !=0)=false:=by simpa using h0
  by_cases hn:n<=60
  ·have HF:=h_ (FIN.out w2 0 (by unfold errA;rw[<-eec,if_pos h0,if_pos hn]) HB2.out)
   have q2:decide ((60:Int)<(n:Int))=false:=decide_eq_false (by omega)
   clear FIN h0 eec hn
   go_wp2_with fail
   exact HF.out
  ·have HF:=h_ (FIN.out w2 3 (by unfold errA;rw[<-eec,if_pos h0,if_neg hn]) HB2.out)
   have q2:decide ((60:Int)<(n:Int))=true:=decide_eq_true (by omega)
   clear FIN h0 eec hn
   go_wp2_with fail
   exact HF.out
 ·have q:(ec !=0)=true:=by simpa using h0
  have HF:=h_ (FIN.out w2 1 (by unfold errA;rw[<-eec,if_neg h0]) HB2.out)
  clear FIN h0 eec
  go_wp2_with fail
  exact HF.out
end Go.Proofs.YtekfoaenomgjgaaGreatDoor

namespace Go.Cv
open Go Go.Cs
def stepF(s:Con×List Int)(a:Pr×Hd):Con×List Int:=match bf s.1 a.1.x.patch with
 |some c=>(c,s.2++ [a.1.x.number])
 |none=>s
theorem force_fold(day:Int):∀(l:List (Pr×Hd)) (s:Con×List Int),(∀x∈l,x.1.x.day<=day)->dp day s (l.map Prod.fst)=l.foldl stepF s
 | [],_,_=>rfl
 |x::r,s,h=>by
  rw[List.map_cons,dp,if_neg (by have:=h x (by simp);omega),List.foldl_cons]
  exact force_fold day r _ fun y hy=>h y (by simp[hy])
theorem force_stop(day:Int):∀(l:List (Pr×Hd)) (x:Pr×Hd) (r:List (Pr×Hd)) (s:Con×List Int),(∀y∈l,y.1.x.day<=day)->day<x.1.x.day->dp day s ((l++x::r).map Prod.fst)=l.foldl stepF s
 | [],x,r,s,_,hx=>by
  rw[List.nil_append,List.map_cons,dp,if_pos hx];rfl
 |y::l,x,r,s,h,hx=>by
  rw[List.cons_append,List.map_cons,dp,if_neg (by have:=h y (by simp);omega),List.foldl_cons]
  exact force_stop day l x r _ (fun z hz=>h z (by simp[hz])) hx
end Go.Cv
namespace Go.Proofs.YtekfoaenomgjgaaGreatDoor
open Go.RowKit Go.W32 Go.Blk Go.Cs Go.Lib Go.Opn Go.Mg Go.Cv Go.Rf
attribute [local go_sem] Oper.semAt_some
structure IfS (W:World) (c:ConM) (nb qb:Nat) (zs:List Value) (day:Int) (pre:List (Pr×Hd)) (cM:ConM) (nums:List Int) (v:Value) (w:World):Prop where
 now:Row w nb 27 (ak cM)
 ow:ConOw W.heap.size w cM
 box:Row w qb 22 [v]
 own:w.ownsRow (W.heap.size+3) 3 1 v nums.length (nums.flatMap Cs.encI)
 aph:∀g,v.ownBlock=some g->(.slice cM.hA cM.holders.length cM.hc:Value).ownBlock≠some g
 apo:∀g,v.ownBlock=some g->(.slice cM.oA cM.off.length cM.oc:Value).ownBlock≠some g
 st:(cM.con,nums)=pre.foldl stepF (c.con,[])
 days:∀x∈pre,x.1.x.day<=day
 len:nums.length<=pre.length
 z:Row w (W.heap.size+2) 27 zs
 d:Row w (W.heap.size+1) 3 [.int .i64 day]
 below:Below W.heap.size W w
 nbq:W.heap.size+2<nb/\nb<qb
theorem dZ{w w':World}{row:Option Nat}{b:Nat}{T:TypeId}{cs:List Value}(h:Row w b T cs)(hg:w.grownBy w' row)(hr:∀r,row=some r->∃o:Obj,w.heap[r]? =some o/\o.isCells=false):Row w' b T cs:=
 h.keep (hg.block b h.lt fun e=>by
  obtain⟨o,ho,hc⟩:=hr b e.symm
  rw[show w.heap[b]? =_ from h]at ho
  cases ho;cases hc)
theorem cy{w w':World}{row:Option Nat}{lo sz n:Nat}{T:TypeId}{v:Value}{xs:List Value}(h:w.ownsRow lo T sz v n xs)(hg:w.grownBy w' row)(hr:∀r,row=some r->∃o:Obj,w.heap[r]? =some o/\o.isCells=false):w'.ownsRow lo T sz v n xs:=
 owns_keep h fun g hgg=>hg.block g (owns_lt h hgg).2 fun e=>by
  obtain⟨o,ho,hc⟩:=hr g e.symm
  rcases h.2 with⟨rfl,_⟩|⟨g',_,cur,rfl,_,hg',_⟩
  ·cases hgg
  ·have:g'=g:=Option.some.inj hgg
   subst this
   rw[hg']at ho;cases ho;cases hc
theorem IfS.own_from{W w w':World}{c:ConM}{nb qb B:Nat}{zs:List Value}{day:Int}{pre:List (Pr×Hd)}{cM:ConM}{nums:List Int}{v:Value}{row:Option Nat}(h:IfS W c nb qb zs day pre cM nums v w)(hB:W.heap.size<=B)(hg:w.grownBy w' row)
  (hr:∀r,row=some r->B<=r/\∃o:Obj,w.heap[r]? =some o/\o.isCells=false):IfS W c nb qb zs day pre cM nums v w':=by
 have hr2:=fun r e=>(hr r e).2
 refine⟨dZ h.now hg hr2,⟨cy h.ow.h hg hr2,cy h.ow.u hg hr2,cy h.ow.a hg hr2,cy h.ow.k hg hr2,cy h.ow.o hg hr2,fun q hq=>cy (h.ow.st q hq) hg hr2⟩,dZ h.box hg hr2,cy h.own hg hr2,h.aph,h.apo,h.st,h.days,h.len,dZ h.z hg hr2,dZ h.d hg hr2, ?_,h.nbq⟩
 exact h.below.trans (aj hg (fun g e=>Nat.le_trans hB (hr g e).1) h.below.size)
theorem IfS.grow{W w w':World}{c:ConM}{nb qb:Nat}{zs:List Value}{day:Int}{pre:List (Pr×Hd)}{cM:ConM}{nums:List Int}{v:Value}(h:IfS W c nb qb zs day pre cM nums v w)(hb:Below w.heap.size w w'):IfS W c nb qb zs day pre cM nums v w':=
 h.own_from (B:=W.heap.size) (Nat.le_refl _) (grown_of hb) fun r e=>by cases e
theorem cG{P:Program}{fn:Func}{p u t:Tmp}{ty:TypeId}{v1 v2:Value}(h:fn.results= #[.cell p ty, .tmp u, .tmp t])(tmps:Array Value)(w:World)(g:Nat)(T:TypeId)(cs:Array Value)(fr:Nat×Nat)(d:TypeDesc)
  (hp:tmps.getD p undef= .pointer (some ⟨g,0,none⟩)) (hg:w.heap[g]? =some (.cells cs T fr))
  (hu:P.underlying ty=some d) (hd:(match d with| .struct _| .array _ _=>true|_=>false)=true) (hi:(P.info? ty).map (·.size)=some cs.size) (hv:tmps.getD u undef=v1) (hv2:tmps.getD t undef=v2):
  (results fn tmps).run P w= .ok (.tuple #[.agg cs,v1,v2]) w:=by
 have hp':tmps[p]?.getD undef= .pointer (some ⟨g,0,none⟩):=by simpa using hp
 have hv':tmps[u]?.getD undef=v1:=by simpa using hv
 have hv2':tmps[t]?.getD undef=v2:=by simpa using hv2
 simp[results,h,hp',hv',hv2',asAddr,run_loadVar_row w g T ty cs fr d hg hu hd hi]
theorem leave_if{R:Ending->World->Prop}{W:World}{D b:Nat}{cs:List Value}{v1 v2:Value}(n:Nat)(tmps:Array Value)(h8:tmps.getD 8 undef= .pointer (some ⟨b,0,none⟩))(h9:tmps.getD 9 undef=v1)(h10:tmps.getD 10 undef=v2)
  (hl:cs.length=7) (hz:Row W b 27 cs) (hK:W.heap[D]? =some (.deferred (some []))) (hR:R (.returned (.tuple #[.agg cs.toArray,v1,v2])) (W.putObj D (.deferred none))):
  bodyPostM Fence.wide n Tryz.prog Tryz.f9 R .ret {tmps,defers:= [{target:= .collected D,args:= #[]}]} W:=by
 refine⟨by simp, .inl ⟨_,_,rfl,run_takeDeferred hK, ?_⟩⟩
 have hz2:(W.putObj D (.deferred none)).heap[b]? =some (.cells cs.toArray 27 (0,0)):=by
  rw[World.putObj_heap_other (fun e=>by subst e;rw[show W.heap[b]? =_ from hz]at hK;cases hK)];exact hz
 exact⟨_,cG (fn:=Tryz.f9) (p:=8) (u:=9) (t:=10) (ty:=27) rfl tmps _ b 27 cs.toArray (0,0) _ h8 hz2 Tryz.underlying27 rfl (by rw[aK cs hl];simp) h9 h10,hR⟩
theorem leave_if0{R:Ending->World->Prop}{W:World}{b:Nat}{cs:List Value}{v1 v2:Value}(n:Nat)(tmps:Array Value)(h8:tmps.getD 8 undef= .pointer (some ⟨b,0,none⟩))(h9:tmps.getD 9 undef=v1)(h10:tmps.getD 10 undef=v2)
  (hl:cs.length=7) (hz:Row W b 27 cs) (hR:R (.returned (.tuple #[.agg cs.toArray,v1,v2])) W):
  bodyPostM Fence.wide n Tryz.prog Tryz.f9 R .ret {tmps,defers:= []} W:=
 ⟨_,cG (fn:=Tryz.f9) (p:=8) (u:=9) (t:=10) (ty:=27) rfl tmps _ b 27 cs.toArray (0,0) _ h8 hz Tryz.underlying27 rfl (by rw[aK cs hl];simp) h9 h10,hR⟩
structure IfW (nb qb:Nat) (v v':Value) (c2:ConM) (num:Int) (n:Nat) (xs:List Value) (W:World) (w2 W3 W4 W5 w6 W7:World):Prop where
 e3:W3=w2.alloc (.cells (ak c2).toArray 27)
 e4:W4=W3.setRow nb (ak c2).toArray
 e5:W5=W4.alloc (.cells #[.int .i64 num] 3)
 own:w6.ownsRow (W.heap.size+3) 3 1 v' (n+1) (xs++ [.int .i64 num])
 gr:W5.grownBy w6 v.ownBlock
 at_:v'.ownBlock=v.ownBlock\/v'.ownBlock=some W5.heap.size
 e7:W7=w6.setCell ⟨qb,0,none⟩ v'
theorem setRow_other{w:World}{g k:Nat}{cs:Array Value}(h:k≠g):(w.setRow g cs).heap[k]? =w.heap[k]? :=by
 simp only[World.setRow,Array.getElem?_modify];rw[if_neg (Ne.symm h)]
theorem IfW.sizes{nb qb:Nat}{v v':Value}{c2:ConM}{num:Int}{n:Nat}{xs:List Value}{W w2 W3 W4 W5 w6 W7:World}(h:IfW nb qb v v' c2 num n xs W w2 W3 W4 W5 w6 W7):
  W3.heap.size=w2.heap.size+1/\W4.heap.size=w2.heap.size+1/\W5.heap.size=w2.heap.size+2/\w2.heap.size+2<=w6.heap.size/\W7.heap.size=w6.heap.size:=by
 have s3:W3.heap.size=w2.heap.size+1:=by rw[h.e3];simp
 have s4:W4.heap.size=w2.heap.size+1:=by rw[h.e4];simp[World.setRow,s3]
 have s5:W5.heap.size=w2.heap.size+2:=by rw[h.e5];simp[s4]
 exact⟨s3,s4,s5,by have:=h.gr.size;omega,by rw[h.e7];simp[World.setCell]⟩
theorem IfW.eq{nb qb:Nat}{v v':Value}{c2:ConM}{num:Int}{n:Nat}{xs:List Value}{W w2 W3 W4 W5 w6 W7:World}(h:IfW nb qb v v' c2 num n xs W w2 W3 W4 W5 w6 W7){k:Nat}(hk:k<w2.heap.size)(h1:k≠nb)(h2:k≠qb)(h3:v.ownBlock≠some k):W7.heap[k]? =w2.heap[k]? :=by
 obtain⟨s3,s4,s5,s6,s7⟩:=h.sizes
 have a7:W7.heap[k]? =w6.heap[k]? :=by rw[h.e7];exact Below.heap_setCell _ ⟨qb,0,none⟩ _ k h2
 rw[a7,h.gr.block k (by omega) (fun e=>h3 e.symm),h.e5,Below.heap_alloc _ _ _ (by omega),h.e4,setRow_other h1,h.e3,Below.heap_alloc _ _ _ hk]
theorem fK{w:World}{b:Nat}{T:TypeId}{v:Value}(h:Row w b T [v]):obAt b w=v.ownBlock:=by
 unfold obAt
 rw[h.at (show([v]:List Value)[0]? =some v from rfl)]
 cases v with
 |slice a n c=>cases a<;>rfl
 |_=>rfl
theorem IfS.step{W wr:World}{c:ConM}{nb qb:Nat}{zs:List Value}{day:Int}{pre:List (Pr×Hd)}{cM:ConM}{nums:List Int}{v v':Value}{c2:ConM}{x:Pr×Hd}{w2 W3 W4 W5 w6 W7:World}(hr:IfS W c nb qb zs day pre cM nums v wr)(hb:Below wr.heap.size wr w2)
  (ho:ConOw wr.heap.size w2 c2) (hx:x.1.x.day<=day) (ha:bf cM.con x.1.x.patch=some c2.con) (h:IfW nb qb v v' c2 x.1.x.number nums.length (nums.flatMap Cs.encI) W w2 W3 W4 W5 w6 W7):
  IfS W c nb qb zs day (pre++ [x]) c2 (nums++ [x.1.x.number]) v' W7/\(∀B,KeepsFrom B wr W7)/\KpX (fun k=>k=nb\/k=qb) qb wr W7:=by
 obtain⟨s3,s4,s5,s6,s7⟩:=h.sizes
 have h2:=hr.grow hb
 have hvlt:∀g,v.ownBlock=some g->W.heap.size+3<=g/\g<wr.heap.size:=fun g hg=>owns_lt hr.own hg
 have hq:qb<wr.heap.size:=hr.box.lt
 have hnq:=hr.nbq
 have hsz:=hb.size
 have hbs:=hr.below.size
 have hvn:v.ownBlock≠some nb:=dL h2.own h2.now (by decide)
 have hvq:v.ownBlock≠some qb:=dL h2.own h2.box (by decide)
 have eqr:∀k,k<wr.heap.size->k≠nb->k≠qb->v.ownBlock≠some k->W7.heap[k]? =wr.heap[k]? :=fun k hk h1 h3 h4=>by
  rw[h.eq (by omega) h1 h3 h4,hb.block k hk]
 have now7:Row W7 nb 27 (ak c2):=by
  have r4:W4.heap[nb]? =some (.cells (ak c2).toArray 27 (0,0)):=by
   have r3:W3.heap[nb]? =some (.cells (ak cM).toArray 27 (0,0)):=by rw[h.e3,Below.heap_alloc _ _ _ (by omega)];exact h2.now
   rw[h.e4];exact setRow_heap _ _ _ _ _ _ r3
  show W7.heap[nb]? =_
  rw[h.e7,Below.heap_setCell _ ⟨qb,0,none⟩ _ nb (by show nb≠qb;omega),h.gr.block nb (by omega) (fun e=>hvn e.symm),h.e5,Below.heap_alloc _ _ _ (by omega)]
  exact r4
 have box6:Row w6 qb 22 [v]:=by
  show w6.heap[qb]? =_
  rw[h.gr.block qb (by omega) (fun e=>hvq e.symm),h.e5,Below.heap_alloc _ _ _ (by omega),h.e4,setRow_other (by omega),h.e3,Below.heap_alloc _ _ _ (by omega)]
  exact h2.box
 have box7:Row W7 qb 22 [v']:=by
  have hh:=Blk.Blk.set box6 0 v'
  rw[h.e7];exact hh
 have own7:W7.ownsRow (W.heap.size+3) 3 1 v' (nums++ [x.1.x.number]).length ((nums++ [x.1.x.number]).flatMap Cs.encI):=by
  rw[List.length_append,List.flatMap_append,List.flatMap_singleton]
  have hne:v'.ownBlock≠some qb:=dL h.own box6 (by decide)
  refine owns_keep h.own fun g hg=> ?_
  rw[h.e7]
  exact Below.heap_setCell _ ⟨qb,0,none⟩ _ g (fun e=>hne (by rw[hg];exact congrArg some e))
 have hc2:∀g,wr.heap.size<=g->g<w2.heap.size->W7.heap[g]? =w2.heap[g]? :=fun g h1 h3=>h.eq h3 (by omega) (by omega) (fun e=>by have:=hvlt g e;omega)
 have ow7:ConOw wr.heap.size W7 c2:=ho.keepAll hc2
 have apart:∀ {T:TypeId} {sz n:Nat} {u:Value} {xs:List Value},w2.ownsRow wr.heap.size T sz u n xs->∀g,v'.ownBlock=some g->u.ownBlock≠some g:=fun {T sz n u xs} hu g hg e=>by
  have hl:=owns_lt hu e
  rcases h.at_ with e2|e2
  ·rw[e2]at hg
   have:=hvlt g hg;omega
  ·rw[e2]at hg
   injection hg with hg;omega
 refine⟨⟨now7,ow7.mono (Nat.le_trans hbs (Nat.le_refl _)),box7,own7,apart ho.h,apart ho.o, ?_, ?_, ?_, ?_, ?_, ?_,hr.nbq⟩,fun B=>⟨by omega,fun k o hk hko hc=> ?_⟩,⟨by omega,fun k hk _ hX hob=> ?_, ?_⟩⟩
 ·rw[List.foldl_append, <-hr.st]
  show _=stepF (cM.con,nums) x
  unfold stepF
  rw[ha]
 ·intro y hy
  rcases List.mem_append.1 hy with hy|hy
  ·exact hr.days y hy
  ·rw[List.mem_singleton]at hy;rw[hy];exact hx
 ·have:=hr.len;simp;omega
 ·exact hr.z.keep (eqr _ hr.z.lt (by omega) (by omega) (fun e=>by have:=hvlt _ e;omega))
 ·exact hr.d.keep (eqr _ hr.d.lt (by omega) (by omega) (fun e=>by have:=hvlt _ e;omega))
 ·have hos:W7.os=w2.os:=by rw[h.e7];show w6.os=_;rw[h.gr.os,h.e5,h.e4,h.e3];rfl
  have hta:W7.tape=w2.tape:=by rw[h.e7];show w6.tape=_;rw[h.gr.tape,h.e5,h.e4,h.e3];rfl
  have hou:W7.output=w2.output:=by rw[h.e7];show w6.output=_;rw[h.gr.output,h.e5,h.e4,h.e3];rfl
  refine⟨hos.trans h2.below.os,hta.trans h2.below.tape,hou.trans h2.below.output,by have:=h2.below.size;omega,fun k hk=> ?_⟩
  rw[eqr k (by omega) (by omega) (by omega) (fun e=>by have:=hvlt _ e;omega)]
  exact hr.below.block k hk
 ·have hkl:k<wr.heap.size:=(Array.getElem?_eq_some_iff.1 hko).1
  rw[eqr k hkl (fun e=>by subst e;rw[show wr.heap[k]? =_ from hr.now]at hko;cases hko;cases hc) (fun e=>by subst e;rw[show wr.heap[k]? =_ from hr.box]at hko;cases hko;cases hc) (fun e=> ?_)]
  ·exact hko
  ·rcases hr.own.2 with⟨e2,_⟩|⟨g',_,cur,e2,_,hg',_⟩
   ·rw[e2]at e;cases e
   ·rw[e2]at e
    have:g'=k:=Option.some.inj e
    subst this
    rw[hg']at hko;cases hko;cases hc
 ·exact eqr k hk (fun e=>hX (.inl e)) (fun e=>hX (.inr e)) (by rw[<-fK hr.box];exact hob)
 ·rw[fK box7,fK hr.box]
  rcases h.at_ with e|e
  ·exact .inl e
  ·exact .inr ⟨_,e,by omega⟩
theorem IfS.none{W wr w2:World}{c:ConM}{nb qb:Nat}{zs:List Value}{day:Int}{pre:List (Pr×Hd)}{cM:ConM}{nums:List Int}{v:Value}{x:Pr×Hd}(hr:IfS W c nb qb zs day pre cM nums v wr)(hb:Below wr.heap.size wr w2)(hx:x.1.x.day<=day)(ha:bf cM.con x.1.x.patch=none):
  IfS W c nb qb zs day (pre++ [x]) cM nums v w2:=by
 have h:=hr.grow hb
 refine⟨h.now,h.ow,h.box,h.own,h.aph,h.apo, ?_, ?_, ?_,h.z,h.d,h.below,h.nbq⟩
 ·rw[List.foldl_append, <-hr.st]
  show _=stepF (cM.con,nums) x
  unfold stepF
  rw[ha]
 ·intro y hy
  rcases List.mem_append.1 hy with hy|hy
  ·exact hr.days y hy
  ·rw[List.mem_singleton]at hy;rw[hy];exact hx
 ·have:=hr.len;simp;omega
def IfPost(c:ConM)(am:List (Pr×Hd))(day kn:Int)(W:World)(e:Ending)(w':World):Prop:=
 Below W.heap.size W w'/\∃(c':ConM) (v:Value) (nums:List Int),e= .returned (.tuple #[.agg (ak c').toArray,v, .int .i64 (errA c.con am.length)])/\
  ((errA c.con am.length=0/\(∃pl,Ord am pl/\(c'.con,nums)=dp day (c.con,[]) ((bi kn pl).map Prod.fst))/\ConOw W.heap.size w' c'/\nums.length<=4000/\w'.ownsRow W.heap.size 3 1 v nums.length (nums.flatMap Cs.encI))\/
   (errA c.con am.length≠0/\c'=gF/\nums= []/\v= .slice none 0 0))
end Go.Proofs.YtekfoaenomgjgaaGreatDoor
