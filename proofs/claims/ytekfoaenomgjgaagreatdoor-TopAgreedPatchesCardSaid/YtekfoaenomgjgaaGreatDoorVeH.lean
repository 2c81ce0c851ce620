/- Package version: InForce. Condition: the contract and the amendments lie in memory. -/
import Derived.Test.YtekfoaenomgjgaaGreatDoorQD
import Derived.Maps.OwnIn
import Derived.RangeFuncBox
set_option maxRecDepth 100000
set_option linter.all false
namespace Go.Proofs.YtekfoaenomgjgaaGreatDoor
open Go.RowKit Go.W32 Go.Blk Go.Cs Go.Lib Go.Opn Go.Mg Go.Cv Go.Rf
attribute [local go_sem] Oper.semAt_some

section
variable {F:Fence} {m:Nat} {P:Program} {ops:Array Oper} {rest:List Oper} {a:Act} {Q:Exit->Act->World->Prop}
theorem at_loadI(x:Operand){t:TypeId}{d:Option Tmp}{ty:TypeId}{ps:String}{af:Array Edge}{g:Option (Nat×Bool)}{w:World}(h:wpListIn F m P ops Q (⟨d, .load t x,ty,ps,af,g⟩::rest) a w):wpListIn F m P ops Q (⟨d, .load t x,ty,ps,af,g⟩::rest) a w:=h
theorem fP(x:Operand){t:TypeId}{y:Operand}{d:Option Tmp}{ty:TypeId}{ps:String}{af:Array Edge}{g:Option (Nat×Bool)}{w:World}(h:wpListIn F m P ops Q (⟨d, .store t x y,ty,ps,af,g⟩::rest) a w):wpListIn F m P ops Q (⟨d, .store t x y,ty,ps,af,g⟩::rest) a w:=h
theorem cZ{l0:Nat}{op:Oper}{w:World}(hgd:op.guard=none)(ty:TypeId)(x:Operand)(ho:op.op= .load ty x)(b o:Nat)(hx:a.eval x= .pointer (some ⟨b,o,none⟩))(cs:List Value)(d:TypeDesc)(hc:w.rangeAt b o cs)
  (hu:P.underlying ty=some d) (hd:d.isRow=true) (hi:(P.info? ty).map (·.size)=some cs.length) (h:wpListIn (Fence.wide.inRound l0) m P ops Q rest (a.put op.dst (.agg cs.toArray)) w):wpListIn (Fence.wide.inRound l0) m P ops Q (op::rest) a w:=
 Free.listIn_plain hgd (by rw[ho];exact fun c hc=>by cases hc) (wp_load_mid ty x ho b o hx cs d hc hu hd hi h)
theorem dR{l0:Nat}{T:TypeId}{cs:List Value}(hi:(P.info? T).map (·.size)=some cs.length)(hc1:∀v∈cs,v.oneCell'=true)(s t:Nat)(W0 W1:World)(b:Nat)(hb:b=W0.heap.size)(e1:W1=W0.alloc (.cells cs.toArray T))
  (o:Oper) (hgd:o.guard=none) (ho:o.op= .store T (.tmp s) (.tmp t)) (hx:a.eval (.tmp s)= .pointer (some ⟨b,0,none⟩)) (hy:a.eval (.tmp t)= .agg cs.toArray) (old:Array Value) (hold:old.size=cs.length)
  (hk:wpListIn (Fence.wide.inRound l0) m P ops Q rest (a.put o.dst undef) W1):wpListIn (Fence.wide.inRound l0) m P ops Q (o::rest) a (W0.alloc (.cells old T)):=by
 refine Free.listIn_store_row hgd T (.tmp s) (.tmp t) ho b cs.toArray hx hy T old (by rw[hb];exact heap_alloc_new W0 _) (by rw[hi];simp) (by rw[hold];simp) (all_oneCell_toArray hc1) ?_
 rw[hb,World.setRow_alloc_new, <-e1]
 exact hk
end
theorem grown_some{w w':World}{row:Option Nat}(h:Below w.heap.size w w'):w.grownBy w' row:=⟨h.os,h.tape,h.output,h.size,fun k hk _=>h.block k hk⟩
theorem knownL_le{am:List (Pr×Hd)}{pl:List Pl}(kn:Int)(h:Ord am pl):(bi kn pl).length<=am.length:=by
 unfold bi
 refine Nat.le_trans (List.length_filter_le _ _) ?_
 rw[List.length_map,h.1.length_eq,dv]
 exact Nat.le_refl _
theorem fin_if{W w w6 w9:World}{c:ConM}{nb qb D:Nat}{zs:List Value}{day:Int}{pre:List (Pr×Hd)}{cM:ConM}{nums:List Int}{A9:Option Addr}{k9:Nat}(hS:IfS W c nb qb zs day pre cM nums (.slice A9 nums.length k9) w)(hb:Below w.heap.size w w6)
  (hg:w6.grownBy w9 (some (W.heap.size+2))) (hD:W.heap.size<=D) (hd:w.heap[D]? =some (.deferred (some []))):
  Below W.heap.size W (w9.putObj D (.deferred none))/\ConOw W.heap.size (w9.putObj D (.deferred none)) cM/\(w9.putObj D (.deferred none)).ownsRow W.heap.size 3 1 (.slice A9 nums.length k9) nums.length (nums.flatMap Cs.encI):=by
 have hk:∀k,k<w.heap.size->k≠W.heap.size+2->k≠D->(w9.putObj D (.deferred none)).heap[k]? =w.heap[k]? :=fun k h1 h2 h3=>by
  rw[World.putObj_heap_other h3,hg.block k (Nat.lt_of_lt_of_le h1 hb.size) (fun e=>h2 (Option.some.inj e)),hb.block k h1]
 have hz:=hS.below.size
 have ho:ConOw W.heap.size (w9.putObj D (.deferred none)) cM:=hS.ow.keep fun g T hgT hlo hT _=>by
  obtain⟨cs,t,rfl,hne⟩:=hT
  refine hk g (Array.getElem?_eq_some_iff.1 hgT).1 (fun e=> ?_) (fun e=> ?_)
  ·subst e
   rw[show w.heap[W.heap.size+2]? =_ from hS.z]at hgT
   injection hgT with hgT
   injection hgT with _ h2
   exact hne h2.symm
  ·subst e
   rw[hd]at hgT;cases hgT
 have hown:(w9.putObj D (.deferred none)).ownsRow (W.heap.size+3) 3 1 (.slice A9 nums.length k9) nums.length (nums.flatMap Cs.encI):=owns_keep hS.own fun g hgg=>by
  have hl:=owns_lt hS.own hgg
  refine hk g hl.2 (by omega) (fun e=> ?_)
  subst e
  rcases hS.own.2 with⟨e2,_⟩|⟨g',_,cur,e2,_,hg',_⟩
  ·rw[e2]at hgg;cases hgg
  ·rw[e2]at hgg
   have:g'=g:=Option.some.inj hgg
   subst this
   rw[hg']at hd;cases hd
 refine⟨⟨?_, ?_, ?_, ?_,fun k hkk=> ?_⟩,ho,ap hown (by omega)⟩
 ·show w9.os=_;rw[hg.os,hb.os,hS.below.os]
 ·show w9.tape=_;rw[hg.tape,hb.tape,hS.below.tape]
 ·show w9.output=_;rw[hg.output,hb.output,hS.below.output]
 ·have h1:=hg.size;have h2:=hb.size;simp[World.putObj];omega
 ·rw[hk k (by omega) (by omega) (by omega)];exact hS.below.block k hkk
set_option maxHeartbeats 8000000 in
theorem gP(c:ConM)(A:Option Addr)(k:Nat)(am:List (Pr×Hd))(day kn:Int)(W:World)(hc:ConAt W c)(hz:ConSz c)(hl:SL W 22 bH A am)(hp:∀x∈am,PatAt W x.1.x.patch x.2)(hok:∀x∈am,PatOk x.1.x.patch/\x.1.x.patch.new.start.length<=1000000)(hn:am.length<=4000):
  Calls Tryz.prog 9 #[.agg (ak c).toArray, .slice A am.length k, .int .i64 day, .int .i64 kn] W (IfPost c am day kn W):=by
 obtain⟨R,eR⟩:∃R,R=IfPost c am day kn W:=⟨_,rfl⟩
 rw[<-eR]
 have ER:=h_ eR
 clear eR
 obtain⟨cs,ecs⟩:∃cs,cs=ak c:=⟨_,rfl⟩
 obtain⟨zs,ezs⟩:∃zs,zs=ak gF:=⟨_,rfl⟩
 obtain⟨W1,e1⟩:∃W1,W1=((W.alloc (.cells cs.toArray 27)).alloc (.cells #[.int .i64 day] 3)).alloc (.cells zs.toArray 27):=⟨_,rfl⟩
 have s1:(W.alloc (.cells cs.toArray 27)).heap.size=W.heap.size+1:=by simp
 have s2:((W.alloc (.cells cs.toArray 27)).alloc (.cells #[.int .i64 day] 3)).heap.size=W.heap.size+2:=by simp
 have hc1:Row W1 W.heap.size 27 cs:=by rw[e1];exact((Row.new W 27 cs).alloc _).alloc _
 have hd1:Row W1 (W.heap.size+1) 3 [.int .i64 day]:=by rw[e1, <-s1];exact(Row.new _ 3 [.int .i64 day]).alloc _
 have hz1:Row W1 (W.heap.size+2) 27 zs:=by rw[e1, <-s2];exact Row.new _ 27 zs
 have hb1:Below W.heap.size W W1:=by rw[e1];exact(((Below.refl _ _).alloc (Nat.le_refl _) _).alloc (by simp) _).alloc (by rw[s2];omega) _
 have HZ:Hid ((#[.int .i64 0, .slice none 0 0, .slice none 0 0, .slice none 0 0, .slice none 0 0, .int .i64 0, .slice none 0 0]:Array Value)=zs.toArray):=h_ (by rw[ezs];rfl)
 have HZ1:Hid (∀v∈zs,v.oneCell'=true):=h_ (by rw[ezs];exact aX _)
 have HI:=h_ (aK zs (by rw[ezs];rfl))
 have HIC:=h_ (aK cs (by rw[ecs];rfl))
 have E1:Hid (((W.alloc (.cells cs.toArray 27)).alloc (.cells #[.int .i64 day] 3)).alloc (.cells #[.int .i64 0, .slice none 0 0, .slice none 0 0, .slice none 0 0, .slice none 0 0, .int .i64 0, .slice none 0 0] 27)=W1):=h_ (by rw[HZ.out];exact e1.symm)
 have CK:=check_any c A am.length k W1 (hc.below hb1 (Nat.le_refl _)) hz
 rw[<-ecs]at CK
 have CK:=h_ CK
 have HC1:=h_ hc1
 have HD1:=h_ hd1
 have HZR1:=h_ hz1
 have HB1:=h_ hb1
 have HMC:=h_ hc1.rg
 have ECS:=h_ ecs
 have EZS:=h_ ezs
 have HCON:=h_ hc
 have HSZ:=h_ hz
 have HSL:=h_ hl
 have HP:=h_ hp
 have HOK:=h_ hok
 have HN:=h_ hn
 have HAK:Hid (am≠ []->∀g,A.map (·.block)=some g->g<W.heap.size/\∃c t f,W.heap[g]? =some (.cells c t f)):=h_ fun hne g hg=>by
  obtain⟨b,off,hA,hc⟩:=hl.cells hne
  rw[hA]at hg
  have:b=g:=Option.some.inj hg
  subst this
  obtain⟨x,hx⟩:∃x,am[0]? =some x:=by
   cases am with
   |nil=>exact absurd rfl hne
   |cons y r=>exact⟨y,rfl⟩
  have h0:=hc 0 x hx 0 (.int .i64 x.1.x.number) rfl
  exact⟨World.block_lt_of_cell? W _ h0,cells_of h0⟩
 rw[<-ecs]
 clear ecs ezs e1 s1 s2 hc1 hd1 hz1 hb1 hc hz hl hp hok hn
 refine calls_marks 4 Tryz.func9 rfl ?_
 simp only[Tryz.ntmps9,List.size_toArray,List.length_cons,List.length_nil,Nat.reduceAdd,Nat.reduceSub,Array.replicate_succ,Array.replicate_zero,List.push_toArray,List.append_toArray,List.nil_append,List.cons_append]
 go_wp2_with (first
  |(simp only[E1.out])
  |(refine ae (.tmp 4) ?_;refine wpList_load_mid rfl 27 (.tmp 4) rfl W.heap.size 0 rfl cs _ HMC.out Tryz.underlying27 rfl HIC.out ?_))
 refine CK.out.mono ?_
 rintro e w2 ⟨rfl,hb2⟩
 have HC2:=h_ (HC1.out.below hb2 HC1.out.lt)
 have HD2:=h_ (HD1.out.below hb2 HD1.out.lt)
 have HZR2:=h_ (HZR1.out.below hb2 HZR1.out.lt)
 have HB2:=h_ (HB1.out.trans (hb2.mono HB1.out.size))
 obtain⟨ec,eec⟩:∃ec,ec=errA c.con am.length:=⟨_,rfl⟩
 rw[<-eec]
 have EEC:=h_ eec
 clear CK HMC hb2 HC1 HD1 HZR1 HB1 eec
 by_cases h0:ec=0
 rotate_left
 ·have q:(ec !=0)=true:=by simpa using h0
  have H0:=h_ h0
  clear h0
  go_wp2_with (refine ai (.tmp 8) ?_;refine Hk.wpList_store_own rfl 27 (.tmp 8) (.tmp 22) rfl (W.heap.size+2) rfl zs (congrArg Value.agg HZ.out) zs 27 HZR2.out HI.out rfl HZ1.out ?_;intro w9 h91 h92 h93;have H91:=h_ h91;have H92:=h_ h92;clear h91 h92 h93;simp only[Pt])
  refine leave_if0 4 _ rfl rfl rfl (by rw[EZS.out];rfl) H91.out ?_
  rw[ER.out]
  exact⟨HB2.out.trans (aj H92.out (fun g hg=>by injection hg with e;omega) HB2.out.size),gF, .slice none 0 0,[],(by rw[EEC.out,EZS.out];rfl), .inr ⟨by rw[<-EEC.out];exact H0.out,rfl,rfl,rfl⟩⟩
 have q:(ec !=0)=false:=by simpa using h0
 have HE0:Hid (errA c.con am.length=0):=h_ (by rw[<-EEC.out];exact h0)
 have HEC:Hid (dx c.con=0):=h_ (by
  have h:=HE0.out
  unfold errA at h
  by_cases hh:dx c.con=0
  ·exact hh
  ·rw[if_neg hh]at h;exact absurd h (by decide))
 have CV:=vcop_any c w2 (HCON.out.below HB2.out (Nat.le_refl _)) HSZ.out (ci HEC.out)
 rw[<-ECS.out]at CV
 have CV:=h_ CV
 have HMC:=h_ HC2.out.rg
 clear h0
 go_wp2_with (refine ae (.tmp 4) ?_;refine wpList_load_mid rfl 27 (.tmp 4) rfl W.heap.size 0 rfl cs _ HMC.out Tryz.underlying27 rfl HIC.out ?_)
 refine CV.out.mono ?_
 rintro e w3 ⟨hb3,c1,rfl,hcon1,how1⟩
 obtain⟨ds,eds⟩:∃ds,ds=ak c1:=⟨_,rfl⟩
 have hdl:ds.length=7:=by rw[eds];rfl
 have hd1:∀v∈ds,v.oneCell'=true:=by rw[eds];exact aX _
 obtain⟨W4,e4⟩:∃W4,W4=w3.alloc (.cells ds.toArray 27):=⟨_,rfl⟩
 have HST:=h_ (Sel.store_box (aK ds hdl) hd1 12 25 w3 W4 _ rfl e4)
 obtain⟨W7,e7⟩:∃W7,W7=((W4.alloc (.cells #[.slice none 0 0] 22)).alloc (.cells #[.slice A am.length k] 35)).alloc (.cells #[.int .i64 kn] 3):=⟨_,rfl⟩
 have s4:W4.heap.size=w3.heap.size+1:=by rw[e4];simp
 have s5:(W4.alloc (.cells #[.slice none 0 0] 22)).heap.size=w3.heap.size+2:=by simp[s4]
 have s6:((W4.alloc (.cells #[.slice none 0 0] 22)).alloc (.cells #[.slice A am.length k] 35)).heap.size=w3.heap.size+3:=by simp[s4]
 have s7:W7.heap.size=w3.heap.size+4:=by rw[e7];simp[s4]
 have hb37:Below w3.heap.size w3 W7:=by
  rw[e7,e4]
  exact((((Below.refl _ _).alloc (Nat.le_refl _) _).alloc (by simp) _).alloc (by simp;omega) _).alloc (by simp;omega) _
 have hb23:=hb3
 have hbW3:Below W.heap.size W w3:=HB2.out.trans (hb3.mono HB2.out.size)
 have hlt2:W.heap.size+2<w2.heap.size:=HZR2.out.lt
 have hlt3:W.heap.size+2<w3.heap.size:=Nat.lt_of_lt_of_le hlt2 hb3.size
 have r4:Row W7 w3.heap.size 27 ds:=by rw[e7,e4];exact(((Row.new w3 27 ds).alloc _).alloc _).alloc _
 have r5:Row W7 (w3.heap.size+1) 22 [.slice none 0 0]:=by rw[e7, <-s4];exact((Row.new W4 22 [.slice none 0 0]).alloc _).alloc _
 have r6:Row W7 (w3.heap.size+2) 35 [.slice A am.length k]:=by rw[e7, <-s5];exact(Row.new _ 35 [.slice A am.length k]).alloc _
 have r7:Row W7 (w3.heap.size+3) 3 [.int .i64 kn]:=by rw[e7, <-s6];exact Row.new _ 3 [.int .i64 kn]
 have hS0:IfS W c w3.heap.size (w3.heap.size+1) zs day [] c1 [] (.slice none 0 0) W7:=by
  refine⟨by rw[<-eds];exact r4,(how1.keepAll fun g _ hg=>hb37.block g hg).mono (by omega),r5,World.ownsRow_nil _ _ _ _,fun g e=>(by cases e),fun g e=>(by cases e),(by rw[hcon1];rfl),fun x hx=>(by cases hx),Nat.le_refl _, ?_, ?_,hbW3.trans (hb37.mono hbW3.size),by omega⟩
  ·exact(HZR2.out.below hb3 HZR2.out.lt).below hb37 hlt3
  ·exact(HD2.out.below hb3 HD2.out.lt).below hb37 (by omega)
 have hCt:CtIs (fun g=>g=w3.heap.size\/g=w3.heap.size+1) (w3.heap.size+1) (w3.heap.size+2) (w3.heap.size+3) A k am kn W7:=by
  have ho:obAt (w3.heap.size+1) W7=none:=by rw[fK r5];rfl
  have hbW7:Below W.heap.size W W7:=hbW3.trans (hb37.mono hbW3.size)
  refine⟨r6.at rfl,r7.at rfl,HSL.out.below hbW7 (Nat.le_refl _),⟨by omega,by rw[ho];simp⟩,⟨by omega,by rw[ho];simp⟩,r5.lt,fun hne g hg=> ?_⟩
  obtain⟨h1,h2⟩:=HAK.out hne g hg
  exact⟨Nat.lt_of_lt_of_le h1 hbW7.size,by rw[hbW7.block g h1];exact h2,by omega,by rw[ho];simp⟩
 have HSQ:=h_ (counting_seq 3 (by decide) (w3.heap.size+1) (w3.heap.size+2) (w3.heap.size+3) (fun g=>g=w3.heap.size\/g=w3.heap.size+1) A k am kn HN.out W7 r5.lt (fun g hg=>by omega) (by rw[fK r5];rfl) hCt)
 have HS0:=h_ hS0
 have HDL:=h_ hdl
 have HL3:=h_ hlt3
 have HS7:=h_ s7
 have E7:Hid (((W4.alloc (.cells #[.slice none 0 0] 22)).alloc (.cells #[.slice A am.length k] 35)).alloc (.cells #[.int .i64 kn] 3)=W7):=h_ e7.symm
 have S4:=h_ s4
 have HDS:Hid ((ak c1).toArray=ds.toArray):=h_ (by rw[eds])
 rw[HDS.out]
 clear eds hd1 hdl e4 e7 s4 s5 s6 s7 hb37 hb23 hbW3 hlt2 hlt3 r4 r5 r6 r7 hS0 hCt hb3 how1 hcon1 CV HMC
 go_wp2_with (refine ai (.tmp 12) ?_;refine HST.out _ _ _ _ _ rfl rfl rfl rfl _ (by simp[HDL.out]) ?_;simp only[Pt])
 refine(counting_any A k am.length kn _).mono ?_
 rintro e w' ⟨rfl,rfl⟩
 go_wp2_with fail
 rw[E7.out,S4.out]
 have HXP:Hid (∀g,(g=w3.heap.size\/g=w3.heap.size+1)->g<W7.heap.size):=h_ fun g hg=>by have:=HS7.out;omega
 refine(wpIn_wide (n:=4)).1 (wpIn_rangeFunc_ownH (α:=AmIn am) (encs:=encA1) (Kp:=KpX (fun g=>g=w3.heap.size\/g=w3.heap.size+1) (w3.heap.size+1)) rfl (by decide) rfl trivial (enters_of Tryz.func64 (by kernel_rfl) rfl) HSQ.out (fun h g=>h.trans g)
  (fun w' l o o' hle ho hnc _=>KpX.book w' l o o' (by have:=HXP.out (w3.heap.size+1) (.inr rfl);omega) ho hnc) (Below.refl _ _) (fun _=>rfl)
  (fun pre w=> ∃cM nums v,IfS W c w3.heap.size (w3.heap.size+1) zs day (dV pre) cM nums v w) (fun cd pre w=>cd= .exit 0/\∃pre' x,pre=pre'++ [x]/\day<x.1.1.x.day/\∃cM nums v,IfS W c w3.heap.size (w3.heap.size+1) zs day (dV pre') cM nums v w)
  ?hI ?hIx ⟨_,_,_,HS0.out⟩ (fun x a' w=> ∃ab,a'=({tmps:= #[.agg cs.toArray, .slice A am.length k, .int .i64 day, .int .i64 kn, .pointer (some ⟨W.heap.size,0,none⟩),undef, .pointer (some ⟨W.heap.size+1,0,none⟩),undef, .pointer (some ⟨W.heap.size+1+1,0,none⟩), .slice none 0 0, .int .i64 0, .int .i64 ec, .pointer (some ⟨w3.heap.size,0,none⟩), .pointer (some ⟨w3.heap.size+1,0,none⟩), .pointer (some ⟨ab,0,none⟩),undef,undef, .agg cs.toArray, .slice A am.length k, .int .i64 ec, .int .i64 ec, .bool false,undef,undef, .agg cs.toArray, .agg ds.toArray, .slice A am.length k, .int .i64 kn, .func (.func 64) #[] #[.pointer (some ⟨w3.heap.size+1+1,0,none⟩), .pointer (some ⟨w3.heap.size+1+1+1,0,none⟩)], .agg (bH x.1).toArray,undef,undef,undef,undef,undef,undef,undef,undef,undef,undef,undef,undef,undef,undef,undef,undef,undef,undef,undef,undef,undef],defers:= []}:Act)/\Row w ab 62 (bH x.1)) ?hAx ?assign ?body ?done ?stop)
 case hI=>
  rintro pre w w' row ⟨cM,nums,v,hS⟩ hg hr
  exact⟨cM,nums,v,hS.own_from (by have:=HS0.out.below.size;omega) hg hr⟩
 case hIx=>
  rintro cd pre w w' row ⟨e,pre',x,e2,hx,cM,nums,v,hS⟩ hg hr
  exact⟨e,pre',x,e2,hx,cM,nums,v,hS.own_from (by have:=HS0.out.below.size;omega) hg hr⟩
 case hAx=>
  rintro x a' _ w w' row ⟨ab,e,hrw⟩ hg hr
  exact⟨ab,e,dZ hrw hg fun r e=>(hr r e).2⟩
 case assign=>
  intro l pre x wr K hI hK
  obtain⟨ys,eys⟩:∃ys,ys=bH x.1:=⟨_,rfl⟩
  have hyl:ys.length=22:=by rw[eys];rfl
  have hIY:(Tryz.prog.info? 62).map (·.size)=some ys.length:=by rw[hyl];kernel_rfl
  obtain⟨W1',e1'⟩:∃W1',W1'=wr.alloc (.cells ys.toArray 62):=⟨_,rfl⟩
  have hb1':Below wr.heap.size wr W1':=by rw[e1'];exact(Below.refl _ _).alloc (Nat.le_refl _) _
  have HK:=h_ hK
  have HSI:=h_ hI
  have HYL:=h_ hyl
  have HIY:=h_ hIY
  have HY1:Hid (∀v∈ys,v.oneCell'=true):=h_ (by rw[eys];exact dG x.1)
  have E1':=h_ e1'
  have HB1':=h_ hb1'
  have EYS:=h_ eys
  have HRY:Hid (Row W1' wr.heap.size 62 ys):=h_ (by rw[e1'];exact Row.new _ _ _)
  dsimp only[encA1]
  rw[<-eys]
  clear hK hI hyl hIY e1' hb1' eys
  gi_wp2_with (refine fP (.tmp 14) ?_;refine dR HIY.out HY1.out 14 29 wr W1' wr.heap.size rfl E1'.out _ rfl rfl rfl rfl _ (by simp[HYL.out]) ?_;simp only[Pt])
  obtain⟨ab,eab⟩:∃ab,ab=wr.heap.size:=⟨_,rfl⟩
  rw[<-eab,EYS.out]
  refine HK.out _ W1' (keeps_of HB1'.out|>.from _) (KpX.below HB1'.out ?_) ?_ ⟨ab,rfl,by rw[eab, <-EYS.out];exact HRY.out⟩
  ·obtain⟨cM,nums,v,hS⟩:=HSI.out
   exact hS.box.lt
  ·obtain⟨cM,nums,v,hS⟩:=HSI.out
   exact⟨cM,nums,v,hS.grow HB1'.out⟩
 case body=>
  rintro l pre x a' wr hle hloop ⟨cM,nums,v,hS⟩ ⟨ab,rfl,hab⟩ hlen
  have ca0:=hab.at (show(bH x.1)[0]? =some (.int .i64 x.1.1.x.number) from rfl)
  have ca1:=hab.at (show(bH x.1)[1]? =some (.int .i64 x.1.1.x.day) from rfl)
  have cd:=hS.d.at (show([.int .i64 day]:List Value)[0]? =some (.int .i64 day) from rfl)
  have HS:=h_ hS
  have HAB:=h_ hab
  clear hS hab hle hloop
  by_cases hx:day<x.1.1.x.day
  ·have hq:decide (day<x.1.1.x.day)=true:=decide_eq_true hx
   have HX:=h_ hx
   clear hx
   gi_wp2
   exact⟨KeepsFrom.refl _ _,rfl,pre,x,rfl,HX.out,cM,nums,v,HS.out⟩
  ·have hq:decide (day<x.1.1.x.day)=false:=decide_eq_false hx
   have HX:Hid (x.1.1.x.day<=day):=h_ (by omega)
   clear hx
   obtain⟨ms,ems⟩:∃ms,ms=ak cM:=⟨_,rfl⟩
   obtain⟨ps,eps⟩:∃ps,ps=aw x.1.1.x.patch x.1.2:=⟨_,rfl⟩
   have HMM:Hid (wr.rangeAt w3.heap.size 0 ms):=h_ (by rw[ems];exact HS.out.now.rg)
   have HMP:Hid (wr.rangeAt ab 3 ps):=h_ (HAB.out.range fun j u hj=>by
    rw[eps]at hj
    show([.int .i64 x.1.1.x.number, .int .i64 x.1.1.x.day, .int .i64 x.1.1.known]++aw x.1.1.x.patch x.1.2)[3+j]? =_
    rw[List.getElem?_append_right (by simp)]
    simpa using hj)
   have HIM:=h_ (aK ms (by rw[ems];rfl))
   have HIPt:Hid ((Tryz.prog.info? 47).map (·.size)=some ps.length):=by show _=_;rw[eps];kernel_rfl
   have hpa:=HP.out x.1 x.2
   have hok:=HOK.out x.1 x.2
   have CA:=gZ cM x.1.1.x.patch x.1.2 wr HS.out.ow.at HS.out.ow.sz ⟨hpa.cl.below HS.out.below (Nat.le_refl _),hpa.st.below HS.out.below (Nat.le_refl _)⟩ hok.1.cl (hok.1.nums _ (by unfold Pat.nums;simp)) hok.2
   rw[<-ems, <-eps]at CA
   have CA:=h_ CA
   clear ems eps hpa hok
   gi_wp2_with (first
    |(refine at_loadI (.tmp 12) ?_;refine cZ rfl 27 (.tmp 12) rfl w3.heap.size 0 rfl ms _ HMM.out Tryz.underlying27 rfl HIM.out ?_)
    |(refine at_loadI (.tmp 36) ?_;refine cZ rfl 47 (.tmp 36) rfl ab 3 rfl ps _ HMP.out Tryz.underlying47 rfl HIPt.out ?_))
   refine⟨trivial,Free.calls_in ?_⟩
   refine CA.out.mono ?_
   rintro e2 w5 ⟨hb5,c2,n,rfl,hor⟩
   obtain⟨es2,ees2⟩:∃es2,es2=ak c2:=⟨_,rfl⟩
   have hel2:es2.length=7:=by rw[ees2];rfl
   have he21:∀u∈es2,u.oneCell'=true:=by rw[ees2];exact aX _
   have HI2:=h_ (aK es2 hel2)
   obtain⟨W6,e6⟩:∃W6,W6=w5.alloc (.cells es2.toArray 27):=⟨_,rfl⟩
   have hb6:Below w5.heap.size w5 W6:=by rw[e6];exact(Below.refl _ _).alloc (Nat.le_refl _) _
   have hbr6:Below wr.heap.size wr W6:=hb5.trans (hb6.mono hb5.size)
   have HST6:Hid (∀ {m:Nat} {ops:Array Oper} {rest:List Oper} {a:Act} {Q:Exit->Act->World->Prop} (o:Oper),o.guard=none->o.op= .store 27 (.tmp 15) (.tmp 39)->a.eval (.tmp 15)= .pointer (some ⟨w5.heap.size,0,none⟩)->a.eval (.tmp 39)= .agg es2.toArray->∀old:Array Value,old.size=7->wpListIn (Fence.wide.inRound l) m Tryz.prog ops Q rest (a.put o.dst undef) W6->wpListIn (Fence.wide.inRound l) m Tryz.prog ops Q (o::rest) a (w5.alloc (.cells old 27))):=h_ fun o hgd ho hx hy old hold hk=>
    dR HI2.out he21 15 39 w5 W6 w5.heap.size rfl e6 o hgd ho hx hy old (by rw[hold,hel2]) hk
   have HES2:Hid ((ak c2).toArray=es2.toArray):=h_ (by rw[ees2])
   rw[HES2.out]
   have HX5:=h_ hor
   have HB5:=h_ hb5
   have HBR6:=h_ hbr6
   have hR6:Row W6 w5.heap.size 27 es2:=by rw[e6];exact Row.new _ _ _
   have HR6:=h_ hR6
   have E6:=h_ e6
   have EES2:=h_ ees2
   have HE21:=h_ he21
   have HEL2:=h_ hel2
   clear hor hb5 hb6 hbr6 hel2 he21 hR6 e6 ees2 CA HMM HMP ca0 ca1 cd
   by_cases hn0:n=0
   rotate_left
   ·have q9:(n==0)=false:=by simpa using hn0
    have hno:bf cM.con x.1.1.x.patch=none:=by
     rcases HX5.out with⟨h,_⟩|⟨_,h⟩
     ·exact absurd h hn0
     ·exact h
    have HF:Hid (KeepsFrom W7.heap.size wr W6/\KpX (fun g=>g=w3.heap.size\/g=w3.heap.size+1) (w3.heap.size+1) wr W6/\∃cM nums v,IfS W c w3.heap.size (w3.heap.size+1) zs day (dV (pre++ [x])) cM nums v W6):=h_ ⟨(keeps_of HBR6.out).from _,KpX.below HBR6.out HS.out.box.lt,cM,nums,v,by rw[dz];exact HS.out.none HBR6.out HX.out hno⟩
    clear hn0 hno
    gi_wp2_with (refine fP (.tmp 15) ?_;refine HST6.out _ rfl rfl rfl rfl _ (by simp) ?_;simp only[Pt])
    exact HF.out
   ·have q9:(n==0)=true:=by simpa using hn0
    obtain⟨hyes,how2⟩:bf cM.con x.1.1.x.patch=some c2.con/\ConOw wr.heap.size w5 c2:=by
     rcases HX5.out with⟨_,h1,h2⟩|⟨h,_⟩
     ·exact⟨h1,h2⟩
     ·exact absurd hn0 h
    have hS6:=HS.out.grow HBR6.out
    have hA6:=HAB.out.below HBR6.out HAB.out.lt
    have hq6:=hS6.nbq
    have habn:ab≠w3.heap.size:=fun e=>by
     have h1:=hA6
     rw[e]at h1
     have h2:=(show W6.heap[w3.heap.size]? =_ from h1).symm.trans (show W6.heap[w3.heap.size]? =_ from hS6.now)
     injection h2 with h2
     injection h2 with _ h2
     exact absurd h2 (by decide)
    obtain⟨W8,e8⟩:∃W8,W8=W6.setRow w3.heap.size es2.toArray:=⟨_,rfl⟩
    have hbx8:Row W8 (w3.heap.size+1) 22 [v]:=by rw[e8];exact hS6.box.keep (setRow_other (by omega))
    have hab8:Row W8 ab 62 (bH x.1):=by rw[e8];exact hA6.keep (setRow_other habn)
    have hvn:v.ownBlock≠some w3.heap.size:=dL hS6.own hS6.now (by decide)
    have hown8:W8.ownsRow (W.heap.size+3) 3 1 v nums.length (nums.flatMap Cs.encI):=by
     rw[e8]
     exact owns_keep hS6.own fun g hg=>setRow_other (fun e=>hvn (by rw[hg,e]))
    have hvq:v.ownBlock≠some (w3.heap.size+1):=dL hown8 hbx8 (by decide)
    obtain⟨W9,e9⟩:∃W9,W9=W8.alloc (.cells #[.int .i64 x.1.1.x.number] 3):=⟨_,rfl⟩
    have hown9:W9.ownsRow (W.heap.size+3) 3 1 v nums.length (nums.flatMap Cs.encI):=by rw[e9];exact hown8.alloc _
    have hbx9:Row W9 (w3.heap.size+1) 22 [v]:=by rw[e9];exact hbx8.alloc _
    have hsz8:W8.heap.size=W6.heap.size:=by rw[e8];simp[World.setRow]
    have hnew9:∀(j:Nat) (u:Value),([.int .i64 x.1.1.x.number]:List Value)[j]? =some u->W9.cell? ((⟨W8.heap.size,0,none⟩:Addr).add j)=some u:=fun j u hu=>by
     rw[e9,Blk.addr_add,Nat.zero_add]
     exact(Row.new W8 3 [.int .i64 x.1.1.x.number]).at hu
    have hlen9:nums.length<=4000:=by have:=HS.out.len;rw[valsA_len]at this;have:=HN.out;omega
    have hbase9:W.heap.size+3<=W9.heap.size:=by rw[e9];simp[hsz8];have:=hS6.below.size;have:=hS6.box.lt;have:=hS6.nbq;omega
    have HSTEP:Hid (∀v' w8,w8.ownsRow (W.heap.size+3) 3 1 v' (nums.length+1) (nums.flatMap Cs.encI++ [.int .i64 x.1.1.x.number])->W9.grownBy w8 v.ownBlock->(v'.ownBlock=v.ownBlock\/v'.ownBlock=some W9.heap.size)->KeepsFrom W7.heap.size wr (w8.setCell ⟨w3.heap.size+1,0,none⟩ v')/\KpX (fun g=>g=w3.heap.size\/g=w3.heap.size+1) (w3.heap.size+1) wr (w8.setCell ⟨w3.heap.size+1,0,none⟩ v')/\∃cM nums v,IfS W c w3.heap.size (w3.heap.size+1) zs day (dV (pre++ [x])) cM nums v (w8.setCell ⟨w3.heap.size+1,0,none⟩ v')):=h_ fun v' w8 h1 h2 h3=>by
     obtain⟨q1,q2,q3⟩:=HS.out.step (W3:=W6) (W4:=W8) (W5:=W9) (w6:=w8) (W7:=w8.setCell ⟨w3.heap.size+1,0,none⟩ v') HB5.out how2 HX.out hyes ⟨by rw[EES2.out]at E6;exact E6.out,by rw[EES2.out]at e8;exact e8,e9,h1,h2,h3,rfl⟩
     exact⟨q2 _,q3,_,_,_,by rw[dz];exact q1⟩
    have HBX8:Hid (∀w8:World,W9.grownBy w8 v.ownBlock->w8.cell? ⟨w3.heap.size+1,0,none⟩=some v/\w8.frozen? ⟨w3.heap.size+1,0,none⟩=false):=h_ fun w8 hg=>by
     have hr:Row w8 (w3.heap.size+1) 22 [v]:=hbx9.keep (hg.block _ hbx9.lt (fun e=>hvq e.symm))
     exact⟨hr.at rfl,Blk.Blk.frozen hr 0⟩
    obtain⟨i0,hi0,hz0,hsz0,hby0⟩:=bG info_i
    obtain⟨A9,k9,rfl⟩:=cz hown8
    have cv8:=hbx8.at (show([.slice A9 nums.length k9]:List Value)[0]? =some (.slice A9 nums.length k9) from rfl)
    have cn8:=hab8.at (show(bH x.1)[0]? =some (.int .i64 x.1.1.x.number) from rfl)
    have HMX:=h_ HR6.out.rg
    have HN6:=h_ hS6.now
    have HOW9:=h_ hown9
    have HNW9:=h_ hnew9
    have HBS9:=h_ hbase9
    have HLN9:=h_ hlen9
    have E8:Hid (W6.setRow w3.heap.size es2.toArray=W8):=h_ e8.symm
    have E9:Hid (W8.alloc (.cells #[.int .i64 x.1.1.x.number] 3)=W9):=h_ e9.symm
    have HMS:Hid ((ak cM).toArray.size=es2.toArray.size):=h_ (by rw[List.size_toArray,List.size_toArray,HEL2.out];rfl)
    clear hn0 hyes how2 hS6 hA6 hq6 habn e8 hbx8 hab8 hvn hown8 hvq e9 hown9 hbx9 hsz8 hnew9 hlen9 hbase9
    gi_wp2_with (first
     |(simp only[E9.out])
     |(simp only[E8.out])
     |(refine fP (.tmp 15) ?_;refine HST6.out _ rfl rfl rfl rfl _ (by simp) ?_;simp only[Pt])
     |(refine at_loadI (.tmp 15) ?_;refine cZ rfl 27 (.tmp 15) rfl w5.heap.size 0 rfl es2 _ HMX.out Tryz.underlying27 rfl HI2.out ?_)
     |(refine fP (.tmp 12) ?_;refine Free.listIn_store_row rfl 27 (.tmp 12) (.tmp 43) rfl w3.heap.size es2.toArray rfl rfl 27 (ak cM).toArray HN6.out (by rw[HI2.out];simp) HMS.out (all_oneCell_toArray HE21.out) ?_;simp only[Pt])
     |(gi_at_builtin;refine wpListIn_append_own_at _ rfl (.tmp 44) (.tmp 47) 22 rfl (W.heap.size+3) 3 i0 (.int .i64 0) 1 8 Tryz.underlying22 hi0 hz0 hsz0 hby0 rfl (by decide) (.slice A9 nums.length k9) nums.length (nums.flatMap Cs.encI) rfl HOW9.out ⟨W8.heap.size,0,none⟩ 1 1 [.int .i64 x.1.1.x.number] rfl rfl HNW9.out (by simp[Value.oneCell']) (by have:=HLN9.out;unfold maxLen;omega) (by have:=HLN9.out;omega) HBS9.out ?_;intro v9 w9 hown' hgr _ hat;have HST9:=h_ (HSTEP.out v9 w9 hown' hgr hat);obtain⟨c9,f9⟩:=HBX8.out w9 hgr;obtain⟨A10,k10,rfl⟩:=cz hown';clear hown' hgr hat))
    exact HST9.out
 case done=>
  rintro D xs w hD ⟨pl,hord,hv⟩ ⟨cM,nums,v,hS⟩ hK
  obtain⟨A9,k9,rfl⟩:=cz hS.own
  have HFN:Hid ((cM.con,nums)=dp day (c.con,[]) ((bi kn pl).map Prod.fst)):=h_ (by rw[<-hv,force_fold day _ _ hS.days];exact hS.st)
  have HLN:Hid (nums.length<=4000):=h_ (by have h1:=hS.len;rw[hv]at h1;have h2:=knownL_le kn hord;have h3:=HN.out;omega)
  obtain⟨ms,ems⟩:∃ms,ms=ak cM:=⟨_,rfl⟩
  have HS:=h_ hS
  have hbx:=hS.box
  have hnw:=hS.now
  rw[<-ems]at hnw
  have HZS:=h_ hS.z
  have HIM:=h_ (aK ms (by rw[ems];rfl))
  have HM1:Hid (∀v∈ms,v.oneCell'=true):=h_ (by rw[ems];exact aX _)
  have HML:Hid (zs.length=ms.length):=h_ (by rw[ems,EZS.out];rfl)
  have hlz:=hS.nbq
  have CF:Hid (∀w',w.grownBy w' (some (W.heap.size+2))->w'.rangeAt w3.heap.size 0 ms/\w'.cell? ⟨w3.heap.size+1,0,none⟩=some (.slice A9 nums.length k9)):=h_ fun w' hg=>⟨(hnw.keep (hg.block _ hnw.lt (fun e=>by injection e;omega))).rg,(hbx.keep (hg.block _ hbx.lt (fun e=>by injection e;omega))).at rfl⟩
  have EMS:=h_ ems
  have HD:=h_ hD
  have HKD:=h_ hK
  have HORD:=h_ hord
  clear hS hnw ems hD hK hord
  go_wp2_with fail
  letI:Fre2.Rel:=⟨fun w w'=>w.grownBy w' (some (W.heap.size+2)),fun w=>World.grownBy.refl _ _,fun a b c h g=>World.grownBy.trans h g⟩
  refine Fre4.wp_region_free 3 [(2, .det undef)] (fun w2=>w.grownBy w2 (some (W.heap.size+2))) (fun d w2=>Row w2 (W.heap.size+2) 27 (if d 2 then ms else zs)) (by kernel_rfl) (by kernel_rfl) (Fre4.mono_det (fun j mk r hf=>by simp only[Free.find]at hf;repeat' (first|cases hf|split at hf))) (grown_some (Below.refl _ _).drew) (fun _ _ h r=>World.grownBy.trans h r) (HZS.out.below (Below.refl _ _).drew HZS.out.lt) (fun k d w hk hc=> ?_) ?_
  ·have e2:Fre4.upd d k 2=d 2:=by
    unfold Fre4.upd
    rw[if_neg (fun e=>by subst e;simp[Free.find]at hk)]
   rw[e2];exact hc
  simp only[List.take_succ_cons,List.take_zero]
  apply Fre4.chain_still (by first|exact Free.wanted_of rfl rfl rfl|rfl) rfl
  ·intro w' hB hA
   exact Hk.exec_mid 27 (.tmp 12) rfl w3.heap.size 0 rfl ms _ (CF.out _ hB).1 Tryz.underlying27 rfl HIM.out
  simp only[Pt]
  apply Fre4.chain_still (by first|exact Free.wanted_of rfl rfl rfl|rfl) rfl
  ·intro w' hB hA
   have q1:=(CF.out _ hB).2
   clear hA hB
   go_light
   go_simp<;>rfl
  simp only[Pt]
  apply Fre4.chain_det (by first|exact Free.wanted_of rfl rfl rfl|rfl) rfl
  ·intro d w' hd hc hB hA
   have hc2:w'.heap[W.heap.size+2]? =some (.cells zs.toArray 27 (0,0)):=by
    rw[hd]at hc;exact hc
   refine Fre4.opRun_skip (aY 27 (.tmp 8) (.tmp 49) rfl (W.heap.size+2) ms.toArray rfl rfl 27 zs.toArray hc2 (by rw[HIM.out];simp) (by rw[List.size_toArray,List.size_toArray,HML.out]) (all_oneCell_toArray HM1.out)) ⟨?_, ?_,rfl⟩
   ·exact⟨rfl,rfl,rfl,by simp[World.setRow],fun k hk hn=>setRow_other (fun e=>hn (by rw[e]))⟩
   ·have e2:Fre4.upd d 2 2=true:=by simp[Fre4.upd]
    rw[e2]
    exact setRow_heap _ _ _ _ _ _ hc2
  simp only[Pt]
  apply Fre4.chain_nil
  intro w9 h92 h91 _ _
  simp only[List.drop_succ_cons,List.drop_zero]
  have H91:Hid (Row w9 (W.heap.size+2) 27 ms):=h_ h91
  have H92:=h_ h92
  clear h91 h92
  go_wp2_with fail
  have HF:=fin_if HS.out (Below.refl _ _) H92.out (by have:=HD.out;have:=HS7.out;have:=HL3.out;omega) HKD.out
  refine leave_if (v1:= .slice A9 nums.length k9) (v2:= .int .i64 0) 4 _ rfl rfl rfl (by rw[EMS.out];rfl) H91.out ?_ ?_
  ·have hdl:=(Array.getElem?_eq_some_iff.1 HKD.out).1
   rw[H92.out.block D hdl (fun e=>by injection e with e;have:=HD.out;have:=HS7.out;have:=HL3.out;omega)]
   exact HKD.out
  ·rw[ER.out,EMS.out]
   exact⟨HF.1,cM,_,nums,by rw[HE0.out], .inl ⟨HE0.out,⟨pl,HORD.out,HFN.out⟩,HF.2.1,HLN.out,HF.2.2⟩⟩
 case stop=>
  rintro D cd pre w hD ⟨pl,hord,r,hr⟩ ⟨rfl,pre',x,rfl,hx,cM,nums,v,hS⟩ hK
  obtain⟨A9,k9,rfl⟩:=cz hS.own
  rw[dz,List.append_assoc,List.singleton_append]at hr
  have HFN:Hid ((cM.con,nums)=dp day (c.con,[]) ((bi kn pl).map Prod.fst)):=h_ (by rw[<-hr,force_stop day _ _ _ _ hS.days hx];exact hS.st)
  have HLN:Hid (nums.length<=4000):=h_ (by have h1:=hS.len;have h2:=knownL_le kn hord;rw[<-hr,List.length_append]at h2;have h3:=HN.out;omega)
  clear hx hr
  refine(wpIn_wide (n:=4)).2 ?_
  obtain⟨ms,ems⟩:∃ms,ms=ak cM:=⟨_,rfl⟩
  have HS:=h_ hS
  have hbx:=hS.box
  have hnw:=hS.now
  rw[<-ems]at hnw
  have HZS:=h_ hS.z
  have HIM:=h_ (aK ms (by rw[ems];rfl))
  have HM1:Hid (∀v∈ms,v.oneCell'=true):=h_ (by rw[ems];exact aX _)
  have HML:Hid (zs.length=ms.length):=h_ (by rw[ems,EZS.out];rfl)
  have hlz:=hS.nbq
  have CF:Hid (∀w',w.grownBy w' (some (W.heap.size+2))->w'.rangeAt w3.heap.size 0 ms/\w'.cell? ⟨w3.heap.size+1,0,none⟩=some (.slice A9 nums.length k9)):=h_ fun w' hg=>⟨(hnw.keep (hg.block _ hnw.lt (fun e=>by injection e;omega))).rg,(hbx.keep (hg.block _ hbx.lt (fun e=>by injection e;omega))).at rfl⟩
  have EMS:=h_ ems
  have HD:=h_ hD
  have HKD:=h_ hK
  have HORD:=h_ hord
  clear hS hnw ems hD hK hord
  go_wp2_with fail
  letI:Fre2.Rel:=⟨fun w w'=>w.grownBy w' (some (W.heap.size+2)),fun w=>World.grownBy.refl _ _,fun a b c h g=>World.grownBy.trans h g⟩
  refine Fre4.wp_region_free 3 [(2, .det undef)] (fun w2=>w.grownBy w2 (some (W.heap.size+2))) (fun d w2=>Row w2 (W.heap.size+2) 27 (if d 2 then ms else zs)) (by kernel_rfl) (by kernel_rfl) (Fre4.mono_det (fun j mk r hf=>by simp only[Free.find]at hf;repeat' (first|cases hf|split at hf))) (grown_some (Below.refl _ _).drew) (fun _ _ h r=>World.grownBy.trans h r) (HZS.out.below (Below.refl _ _).drew HZS.out.lt) (fun k d w hk hc=> ?_) ?_
  ·have e2:Fre4.upd d k 2=d 2:=by
    unfold Fre4.upd
    rw[if_neg (fun e=>by subst e;simp[Free.find]at hk)]
   rw[e2];exact hc
  simp only[List.take_succ_cons,List.take_zero]
  apply Fre4.chain_still (by first|exact Free.wanted_of rfl rfl rfl|rfl) rfl
  ·intro w' hB hA
   exact Hk.exec_mid 27 (.tmp 12) rfl w3.heap.size 0 rfl ms _ (CF.out _ hB).1 Tryz.underlying27 rfl HIM.out
  simp only[Pt]
  apply Fre4.chain_still (by first|exact Free.wanted_of rfl rfl rfl|rfl) rfl
  ·intro w' hB hA
   have q1:=(CF.out _ hB).2
   clear hA hB
   go_light
   go_simp<;>rfl
  simp only[Pt]
  apply Fre4.chain_det (by first|exact Free.wanted_of rfl rfl rfl|rfl) rfl
  ·intro d w' hd hc hB hA
   have hc2:w'.heap[W.heap.size+2]? =some (.cells zs.toArray 27 (0,0)):=by
    rw[hd]at hc;exact hc
   refine Fre4.opRun_skip (aY 27 (.tmp 8) (.tmp 49) rfl (W.heap.size+2) ms.toArray rfl rfl 27 zs.toArray hc2 (by rw[HIM.out];simp) (by rw[List.size_toArray,List.size_toArray,HML.out]) (all_oneCell_toArray HM1.out)) ⟨?_, ?_,rfl⟩
   ·exact⟨rfl,rfl,rfl,by simp[World.setRow],fun k hk hn=>setRow_other (fun e=>hn (by rw[e]))⟩
   ·have e2:Fre4.upd d 2 2=true:=by simp[Fre4.upd]
    rw[e2]
    exact setRow_heap _ _ _ _ _ _ hc2
  simp only[Pt]
  apply Fre4.chain_nil
  intro w9 h92 h91 _ _
  simp only[List.drop_succ_cons,List.drop_zero]
  have H91:Hid (Row w9 (W.heap.size+2) 27 ms):=h_ h91
  have H92:=h_ h92
  clear h91 h92
  go_wp2_with fail
  have HF:=fin_if HS.out (Below.refl _ _) H92.out (by have:=HD.out;have:=HS7.out;have:=HL3.out;omega) HKD.out
  refine leave_if (v1:= .slice A9 nums.length k9) (v2:= .int .i64 0) 4 _ rfl rfl rfl (by rw[EMS.out];rfl) H91.out ?_ ?_
  ·have hdl:=(Array.getElem?_eq_some_iff.1 HKD.out).1
   rw[H92.out.block D hdl (fun e=>by injection e with e;have:=HD.out;have:=HS7.out;have:=HL3.out;omega)]
   exact HKD.out
  ·rw[ER.out,EMS.out]
   exact⟨HF.1,cM,_,nums,by rw[HE0.out], .inl ⟨HE0.out,⟨pl,HORD.out,HFN.out⟩,HF.2.1,HLN.out,HF.2.2⟩⟩
end Go.Proofs.YtekfoaenomgjgaaGreatDoor
