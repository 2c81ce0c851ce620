/- Package migrate: marks (idle, runs, ended, voided, continued, restarted). Condition: days are days. -/
import Derived.Test.YtekfoaenomgjgaaGreatDoorZ6
import Derived.Test.YtekfoaenomgjgaaGreatDoorShelfI
import Derived.Shelf.SlicesQ.IndexFunc
set_option maxRecDepth 100000
set_option linter.all false
namespace Go.Proofs.YtekfoaenomgjgaaGreatDoor
open Go.RowKit Go.W32 Go.Blk Go.Cs Go.Lib Go.Opn Go.Mg Go.Cv

set_option maxHeartbeats 4000000 in
theorem holds_any(A:Option Addr)(cap:Nat)(ms:List Mar)(x:Int×Int)(W:World)(hM:SL W 5 ah A ms)(h0:0<=x.1)(h1:x.1<(ms.length:Int))(hn:ms.length<=4000):
  Calls Tryz.prog 138 #[.slice A ms.length cap, .agg (ar x).toArray] W fun e w'=>e= .returned (.bool (cp (stat ms x.1) x.2))/\Below W.heap.size W w':=by
 obtain⟨R,eR⟩:∃R:Ending->World->Prop,R=fun e w'=>e= .returned (.bool (cp (stat ms x.1) x.2))/\Below W.heap.size W w':=⟨_,rfl⟩
 rw[<-eR]
 have FIN:Hid (∀w' v,v=cp (stat ms x.1) x.2->Below W.heap.size W w'->R (.returned (.bool v)) w'):=h_ fun w' v h hb=>by rw[eR,h];exact⟨rfl,hb⟩
 clear eR
 obtain⟨n,hxn⟩:∃n:Nat,x.1=(n:Int):=⟨x.1.toNat,by omega⟩
 have hnl:n<ms.length:=by omega
 obtain⟨y,ey⟩:∃y,ms[n]? =some y:=⟨_,List.getElem?_eq_getElem hnl⟩
 obtain⟨es,ees⟩:∃es,es=ar x:=⟨_,rfl⟩
 rw[<-ees]
 obtain⟨W1,e1⟩:∃W1,W1=W.alloc (.cells es.toArray 133):=⟨_,rfl⟩
 have hr1:Row W1 W.heap.size 133 es:=by rw[e1];exact Row.new _ _ _
 have hb1:Below W.heap.size W W1:=by rw[e1];exact(Below.refl _ _).alloc (Nat.le_refl _) _
 have E1:Hid (W.alloc (.cells es.toArray 133)=W1):=h_ e1.symm
 have x0:=hr1.at (show es[0]? =some (.int .i64 (n:Int)) by rw[ees, <-hxn];rfl)
 have x1:=hr1.at (show es[1]? =some (.int .i64 x.2) by rw[ees];rfl)
 have hM1:=hM.below hb1 (Nat.le_refl _)
 obtain⟨mb,mo,eM⟩:=aC hM1 (by intro e;rw[e]at hnl;simp at hnl)
 rw[eM]at hM1⊢
 have y0:W1.cell? ⟨mb,mo+n*5,none⟩=some (.int .i64 y.status):=(az hM1 ey) 0 _ rfl
 have hni:(n:Int)<(ms.length:Int):=by omega
 have hn0:(0:Int)<=(n:Int):=by omega
 have HST:Hid (stat ms x.1=y.status):=h_ (by unfold stat;rw[hxn,Int.toNat_natCast,ey])
 have HB1:=h_ hb1
 clear e1 hr1 hb1 hM hM1 eM ey ees h0 h1 hxn
 by_cases i1:x.2=1
 ·have c1:(x.2==1)=true:=by simpa using i1
  by_cases t1:y.status=0
  ·have d1:(y.status !=0)=false:=by simpa using t1
   have HF:=h_ (FIN.out W1 false (by rw[HST.out];unfold cp;simp[i1,t1]) HB1.out)
   clear FIN
   go_enter Tryz.func138,Tryz.ntmps138
   go_wp2_with (simp only[E1.out])
   exact HF.out
  ·have d1:(y.status !=0)=true:=by simpa using t1
   have HF:=h_ (FIN.out W1 true (by rw[HST.out];unfold cp;simp[i1,t1]) HB1.out)
   clear FIN
   go_enter Tryz.func138,Tryz.ntmps138
   go_wp2_with (simp only[E1.out])
   exact HF.out
 have c1:(x.2==1)=false:=by simpa using i1
 by_cases i2:x.2=2
 ·have c2:(x.2==2)=true:=by simpa using i2
  by_cases t1:y.status=3
  ·have d1:(y.status==3)=true:=by simpa using t1
   have HF:=h_ (FIN.out W1 true (by rw[HST.out];unfold cp;simp[i2,t1]) HB1.out)
   clear FIN
   go_enter Tryz.func138,Tryz.ntmps138
   go_wp2_with (simp only[E1.out])
   exact HF.out
  ·have d1:(y.status==3)=false:=by simpa using t1
   have HF:=h_ (FIN.out W1 false (by rw[HST.out];unfold cp;simp[i2,t1]) HB1.out)
   clear FIN
   go_enter Tryz.func138,Tryz.ntmps138
   go_wp2_with (simp only[E1.out])
   exact HF.out
 have c2:(x.2==2)=false:=by simpa using i2
 by_cases i3:x.2=3
 ·have c3:(x.2==3)=true:=by simpa using i3
  by_cases t1:y.status=4
  ·have d1:(y.status==4)=true:=by simpa using t1
   have HF:=h_ (FIN.out W1 true (by rw[HST.out];unfold cp;simp[i3,t1]) HB1.out)
   clear FIN
   go_enter Tryz.func138,Tryz.ntmps138
   go_wp2_with (simp only[E1.out])
   exact HF.out
  ·have d1:(y.status==4)=false:=by simpa using t1
   have HF:=h_ (FIN.out W1 false (by rw[HST.out];unfold cp;simp[i3,t1]) HB1.out)
   clear FIN
   go_enter Tryz.func138,Tryz.ntmps138
   go_wp2_with (simp only[E1.out])
   exact HF.out
 have c3:(x.2==3)=false:=by simpa using i3
 by_cases i4:x.2=4
 ·have c4:(x.2==4)=true:=by simpa using i4
  by_cases t1:y.status=5
  ·have d1:(y.status==5)=true:=by simpa using t1
   have HF:=h_ (FIN.out W1 true (by rw[HST.out];unfold cp;simp[i4,t1]) HB1.out)
   clear FIN
   go_enter Tryz.func138,Tryz.ntmps138
   go_wp2_with (simp only[E1.out])
   exact HF.out
  ·have d1:(y.status==5)=false:=by simpa using t1
   have HF:=h_ (FIN.out W1 false (by rw[HST.out];unfold cp;simp[i4,t1]) HB1.out)
   clear FIN
   go_enter Tryz.func138,Tryz.ntmps138
   go_wp2_with (simp only[E1.out])
   exact HF.out
 have c4:(x.2==4)=false:=by simpa using i4
 have HF:=h_ (FIN.out W1 false (by rw[HST.out];unfold cp;simp[i1,i2,i3,i4]) HB1.out)
 clear FIN
 go_enter Tryz.func138,Tryz.ntmps138
 go_wp2_with (simp only[E1.out])
 exact HF.out
def waitsB(ms:List Mar)(x:Int×Int):Bool:= !cp (stat ms x.1) x.2
set_option maxHeartbeats 4000000 in
theorem wait_any(s:StaM)(b:Nat)(x:Int×Int)(W:World)(hb:Row W b 56 (aE s))(hM:SL W 5 ah s.mA s.marks)(h0:0<=x.1)(h1:x.1<(s.marks.length:Int))(hn:s.marks.length<=4000):
  Calls Tryz.prog 137 #[.agg (ar x).toArray, .pointer (some ⟨b,0,none⟩)] W fun e w'=>e= .returned (.bool (waitsB s.marks x))/\Below W.heap.size W w':=by
 obtain⟨R,eR⟩:∃R:Ending->World->Prop,R=fun e w'=>e= .returned (.bool (waitsB s.marks x))/\Below W.heap.size W w':=⟨_,rfl⟩
 rw[<-eR]
 have FIN:Hid (∀w',Below W.heap.size W w'->R (.returned (.bool (!cp (stat s.marks x.1) x.2))) w'):=h_ fun w' hb=>by rw[eR];exact⟨rfl,hb⟩
 clear eR
 obtain⟨es,ees⟩:∃es,es=ar x:=⟨_,rfl⟩
 obtain⟨W1,e1⟩:∃W1,W1=W.alloc (.cells es.toArray 133):=⟨_,rfl⟩
 have hr1:Row W1 W.heap.size 133 es:=by rw[e1];exact Row.new _ _ _
 have hb1:Below W.heap.size W W1:=by rw[e1];exact(Below.refl _ _).alloc (Nat.le_refl _) _
 have E1:Hid (W.alloc (.cells es.toArray 133)=W1):=h_ e1.symm
 have s3:=(hb.below hb1 hb.lt).at (show(aE s)[3]? =some (.slice s.mA s.marks.length s.mc) from rfl)
 have CH:=holds_any s.mA s.mc s.marks x W1 (hM.below hb1 (Nat.le_refl _)) h0 h1 hn
 rw[<-ees]at CH⊢
 have CH:=h_ CH
 have HM:=h_ hr1.rg
 have HI:=h_ (show(Tryz.prog.info? 133).map (·.size)=some es.length by rw[ees];kernel_rfl)
 have HB1:=h_ hb1
 obtain⟨v,ev⟩:∃v,v=cp (stat s.marks x.1) x.2:=⟨_,rfl⟩
 rw[<-ev]at CH FIN
 clear e1 hr1 hb1 hM ees h0 h1 hn ev hb
 go_enter Tryz.func137,Tryz.ntmps137
 go_wp2_with (first
  |(simp only[E1.out])
  |(refine ae (.tmp 2) ?_;refine wpList_load_mid rfl 133 (.tmp 2) rfl W.heap.size 0 rfl es _ HM.out Tryz.underlying133 rfl HI.out ?_))
 refine CH.out.mono ?_
 rintro e w2 ⟨rfl,hb2⟩
 have HF:=h_ (FIN.out w2 (HB1.out.trans (hb2.mono HB1.out.size)))
 clear FIN CH hb2
 go_wp2_with fail
 exact HF.out
theorem enters_wt(args:Array Value)(w:World):(callFunc 137 args).run Tryz.prog w= .ok (.enter 137 args) w:=enters_of Tryz.func137 (by kernel_rfl) rfl args w
set_option maxHeartbeats 1000000 in
theorem index_none{P:Program}{ρ:Go.Shelf.Ren}(L:SlLaysH0.n6 P ρ)(a:Option Addr)(c:Nat)(fv:Value)(w:World):
  Calls P (ρ.f 6) #[.slice a 0 c,fv] w fun e w'=>e= .returned (.int .i64 (-1))/\w'=w:=by
 have mixed:=L.mixed;have t0:=L.t0;have a0:=L.a0;have z0:=L.z0;have v0:=L.v0;have t3:=L.t3;have a3:=L.a3;have z3:=L.z3;have v3:=L.v3;have t4:=L.t4;have a4:=L.a4;have z4:=L.z4;have v4:=L.v4;have t22:=L.t22;have a22:=L.a22;have z22:=L.z22;have v22:=L.v22;have t25:=L.t25;have a25:=L.a25;have z25:=L.z25;have v25:=L.v25
 obtain⟨_,_,FG⟩:=L.f6
 go_enter FG,SlBodyH.n6_ntmps ρ
 go_wp2
 go_loopg [5,8] 0 (fun _ _ s8 wr=>s8= .int .i64 0/\wr=w)
 case atStart=>exact⟨rfl,rfl⟩
 case round=>
  obtain⟨rfl,rfl⟩:=hrel
  go_wp2
  go_ret
  exact⟨rfl,rfl⟩
set_option maxHeartbeats 1000000 in
theorem contains_none{P:Program}{ρ:Go.Shelf.Ren}(L:SlLaysH0.n8 P ρ)(a:Option Addr)(c:Nat)(fv:Value)(w:World):
  Calls P (ρ.f 8) #[.slice a 0 c,fv] w fun e w'=>e= .returned (.bool false)/\w'=w:=by
 have mixed:=L.mixed;have t0:=L.t0;have a0:=L.a0;have z0:=L.z0;have v0:=L.v0;have t3:=L.t3;have a3:=L.a3;have z3:=L.z3;have v3:=L.v3;have t4:=L.t4;have a4:=L.a4;have z4:=L.z4;have v4:=L.v4;have t22:=L.t22;have a22:=L.a22;have z22:=L.z22;have v22:=L.v22;have t25:=L.t25;have a25:=L.a25;have z25:=L.z25;have v25:=L.v25
 have e6:∀args w,(callFunc (ρ.f 6) args).run P w= .ok (.enter (ρ.f 6) args) w:=L.f6.enters rfl
 obtain⟨_,_,FG⟩:=L.f8
 go_enter FG,SlBodyH.n8_ntmps ρ
 go_wp2_with (go_at_fn (ρ.f 6);refine(index_none {L with} a c fv _).mono ?_;rintro e w' ⟨rfl,rfl⟩)
 go_ret
 exact⟨rfl,rfl⟩
theorem any_cd(s:StaM)(b:Nat)(A:Option Addr)(c:Nat)(xs:List (Int×Int))(W:World)(hB:Row W b 56 (aE s))(hM:SL W 5 ah s.mA s.marks)(hn:s.marks.length<=4000)(hx:SL W 2 ar A xs)(hin:∀x∈xs,0<=x.1/\x.1<(s.marks.length:Int))(hl:xs.length<=4000):
  Calls Tryz.prog 139 #[.slice A xs.length c, .func (.func 137) #[] #[.pointer (some ⟨b,0,none⟩)]] W fun e w'=>e= .returned (.bool (!xs.all fun x=>cp (stat s.marks x.1) x.2))/\Below W.heap.size W w':=by
 have hneg:(!xs.all fun x=>cp (stat s.marks x.1) x.2)=xs.any (waitsB s.marks):=by
  rw[List.not_all_eq_any_not];rfl
 rw[hneg]
 cases xs with
 |nil=>
  refine(contains_none Tryz.cfd A c _ W).mono ?_
  rintro e w' ⟨rfl,rfl⟩
  exact⟨rfl,Below.refl _ _⟩
 |cons d ds=>
  obtain⟨cb,off,e1,hc⟩:=hx.cells (by simp)
  subst e1
  obtain⟨xs,exs⟩:∃xs,xs=d::ds:=⟨_,rfl⟩
  rw[<-exs]at hin hl hc⊢
  have hcb:cb<W.heap.size:=by
   have h:=hc 0 d (by rw[exs];rfl) 0 (.int .i64 d.1) rfl
   have h2:(W.cell? ⟨cb,off+(0*2+0),none⟩).isSome=true:=by rw[h];rfl
   unfold World.cell? at h2
   cases hh:W.heap[cb]? with
   |none=>simp[hh]at h2
   |some o=>exact(Array.getElem?_eq_some_iff.1 hh).1
  haveI:Inhabited {x:Int×Int // x∈xs}:=⟨⟨d,by rw[exs];exact List.mem_cons_self⟩⟩
  have h:=AnyQ.slices_ContainsFunc (α:= {x:Int×Int // x∈xs}) Tryz.cfd 2 Tryz.isAgg133 Tryz.sizeOf133 (fun x=>ar x.1) (fun _=>rfl) (fun x=>waitsB s.marks x.1) 137 #[.pointer (some ⟨b,0,none⟩)] enters_wt cb off xs.length c xs.attach W
   (fun w' x hb'=>(wait_any s b x.1 w' (hB.below hb' hB.lt) (hM.below hb' (Nat.le_refl _)) (hin x.1 x.2).1 (hin x.1 x.2).2 hn).mono fun e w'' ⟨h1,h2⟩=>⟨h1,hb'.trans (h2.mono hb'.size)⟩) (by simp) (by omega) hcb
   (fun j hj i v hi=>by
    rw[List.length_attach]at hj
    rw[getElem!_pos xs.attach j (by rw[List.length_attach];exact hj)]at hi
    simp only[List.getElem_attach]at hi
    have:=hc j xs[j] (List.getElem?_eq_getElem hj) i v hi
    rw[<-this,Nat.add_assoc])
  rw[List.take_of_length_le (by simp)]at h
  refine h.mono ?_
  rintro e w' ⟨rfl,h2⟩
  refine⟨?_,h2⟩
  congr 2
  rw[Bool.eq_iff_iff,List.any_eq_true,List.any_eq_true]
  constructor
  ·rintro⟨x,_,hx⟩;exact⟨x.1,x.2,hx⟩
  ·rintro⟨x,hx,hw⟩;exact⟨⟨x,hx⟩,List.mem_attach _ _,hw⟩
end Go.Proofs.YtekfoaenomgjgaaGreatDoor
namespace Go.Proofs.YtekfoaenomgjgaaGreatDoor
open Go.RowKit Go.W32 Go.Blk Go.Cs Go.Lib Go.Opn Go.Mg Go.Cv

theorem size_al(W:World)(o:Obj):(W.alloc o).heap.size=W.heap.size+1:=by simp
theorem row1(W:World)(T:TypeId)(cs:List Value):Row (W.alloc (.cells cs.toArray T)) W.heap.size T cs:=Row.new _ _ _
theorem row2(W:World)(a:Obj)(T:TypeId)(cs:List Value):Row ((W.alloc a).alloc (.cells cs.toArray T)) (W.heap.size+1) T cs:=by
 have h:=Row.new (W.alloc a) T cs
 rw[size_al]at h;exact h
theorem gz(W:World)(a b c:Obj)(T:TypeId)(cs:List Value):Row ((((W.alloc a).alloc b).alloc c).alloc (.cells cs.toArray T)) (W.heap.size+1+1+1) T cs:=by
 have h:=Row.new (((W.alloc a).alloc b).alloc c) T cs
 rw[size_al,size_al,size_al]at h;exact h
theorem bel1(W:World)(a:Obj):Below W.heap.size W (W.alloc a):=(Below.refl _ _).alloc (Nat.le_refl _) _
theorem bel2(W:World)(a b:Obj):Below W.heap.size W ((W.alloc a).alloc b):=(bel1 W a).alloc (by simp) _
theorem gG(W:World)(a b c d:Obj):Below W.heap.size W ((((W.alloc a).alloc b).alloc c).alloc d):=((bel2 W a b).alloc (by simp;omega) _).alloc (by simp;omega) _
theorem aU{W w:World}{b:Nat}{old es:List Value}(hr:Row w b 66 old)(hol:old.length=5)(hel:es.length=5)(he1:∀v∈es,v.oneCell'=true)(hb:Below W.heap.size W w)(hl:W.heap.size<=b)(s t:Nat)(Q:Exit->Act->World->Prop)(ops:Array Oper)(rest:List Oper)(o:Oper)(a:Act)(hgd:o.guard=none)(ho:o.op= .store 66 (.tmp s) (.tmp t))(hx:a.eval (.tmp s)= .pointer (some ⟨b,0,none⟩))(hy:a.eval (.tmp t)= .agg es.toArray)
  (hk:∀w',Hid (Row w' b 66 es/\Below W.heap.size W w')->wpList Tryz.prog ops Q rest (a.put o.dst undef) w'):wpList Tryz.prog ops Q (o::rest) a w:=by
 refine Hk.wpList_store_own hgd 66 (.tmp s) (.tmp t) ho b hx es hy old 66 hr (bV es hel) (by rw[hel,hol]) he1 ?_
 intro w' k1 k2 _
 exact hk w' (h_ ⟨k1,hb.trans (aj k2 (fun g hg=>by injection hg with e;omega) hb.size)⟩)
theorem idle_any(W:World):Calls Tryz.prog 128 #[] W fun e w'=>e= .returned (.agg (ah Mar.idle).toArray)/\Below W.heap.size W w':=by
 go_enter Tryz.func128,Tryz.ntmps128
 go_wp2_with fail
 refine bodyPost_ret (v:= .agg (ah Mar.idle).toArray) (Hk.results_cell_row (fn:=Tryz.f128) (p:=0) (ty:=66) rfl _ _ W.heap.size 66 (ah Mar.idle).toArray (0,0) _ rfl (row1 W 66 (ah Mar.idle)) Tryz.underlying66 rfl (by kernel_rfl)) rfl ?_
 exact⟨rfl,bel1 _ _⟩
theorem runs_any(m:Mar)(W:World):Calls Tryz.prog 132 #[.agg (ah m).toArray] W fun e w'=>e= .returned (.bool m.runs)/\Below W.heap.size W w':=by
 obtain⟨status,left,got,bearer,paused⟩:=m
 unfold ah Mar.runs
 by_cases h1:status=1
 ·have b1:(status==1)=true:=by simpa using h1
  go_enter Tryz.func132,Tryz.ntmps132
  go_wp2_with fail
  go_ret
  exact⟨by simp[b1],bel1 _ _⟩
 ·have b1:(status==1)=false:=by simpa using h1
  go_enter Tryz.func132,Tryz.ntmps132
  go_wp2_with fail
  go_ret
  exact⟨by simp[b1],bel1 _ _⟩
theorem eN(m:Mar)(st:Int)(W:World):Calls Tryz.prog 163 #[.agg (ah m).toArray, .int .i64 st] W fun e w'=>e= .returned (.agg (ah (m.ended st)).toArray)/\Below W.heap.size W w':=by
 obtain⟨status,left,got,bearer,paused⟩:=m
 unfold ah
 go_enter Tryz.func163,Tryz.ntmps163
 go_wp2_with fail
 refine bodyPost_ret (v:= .agg (ah (Mar.ended ⟨status,left,got,bearer,paused⟩ st)).toArray) (Hk.results_cell_row (fn:=Tryz.f163) (p:=4) (ty:=66) rfl _ _ (W.heap.size+1) 66 (ah (Mar.ended ⟨status,left,got,bearer,paused⟩ st)).toArray (0,0) _ rfl (row2 W _ 66 (ah (Mar.ended ⟨status,left,got,bearer,paused⟩ st))) Tryz.underlying66 rfl (by kernel_rfl)) rfl ?_
 exact⟨rfl,bel2 _ _ _⟩
set_option maxHeartbeats 2000000 in
theorem void_any(m:Mar)(W:World):Calls Tryz.prog 131 #[.agg (ah m).toArray] W fun e w'=>e= .returned (.agg (ah m.voided).toArray)/\Below W.heap.size W w':=by
 obtain⟨es,ees⟩:∃es,es=ah m:=⟨_,rfl⟩
 obtain⟨hr1,hr2,hb1⟩:=bu W 66 66 es [.int .i64 0, .int .i64 0, .int .i64 0, .int .i64 0, .bool false]
 obtain⟨W1,e1⟩:∃W1,W1=(W.alloc (.cells es.toArray 66)).alloc (.cells #[.int .i64 0, .int .i64 0, .int .i64 0, .int .i64 0, .bool false] 66):=⟨_,rfl⟩
 rw[<-e1]at hr1 hr2 hb1
 have E1:Hid ((W.alloc (.cells es.toArray 66)).alloc (.cells #[.int .i64 0, .int .i64 0, .int .i64 0, .int .i64 0, .bool false] 66)=W1):=h_ e1.symm
 have c0:=hr1.at (show es[0]? =some (.int .i64 m.status) by rw[ees];rfl)
 have HM:=h_ hr1.rg
 have HI:=h_ (bV es (by rw[ees];rfl))
 have EES:Hid (es=ah m):=h_ ees
 rw[<-ees]
 by_cases h0:m.status=0
 ·have b0:(m.status==0)=true:=by simpa using h0
  have HV:Hid (m.voided=m.ended 5):=h_ (by unfold Mar.voided;rw[b0];rfl)
  have HB:=h_ hb1
  have HZ:=h_ (And.intro hr1 hr2)
  clear e1 hr1 hr2 hb1 ees h0
  go_enter Tryz.func131,Tryz.ntmps131
  go_wp2_with (first
   |(simp only[E1.out])
   |(refine ae (.tmp 1) ?_;refine wpList_load_mid rfl 66 (.tmp 1) rfl W.heap.size 0 rfl es _ HM.out Tryz.underlying66 rfl HI.out ?_))
  rw[EES.out]
  refine(eN m 5 _).mono ?_
  rintro e w4 ⟨rfl,hb4⟩
  have hrz:=HZ.out.2.below hb4 HZ.out.2.lt
  have HS:=h_ (aU (es:=ah (m.ended 5)) hrz rfl rfl (aB _) (HB.out.trans (hb4.mono HB.out.size)) (Nat.le_succ _) 2 11)
  clear hb4 hrz
  go_wp2_with (refine ai (.tmp 2) ?_;refine HS.out _ _ _ _ _ rfl rfl rfl rfl ?_;intro w9 H9;simp only[Pt])
  refine bodyPost_ret (v:= .agg (ah (m.ended 5)).toArray) (Hk.results_cell_row (fn:=Tryz.f131) (p:=2) (ty:=66) rfl _ _ (W.heap.size+1) 66 (ah (m.ended 5)).toArray (0,0) _ rfl H9.out.1 Tryz.underlying66 rfl (by kernel_rfl)) rfl ?_
  exact⟨by rw[HV.out],H9.out.2⟩
 ·have b0:(m.status==0)=false:=by simpa using h0
  have CR:=runs_any m W1
  rw[<-ees]at CR
  have CR:=h_ CR
  have HB1:=h_ hb1
  have HZ1:=h_ (And.intro hr1 hr2)
  clear e1 hr1 hr2 hb1 ees
  go_enter Tryz.func131,Tryz.ntmps131
  go_wp2_with (first
   |(simp only[E1.out])
   |(refine ae (.tmp 1) ?_;refine Row.still (by first|exact Free.wanted_of rfl rfl rfl|rfl) (Hk.exec_mid 66 (.tmp 1) rfl W.heap.size 0 rfl es _ HM.out Tryz.underlying66 rfl HI.out) ?_;simp only[Pt]))
  refine CR.out.mono ?_
  rintro e w3 ⟨rfl,hb3⟩
  have HZ:=h_ (And.intro (HZ1.out.1.below hb3 HZ1.out.1.lt) (HZ1.out.2.below hb3 HZ1.out.2.lt))
  have HB:=h_ (HB1.out.trans (hb3.mono HB1.out.size))
  have HM3:=h_ HZ.out.1.rg
  obtain⟨rb,erb⟩:∃rb,rb=m.runs:=⟨_,rfl⟩
  rw[<-erb]
  clear hb3 CR HM c0
  cases rb with
  |true=>
   have HV:Hid (m.voided=m.ended 5):=h_ (by unfold Mar.voided;rw[<-erb];simp)
   clear erb h0
   go_wp2_with (refine ae (.tmp 1) ?_;refine wpList_load_mid rfl 66 (.tmp 1) rfl W.heap.size 0 rfl es _ HM3.out Tryz.underlying66 rfl HI.out ?_)
   rw[EES.out]
   refine(eN m 5 _).mono ?_
   rintro e w4 ⟨rfl,hb4⟩
   have hrz:=HZ.out.2.below hb4 HZ.out.2.lt
   have HS:=h_ (aU (es:=ah (m.ended 5)) hrz rfl rfl (aB _) (HB.out.trans (hb4.mono HB.out.size)) (Nat.le_succ _) 2 11)
   clear hb4 hrz
   go_wp2_with (refine ai (.tmp 2) ?_;refine HS.out _ _ _ _ _ rfl rfl rfl rfl ?_;intro w9 H9;simp only[Pt])
   refine bodyPost_ret (v:= .agg (ah (m.ended 5)).toArray) (Hk.results_cell_row (fn:=Tryz.f131) (p:=2) (ty:=66) rfl _ _ (W.heap.size+1) 66 (ah (m.ended 5)).toArray (0,0) _ rfl H9.out.1 Tryz.underlying66 rfl (by kernel_rfl)) rfl ?_
   exact⟨by rw[HV.out],H9.out.2⟩
  |false=>
   have HV:Hid (m.voided=m):=h_ (by unfold Mar.voided;rw[<-erb,b0];rfl)
   have HS:=h_ (aU (es:=es) HZ.out.2 rfl (by rw[EES.out];rfl) (by rw[EES.out];exact aB _) HB.out (Nat.le_succ _) 2 12)
   clear erb h0
   go_wp2_with (first
    |(refine ae (.tmp 1) ?_;refine wpList_load_mid rfl 66 (.tmp 1) rfl W.heap.size 0 rfl es _ HM3.out Tryz.underlying66 rfl HI.out ?_)
    |(refine ai (.tmp 2) ?_;refine HS.out _ _ _ _ _ rfl rfl rfl rfl ?_;intro w9 H9;simp only[Pt]))
   rw[EES.out]at H9
   refine bodyPost_ret (v:= .agg (ah m).toArray) (Hk.results_cell_row (fn:=Tryz.f131) (p:=2) (ty:=66) rfl _ _ (W.heap.size+1) 66 (ah m).toArray (0,0) _ rfl H9.out.1 Tryz.underlying66 rfl (by kernel_rfl)) rfl ?_
   exact⟨by rw[HV.out],H9.out.2⟩
structure DayK (k:Cls):Prop where
 a0:0<=k.after
 a1:k.after<=400
 g0:0<=k.grace
 g1:k.grace<=400
set_option maxHeartbeats 8000000 in
theorem cont_any(o n:Kl)(m:Mar)(W:World)(hl:0<=m.left)(h2:m.left<=400)(ho:DayK o.1)(hn:DayK n.1):Calls Tryz.prog 133 #[.agg (aF o).toArray, .agg (aF n).toArray, .agg (ah m).toArray] W fun e w'=>e= .returned (.agg (ah (m.cont o.1 n.1)).toArray)/\Below W.heap.size W w':=by
 obtain⟨R,eR⟩:∃R:Ending->World->Prop,R=fun e w'=>e= .returned (.agg (ah (m.cont o.1 n.1)).toArray)/\Below W.heap.size W w':=⟨_,rfl⟩
 rw[<-eR]
 have FIN:Hid (∀w' q,q=m.cont o.1 n.1->Below W.heap.size W w'->R (.returned (.agg (ah q).toArray)) w'):=h_ fun w' v h hb=>by rw[eR,h];exact⟨rfl,hb⟩
 clear eR
 obtain⟨⟨kind,role,act,need,start,after,grace,bus,fin,pause,resume,num,den,unit,dest,waived⟩,kA,kc⟩:=o
 obtain⟨⟨kind',role',act',need',start',after',grace',bus',fin',pause',resume',num',den',unit',dest',waived'⟩,kA',kc'⟩:=n
 obtain⟨status,left,got,bearer,paused⟩:=m
 obtain⟨p1,p2,p3,p4⟩:=ho
 obtain⟨p5,p6,p7,p8⟩:=hn
 simp only at hl h2 p1 p2 p3 p4 p5 p6 p7 p8 FIN
 unfold ah aF fN
 cases paused with
 |true=>
  by_cases hp:pause'= -1
  ·have b9:(pause' != -1)=false:=by simpa using hp
   by_cases hk:kind'=1
   rotate_left
   ·have b1:(kind'==1)=false:=by simpa using hk
    by_cases hs:status=1
    ·have b2:(status==1)=true:=by simpa using hs
     go_enter Tryz.func133,Tryz.ntmps133
     go_wp2_with fail
     refine bodyPost_ret (v:= .agg (ah ⟨1,max 1 (left+after'-after),got,bearer,false⟩).toArray) (Hk.results_cell_row (fn:=Tryz.f133) (p:=6) (ty:=66) rfl _ _ (W.heap.size+1+1+1) 66 (ah ⟨1,max 1 (left+after'-after),got,bearer,false⟩).toArray (0,0) _ rfl (gz W _ _ _ 66 (ah ⟨1,max 1 (left+after'-after),got,bearer,false⟩)) Tryz.underlying66 rfl (by kernel_rfl)) rfl ?_
     exact FIN.out _ _ (by simp[Mar.cont,hs,hk,hp]) (gG _ _ _ _ _)
    ·have b2:(status==1)=false:=by simpa using hs
     by_cases hg:grace'=0
     ·have b3:(grace'==0)=true:=by simpa using hg
      go_enter Tryz.func133,Tryz.ntmps133
      go_wp2_with fail
      refine bodyPost_ret (v:= .agg (ah ⟨1,1,got,bearer,false⟩).toArray) (Hk.results_cell_row (fn:=Tryz.f133) (p:=6) (ty:=66) rfl _ _ (W.heap.size+1+1+1) 66 (ah ⟨1,1,got,bearer,false⟩).toArray (0,0) _ rfl (gz W _ _ _ 66 (ah ⟨1,1,got,bearer,false⟩)) Tryz.underlying66 rfl (by kernel_rfl)) rfl ?_
      exact FIN.out _ _ (by simp[Mar.cont,hs,hg,hk,hp]) (gG _ _ _ _ _)
     ·have b3:(grace'==0)=false:=by simpa using hg
      go_enter Tryz.func133,Tryz.ntmps133
      go_wp2_with fail
      refine bodyPost_ret (v:= .agg (ah ⟨status,max 1 (left+grace'-grace),got,bearer,false⟩).toArray) (Hk.results_cell_row (fn:=Tryz.f133) (p:=6) (ty:=66) rfl _ _ (W.heap.size+1+1+1) 66 (ah ⟨status,max 1 (left+grace'-grace),got,bearer,false⟩).toArray (0,0) _ rfl (gz W _ _ _ 66 (ah ⟨status,max 1 (left+grace'-grace),got,bearer,false⟩)) Tryz.underlying66 rfl (by kernel_rfl)) rfl ?_
      exact FIN.out _ _ (by simp[Mar.cont,hs,hg,hk,hp]) (gG _ _ _ _ _)
   have b1:(kind'==1)=true:=by simpa using hk
   by_cases hn:need'<=got
   rotate_left
   ·have i1:decide (need'<=got)=false:=decide_eq_false hn
    have HN:Hid (got<need'):=h_ (Int.not_le.1 hn)
    clear hn
    by_cases hs:status=1
    ·have b2:(status==1)=true:=by simpa using hs
     go_enter Tryz.func133,Tryz.ntmps133
     go_wp2_with fail
     refine bodyPost_ret (v:= .agg (ah ⟨1,max 1 (left+after'-after),got,bearer,false⟩).toArray) (Hk.results_cell_row (fn:=Tryz.f133) (p:=6) (ty:=66) rfl _ _ (W.heap.size+1+1+1) 66 (ah ⟨1,max 1 (left+after'-after),got,bearer,false⟩).toArray (0,0) _ rfl (gz W _ _ _ 66 (ah ⟨1,max 1 (left+after'-after),got,bearer,false⟩)) Tryz.underlying66 rfl (by kernel_rfl)) rfl ?_
     exact FIN.out _ _ (by simp[Mar.cont,hs,hk,(Int.not_le.2 HN.out),hp]) (gG _ _ _ _ _)
    ·have b2:(status==1)=false:=by simpa using hs
     by_cases hg:grace'=0
     ·have b3:(grace'==0)=true:=by simpa using hg
      go_enter Tryz.func133,Tryz.ntmps133
      go_wp2_with fail
      refine bodyPost_ret (v:= .agg (ah ⟨1,1,got,bearer,false⟩).toArray) (Hk.results_cell_row (fn:=Tryz.f133) (p:=6) (ty:=66) rfl _ _ (W.heap.size+1+1+1) 66 (ah ⟨1,1,got,bearer,false⟩).toArray (0,0) _ rfl (gz W _ _ _ 66 (ah ⟨1,1,got,bearer,false⟩)) Tryz.underlying66 rfl (by kernel_rfl)) rfl ?_
      exact FIN.out _ _ (by simp[Mar.cont,hs,hg,hk,(Int.not_le.2 HN.out),hp]) (gG _ _ _ _ _)
     ·have b3:(grace'==0)=false:=by simpa using hg
      go_enter Tryz.func133,Tryz.ntmps133
      go_wp2_with fail
      refine bodyPost_ret (v:= .agg (ah ⟨status,max 1 (left+grace'-grace),got,bearer,false⟩).toArray) (Hk.results_cell_row (fn:=Tryz.f133) (p:=6) (ty:=66) rfl _ _ (W.heap.size+1+1+1) 66 (ah ⟨status,max 1 (left+grace'-grace),got,bearer,false⟩).toArray (0,0) _ rfl (gz W _ _ _ 66 (ah ⟨status,max 1 (left+grace'-grace),got,bearer,false⟩)) Tryz.underlying66 rfl (by kernel_rfl)) rfl ?_
      exact FIN.out _ _ (by simp[Mar.cont,hs,hg,hk,(Int.not_le.2 HN.out),hp]) (gG _ _ _ _ _)
   have i1:decide (need'<=got)=true:=decide_eq_true hn
   go_enter Tryz.func133,Tryz.ntmps133
   go_wp2_with fail
   refine(eN ⟨status,left,got,bearer,false⟩ 3 _).mono ?_
   rintro e w4 ⟨rfl,hb4⟩
   have hrz:=(gz W _ _ _ 66 [.int .i64 0, .int .i64 0, .int .i64 0, .int .i64 0, .bool false]).below hb4 (gz W _ _ _ 66 [.int .i64 0, .int .i64 0, .int .i64 0, .int .i64 0, .bool false]).lt
   have HS:=h_ (aU (W:=W) (es:=ah (Mar.ended ⟨status,left,got,bearer,false⟩ 3)) hrz rfl rfl (aB _) ((gG W _ _ _ _).trans (hb4.mono (gG W _ _ _ _).size)) (by omega) 6 37)
   clear hb4 hrz
   go_wp2_with (refine ai (.tmp 6) ?_;refine HS.out _ _ _ _ _ rfl rfl rfl rfl ?_;intro w9 H9;simp only[Pt])
   refine bodyPost_ret (v:= .agg (ah (Mar.ended ⟨status,left,got,bearer,false⟩ 3)).toArray) (Hk.results_cell_row (fn:=Tryz.f133) (p:=6) (ty:=66) rfl _ _ (W.heap.size+1+1+1) 66 (ah (Mar.ended ⟨status,left,got,bearer,false⟩ 3)).toArray (0,0) _ rfl H9.out.1 Tryz.underlying66 rfl (by kernel_rfl)) rfl ?_
   exact FIN.out _ _ (by simp[Mar.cont,Mar.ended,hk,hn,hp]) H9.out.2
  ·have b9:(pause' != -1)=true:=by simpa using hp
   by_cases hk:kind'=1
   rotate_left
   ·have b1:(kind'==1)=false:=by simpa using hk
    by_cases hs:status=1
    ·have b2:(status==1)=true:=by simpa using hs
     go_enter Tryz.func133,Tryz.ntmps133
     go_wp2_with fail
     refine bodyPost_ret (v:= .agg (ah ⟨1,max 1 (left+after'-after),got,bearer,true⟩).toArray) (Hk.results_cell_row (fn:=Tryz.f133) (p:=6) (ty:=66) rfl _ _ (W.heap.size+1+1+1) 66 (ah ⟨1,max 1 (left+after'-after),got,bearer,true⟩).toArray (0,0) _ rfl (gz W _ _ _ 66 (ah ⟨1,max 1 (left+after'-after),got,bearer,true⟩)) Tryz.underlying66 rfl (by kernel_rfl)) rfl ?_
     exact FIN.out _ _ (by simp[Mar.cont,hs,hk,hp]) (gG _ _ _ _ _)
    ·have b2:(status==1)=false:=by simpa using hs
     by_cases hg:grace'=0
     ·have b3:(grace'==0)=true:=by simpa using hg
      go_enter Tryz.func133,Tryz.ntmps133
      go_wp2_with fail
      refine bodyPost_ret (v:= .agg (ah ⟨1,1,got,bearer,true⟩).toArray) (Hk.results_cell_row (fn:=Tryz.f133) (p:=6) (ty:=66) rfl _ _ (W.heap.size+1+1+1) 66 (ah ⟨1,1,got,bearer,true⟩).toArray (0,0) _ rfl (gz W _ _ _ 66 (ah ⟨1,1,got,bearer,true⟩)) Tryz.underlying66 rfl (by kernel_rfl)) rfl ?_
      exact FIN.out _ _ (by simp[Mar.cont,hs,hg,hk,hp]) (gG _ _ _ _ _)
     ·have b3:(grace'==0)=false:=by simpa using hg
      go_enter Tryz.func133,Tryz.ntmps133
      go_wp2_with fail
      refine bodyPost_ret (v:= .agg (ah ⟨status,max 1 (left+grace'-grace),got,bearer,true⟩).toArray) (Hk.results_cell_row (fn:=Tryz.f133) (p:=6) (ty:=66) rfl _ _ (W.heap.size+1+1+1) 66 (ah ⟨status,max 1 (left+grace'-grace),got,bearer,true⟩).toArray (0,0) _ rfl (gz W _ _ _ 66 (ah ⟨status,max 1 (left+grace'-grace),got,bearer,true⟩)) Tryz.underlying66 rfl (by kernel_rfl)) rfl ?_
      exact FIN.out _ _ (by simp[Mar.cont,hs,hg,hk,hp]) (gG _ _ _ _ _)
   have b1:(kind'==1)=true:=by simpa using hk
   by_cases hn:need'<=got
   rotate_left
   ·have i1:decide (need'<=got)=false:=decide_eq_false hn
    have HN:Hid (got<need'):=h_ (Int.not_le.1 hn)
    clear hn
    by_cases hs:status=1
    ·have b2:(status==1)=true:=by simpa using hs
     go_enter Tryz.func133,Tryz.ntmps133
     go_wp2_with fail
     refine bodyPost_ret (v:= .agg (ah ⟨1,max 1 (left+after'-after),got,bearer,true⟩).toArray) (Hk.results_cell_row (fn:=Tryz.f133) (p:=6) (ty:=66) rfl _ _ (W.heap.size+1+1+1) 66 (ah ⟨1,max 1 (left+after'-after),got,bearer,true⟩).toArray (0,0) _ rfl (gz W _ _ _ 66 (ah ⟨1,max 1 (left+after'-after),got,bearer,true⟩)) Tryz.underlying66 rfl (by kernel_rfl)) rfl ?_
     exact FIN.out _ _ (by simp[Mar.cont,hs,hk,(Int.not_le.2 HN.out),hp]) (gG _ _ _ _ _)
    ·have b2:(status==1)=false:=by simpa using hs
     by_cases hg:grace'=0
     ·have b3:(grace'==0)=true:=by simpa using hg
      go_enter Tryz.func133,Tryz.ntmps133
      go_wp2_with fail
      refine bodyPost_ret (v:= .agg (ah ⟨1,1,got,bearer,true⟩).toArray) (Hk.results_cell_row (fn:=Tryz.f133) (p:=6) (ty:=66) rfl _ _ (W.heap.size+1+1+1) 66 (ah ⟨1,1,got,bearer,true⟩).toArray (0,0) _ rfl (gz W _ _ _ 66 (ah ⟨1,1,got,bearer,true⟩)) Tryz.underlying66 rfl (by kernel_rfl)) rfl ?_
      exact FIN.out _ _ (by simp[Mar.cont,hs,hg,hk,(Int.not_le.2 HN.out),hp]) (gG _ _ _ _ _)
     ·have b3:(grace'==0)=false:=by simpa using hg
      go_enter Tryz.func133,Tryz.ntmps133
      go_wp2_with fail
      refine bodyPost_ret (v:= .agg (ah ⟨status,max 1 (left+grace'-grace),got,bearer,true⟩).toArray) (Hk.results_cell_row (fn:=Tryz.f133) (p:=6) (ty:=66) rfl _ _ (W.heap.size+1+1+1) 66 (ah ⟨status,max 1 (left+grace'-grace),got,bearer,true⟩).toArray (0,0) _ rfl (gz W _ _ _ 66 (ah ⟨status,max 1 (left+grace'-grace),got,bearer,true⟩)) Tryz.underlying66 rfl (by kernel_rfl)) rfl ?_
      exact FIN.out _ _ (by simp[Mar.cont,hs,hg,hk,(Int.not_le.2 HN.out),hp]) (gG _ _ _ _ _)
   have i1:decide (need'<=got)=true:=decide_eq_true hn
   go_enter Tryz.func133,Tryz.ntmps133
   go_wp2_with fail
   refine(eN ⟨status,left,got,bearer,true⟩ 3 _).mono ?_
   rintro e w4 ⟨rfl,hb4⟩
   have hrz:=(gz W _ _ _ 66 [.int .i64 0, .int .i64 0, .int .i64 0, .int .i64 0, .bool false]).below hb4 (gz W _ _ _ 66 [.int .i64 0, .int .i64 0, .int .i64 0, .int .i64 0, .bool false]).lt
   have HS:=h_ (aU (W:=W) (es:=ah (Mar.ended ⟨status,left,got,bearer,true⟩ 3)) hrz rfl rfl (aB _) ((gG W _ _ _ _).trans (hb4.mono (gG W _ _ _ _).size)) (by omega) 6 37)
   clear hb4 hrz
   go_wp2_with (refine ai (.tmp 6) ?_;refine HS.out _ _ _ _ _ rfl rfl rfl rfl ?_;intro w9 H9;simp only[Pt])
   refine bodyPost_ret (v:= .agg (ah (Mar.ended ⟨status,left,got,bearer,true⟩ 3)).toArray) (Hk.results_cell_row (fn:=Tryz.f133) (p:=6) (ty:=66) rfl _ _ (W.heap.size+1+1+1) 66 (ah (Mar.ended ⟨status,left,got,bearer,true⟩ 3)).toArray (0,0) _ rfl H9.out.1 Tryz.underlying66 rfl (by kernel_rfl)) rfl ?_
   exact FIN.out _ _ (by simp[Mar.cont,Mar.ended,hk,hn,hp]) H9.out.2
 |false=>
  by_cases hk:kind'=1
  rotate_left
  ·have b1:(kind'==1)=false:=by simpa using hk
   by_cases hs:status=1
   ·have b2:(status==1)=true:=by simpa using hs
    go_enter Tryz.func133,Tryz.ntmps133
    go_wp2_with fail
    refine bodyPost_ret (v:= .agg (ah ⟨1,max 1 (left+after'-after),got,bearer,false⟩).toArray) (Hk.results_cell_row (fn:=Tryz.f133) (p:=6) (ty:=66) rfl _ _ (W.heap.size+1+1+1) 66 (ah ⟨1,max 1 (left+after'-after),got,bearer,false⟩).toArray (0,0) _ rfl (gz W _ _ _ 66 (ah ⟨1,max 1 (left+after'-after),got,bearer,false⟩)) Tryz.underlying66 rfl (by kernel_rfl)) rfl ?_
    exact FIN.out _ _ (by simp[Mar.cont,hs,hk,Bool.false_and]) (gG _ _ _ _ _)
   ·have b2:(status==1)=false:=by simpa using hs
    by_cases hg:grace'=0
    ·have b3:(grace'==0)=true:=by simpa using hg
     go_enter Tryz.func133,Tryz.ntmps133
     go_wp2_with fail
     refine bodyPost_ret (v:= .agg (ah ⟨1,1,got,bearer,false⟩).toArray) (Hk.results_cell_row (fn:=Tryz.f133) (p:=6) (ty:=66) rfl _ _ (W.heap.size+1+1+1) 66 (ah ⟨1,1,got,bearer,false⟩).toArray (0,0) _ rfl (gz W _ _ _ 66 (ah ⟨1,1,got,bearer,false⟩)) Tryz.underlying66 rfl (by kernel_rfl)) rfl ?_
     exact FIN.out _ _ (by simp[Mar.cont,hs,hg,hk,Bool.false_and]) (gG _ _ _ _ _)
    ·have b3:(grace'==0)=false:=by simpa using hg
     go_enter Tryz.func133,Tryz.ntmps133
     go_wp2_with fail
     refine bodyPost_ret (v:= .agg (ah ⟨status,max 1 (left+grace'-grace),got,bearer,false⟩).toArray) (Hk.results_cell_row (fn:=Tryz.f133) (p:=6) (ty:=66) rfl _ _ (W.heap.size+1+1+1) 66 (ah ⟨status,max 1 (left+grace'-grace),got,bearer,false⟩).toArray (0,0) _ rfl (gz W _ _ _ 66 (ah ⟨status,max 1 (left+grace'-grace),got,bearer,false⟩)) Tryz.underlying66 rfl (by kernel_rfl)) rfl ?_
     exact FIN.out _ _ (by simp[Mar.cont,hs,hg,hk,Bool.false_and]) (gG _ _ _ _ _)
  have b1:(kind'==1)=true:=by simpa using hk
  by_cases hn:need'<=got
  rotate_left
  ·have i1:decide (need'<=got)=false:=decide_eq_false hn
   have HN:Hid (got<need'):=h_ (Int.not_le.1 hn)
   clear hn
   by_cases hs:status=1
   ·have b2:(status==1)=true:=by simpa using hs
    go_enter Tryz.func133,Tryz.ntmps133
    go_wp2_with fail
    refine bodyPost_ret (v:= .agg (ah ⟨1,max 1 (left+after'-after),got,bearer,false⟩).toArray) (Hk.results_cell_row (fn:=Tryz.f133) (p:=6) (ty:=66) rfl _ _ (W.heap.size+1+1+1) 66 (ah ⟨1,max 1 (left+after'-after),got,bearer,false⟩).toArray (0,0) _ rfl (gz W _ _ _ 66 (ah ⟨1,max 1 (left+after'-after),got,bearer,false⟩)) Tryz.underlying66 rfl (by kernel_rfl)) rfl ?_
    exact FIN.out _ _ (by simp[Mar.cont,hs,hk,(Int.not_le.2 HN.out),Bool.false_and]) (gG _ _ _ _ _)
   ·have b2:(status==1)=false:=by simpa using hs
    by_cases hg:grace'=0
    ·have b3:(grace'==0)=true:=by simpa using hg
     go_enter Tryz.func133,Tryz.ntmps133
     go_wp2_with fail
     refine bodyPost_ret (v:= .agg (ah ⟨1,1,got,bearer,false⟩).toArray) (Hk.results_cell_row (fn:=Tryz.f133) (p:=6) (ty:=66) rfl _ _ (W.heap.size+1+1+1) 66 (ah ⟨1,1,got,bearer,false⟩).toArray (0,0) _ rfl (gz W _ _ _ 66 (ah ⟨1,1,got,bearer,false⟩)) Tryz.underlying66 rfl (by kernel_rfl)) rfl ?_
     exact FIN.out _ _ (by simp[Mar.cont,hs,hg,hk,(Int.not_le.2 HN.out),Bool.false_and]) (gG _ _ _ _ _)
    ·have b3:(grace'==0)=false:=by simpa using hg
     go_enter Tryz.func133,Tryz.ntmps133
     go_wp2_with fail
     refine bodyPost_ret (v:= .agg (ah ⟨status,max 1 (left+grace'-grace),got,bearer,false⟩).toArray) (Hk.results_cell_row (fn:=Tryz.f133) (p:=6) (ty:=66) rfl _ _ (W.heap.size+1+1+1) 66 (ah ⟨status,max 1 (left+grace'-grace),got,bearer,false⟩).toArray (0,0) _ rfl (gz W _ _ _ 66 (ah ⟨status,max 1 (left+grace'-grace),got,bearer,false⟩)) Tryz.underlying66 rfl (by kernel_rfl)) rfl ?_
     exact FIN.out _ _ (by simp[Mar.cont,hs,hg,hk,(Int.not_le.2 HN.out),Bool.false_and]) (gG _ _ _ _ _)
  have i1:decide (need'<=got)=true:=decide_eq_true hn
  go_enter Tryz.func133,Tryz.ntmps133
  go_wp2_with fail
  refine(eN ⟨status,left,got,bearer,false⟩ 3 _).mono ?_
  rintro e w4 ⟨rfl,hb4⟩
  have hrz:=(gz W _ _ _ 66 [.int .i64 0, .int .i64 0, .int .i64 0, .int .i64 0, .bool false]).below hb4 (gz W _ _ _ 66 [.int .i64 0, .int .i64 0, .int .i64 0, .int .i64 0, .bool false]).lt
  have HS:=h_ (aU (W:=W) (es:=ah (Mar.ended ⟨status,left,got,bearer,false⟩ 3)) hrz rfl rfl (aB _) ((gG W _ _ _ _).trans (hb4.mono (gG W _ _ _ _).size)) (by omega) 6 37)
  clear hb4 hrz
  go_wp2_with (refine ai (.tmp 6) ?_;refine HS.out _ _ _ _ _ rfl rfl rfl rfl ?_;intro w9 H9;simp only[Pt])
  refine bodyPost_ret (v:= .agg (ah (Mar.ended ⟨status,left,got,bearer,false⟩ 3)).toArray) (Hk.results_cell_row (fn:=Tryz.f133) (p:=6) (ty:=66) rfl _ _ (W.heap.size+1+1+1) 66 (ah (Mar.ended ⟨status,left,got,bearer,false⟩ 3)).toArray (0,0) _ rfl H9.out.1 Tryz.underlying66 rfl (by kernel_rfl)) rfl ?_
  exact FIN.out _ _ (by simp[Mar.cont,Mar.ended,hk,hn,Bool.false_and]) H9.out.2
theorem boxes4(W:World)(T U V X:TypeId)(aa bs cs ds:List Value):
  ∃W1,(((W.alloc (.cells aa.toArray T)).alloc (.cells bs.toArray U)).alloc (.cells cs.toArray V)).alloc (.cells ds.toArray X)=W1/\Row W1 W.heap.size T aa/\Row W1 (W.heap.size+1) U bs/\Row W1 (W.heap.size+2) V cs/\Row W1 (W.heap.size+3) X ds/\Below W.heap.size W W1/\W1.heap.size=W.heap.size+4:=by
 obtain⟨W0,e0,h1,h2,h3,hb⟩:=dK W T U V aa bs cs
 have s0:W0.heap.size=W.heap.size+3:=by rw[<-e0];simp
 refine⟨_,rfl, ?_, ?_, ?_, ?_, ?_, ?_⟩
 ·rw[e0];exact h1.alloc _
 ·rw[e0];exact h2.alloc _
 ·rw[e0];exact h3.alloc _
 ·rw[e0, <-s0];exact Row.new _ _ _
 ·rw[e0];exact hb.alloc (by omega) _
 ·rw[e0];simp[s0]
set_option maxHeartbeats 8000000 in
theorem again_any(o n:Kl)(m:Mar)(A:Option Addr)(c:Nat)(hs:List Int)(W:World)(hA:SL W 1 Cs.encI A hs)(hr:n.1.kind≠4->0<=n.1.role/\n.1.role<(hs.length:Int))(hn:hs.length<=4000):
  Calls Tryz.prog 134 #[.agg (aF o).toArray, .agg (aF n).toArray, .agg (ah m).toArray, .slice A hs.length c] W fun e w'=>e= .returned (.agg (ah (m.again o.1 n.1 hs)).toArray)/\Below W.heap.size W w':=by
 obtain⟨R,eR⟩:∃R:Ending->World->Prop,R=fun e w'=>e= .returned (.agg (ah (m.again o.1 n.1 hs)).toArray)/\Below W.heap.size W w':=⟨_,rfl⟩
 rw[<-eR]
 have FIN:Hid (∀w' q,q=ah (m.again o.1 n.1 hs)->Below W.heap.size W w'->R (.returned (.agg q.toArray)) w'):=h_ fun w' v h hb=>by rw[eR,h];exact⟨rfl,hb⟩
 clear eR
 obtain⟨W1,e1,hr1,hr2,hr3,hz1,hb1,s1⟩:=boxes4 W 45 45 66 66 (aF o) (aF n) (ah m) (ah ⟨0,0,0,0,false⟩)
 obtain⟨os,eos⟩:∃os,os=aF o:=⟨_,rfl⟩
 obtain⟨ns,ens⟩:∃ns,ns=aF n:=⟨_,rfl⟩
 obtain⟨es,ees⟩:∃es,es=ah m:=⟨_,rfl⟩
 rw[<-eos, <-ens, <-ees]at e1⊢
 have E1:Hid ((((W.alloc (.cells os.toArray 45)).alloc (.cells ns.toArray 45)).alloc (.cells es.toArray 66)).alloc (.cells #[.int .i64 0, .int .i64 0, .int .i64 0, .int .i64 0, .bool false] 66)=W1):=h_ e1
 obtain⟨W2,e2⟩:∃W2,W2=W1.alloc (.cells (ah ⟨1,n.1.after,0,m.bearer,false⟩).toArray 66):=⟨_,rfl⟩
 have E2:Hid (W1.alloc (.cells #[.int .i64 1, .int .i64 n.1.after, .int .i64 0, .int .i64 m.bearer, .bool false] 66)=W2):=h_ e2.symm
 obtain⟨rs,ers⟩:∃rs,rs=ah ⟨1,n.1.after,0,m.bearer,false⟩:=⟨_,rfl⟩
 have hb12:Below W1.heap.size W1 W2:=by rw[e2];exact bel1 _ _
 have HR2:Hid (Row W2 W1.heap.size 66 rs):=h_ (by rw[e2,ers];exact Row.new _ _ _)
 have HZ2:Hid (Row W2 (W.heap.size+3) 66 (ah ⟨0,0,0,0,false⟩)):=h_ (hz1.below hb12 hz1.lt)
 have HB2:Hid (Below W.heap.size W W2):=h_ (hb1.trans (hb12.mono hb1.size))
 have HS1:=h_ s1
 have ERS:=h_ ers
 obtain⟨q0,q1,_,_,_,q5,_,_,_,_,_,_,_,_,_,_⟩:=ClsK.ofKl (k:=n) hr2
 obtain⟨p0,_,_,_,_,_,_,_,_,_,_,_,_,_,_,_⟩:=ClsK.ofKl (k:=o) hr1
 obtain⟨_,_,_,m3,_⟩:=MarC.of (m:=m) hr3
 obtain⟨x0,x1,_,_,_,_,_,_,_,_,_,_,_,_,_,_⟩:=ClsK.ofKl (k:=n) (hr2.below hb12 hr2.lt)
 obtain⟨y0,_,_,_,_,_,_,_,_,_,_,_,_,_,_,_⟩:=ClsK.ofKl (k:=o) (hr1.below hb12 hr1.lt)
 have HSL:=h_ (hA.below HB2.out (Nat.le_refl _))
 have HRL:=h_ hr
 have f3:=Blk.Blk.frozen (show Blk.Blk W2 W1.heap.size rs 66 from HR2.out) 3
 have g3:=HR2.out.at (show rs[3]? =some (.int .i64 m.bearer) by rw[ERS.out];rfl)
 clear e1 hr1 hr2 hr3 hz1 hb1 s1 eos ens ees e2 ers hb12 hA hr
 by_cases h4:n.1.kind=4
 ·have b4:(n.1.kind==4)=true:=by simpa using h4
  obtain⟨W3,e3⟩:∃W3,W3=W2.setCell ⟨W1.heap.size,3,none⟩ (.int .i64 (-1)):=⟨_,rfl⟩
  obtain⟨ss,ess⟩:∃ss,ss=ah ⟨1,n.1.after,0,(-1),false⟩:=⟨_,rfl⟩
  have hr3:Row W3 W1.heap.size 66 ss:=by
   have h:=Blk.Blk.set (show Blk.Blk W2 W1.heap.size rs 66 from HR2.out) 3 (.int .i64 (-1))
   rw[e3,ess];rw[ERS.out]at h;exact h
  have hz3:Row W3 (W.heap.size+3) 66 (ah ⟨0,0,0,0,false⟩):=by
   rw[e3];exact Blk.Blk.set_ne (show Blk.Blk W2 (W.heap.size+3) _ 66 from HZ2.out) (a:=⟨W1.heap.size,3,none⟩) (by show W1.heap.size≠W.heap.size+3;have:=HS1.out;omega) _
  have hb3:Below W.heap.size W W3:=HB2.out.trans (by rw[e3];exact aq (a:=⟨W1.heap.size,3,none⟩) (by have:=HS1.out;show W.heap.size<=W1.heap.size;omega) _)
  have E3:Hid (W2.setCell ⟨W1.heap.size,3,none⟩ (.int .i64 (-1))=W3):=h_ e3.symm
  have HMS:=h_ hr3.rg
  have HIS:=h_ (bV ss (by rw[ess];rfl))
  have HST:=h_ (aU (es:=ss) hz3 rfl (by rw[ess];rfl) (by rw[ess];exact aB _) hb3 (by omega) 8 30)
  have HEQ:Hid (ss=ah (m.again o.1 n.1 hs)):=h_ (by rw[ess];unfold Mar.again;rw[b4];rfl)
  clear e3 ess hr3 hz3 hb3 h4
  go_enter Tryz.func134,Tryz.ntmps134
  go_wp2_with (first
   |(simp only[E1.out])
   |(simp only[E2.out])
   |(simp only[E3.out])
   |(refine ae (.tmp 9) ?_;refine wpList_load_mid rfl 66 (.tmp 9) rfl W1.heap.size 0 rfl ss _ HMS.out Tryz.underlying66 rfl HIS.out ?_)
   |(refine ai (.tmp 8) ?_;refine HST.out _ _ _ _ _ rfl rfl rfl rfl ?_;intro w9 H9;simp only[Pt]))
  refine bodyPost_ret (v:= .agg ss.toArray) (Hk.results_cell_row (fn:=Tryz.f134) (p:=8) (ty:=66) rfl _ _ (W.heap.size+3) 66 ss.toArray (0,0) _ rfl H9.out.1 Tryz.underlying66 rfl (by rw[HIS.out];simp)) rfl ?_
  exact FIN.out _ _ HEQ.out H9.out.2
 have b4:(n.1.kind==4)=false:=by simpa using h4
 by_cases h5:o.1.kind=4
 ·have b5:(o.1.kind==4)=true:=by simpa using h5
  obtain⟨i,hi⟩:∃i:Nat,n.1.role=(i:Int):=⟨n.1.role.toNat,by have:=(HRL.out h4).1;omega⟩
  have hil:i<hs.length:=by have:=(HRL.out h4).2;omega
  obtain⟨h,eh⟩:∃h,hs[i]? =some h:=⟨_,List.getElem?_eq_getElem hil⟩
  have hS:=HSL.out
  obtain⟨b,off,eA⟩:=aC hS (by intro e;rw[e]at hil;simp at hil)
  rw[eA]at hS⊢
  have cd:=bR hS eh
  have hii:(i:Int)<(hs.length:Int):=by omega
  have hi0:(0:Int)<=(i:Int):=by omega
  rw[hi]at q1 x1
  obtain⟨W3,e3⟩:∃W3,W3=W2.setCell ⟨W1.heap.size,3,none⟩ (.int .i64 h):=⟨_,rfl⟩
  obtain⟨ss,ess⟩:∃ss,ss=ah ⟨1,n.1.after,0,h,false⟩:=⟨_,rfl⟩
  have hr3:Row W3 W1.heap.size 66 ss:=by
   have h:=Blk.Blk.set (show Blk.Blk W2 W1.heap.size rs 66 from HR2.out) 3 (.int .i64 h)
   rw[e3,ess];rw[ERS.out]at h;exact h
  have hz3:Row W3 (W.heap.size+3) 66 (ah ⟨0,0,0,0,false⟩):=by
   rw[e3];exact Blk.Blk.set_ne (show Blk.Blk W2 (W.heap.size+3) _ 66 from HZ2.out) (a:=⟨W1.heap.size,3,none⟩) (by show W1.heap.size≠W.heap.size+3;have:=HS1.out;omega) _
  have hb3:Below W.heap.size W W3:=HB2.out.trans (by rw[e3];exact aq (a:=⟨W1.heap.size,3,none⟩) (by have:=HS1.out;show W.heap.size<=W1.heap.size;omega) _)
  have E3:Hid (W2.setCell ⟨W1.heap.size,3,none⟩ (.int .i64 h)=W3):=h_ e3.symm
  have HMS:=h_ hr3.rg
  have HIS:=h_ (bV ss (by rw[ess];rfl))
  have HST:=h_ (aU (es:=ss) hz3 rfl (by rw[ess];rfl) (by rw[ess];exact aB _) hb3 (by omega) 8 30)
  have HEQ:Hid (ss=ah (m.again o.1 n.1 hs)):=h_ (by rw[ess];unfold Mar.again roleH;rw[b4,b5,hi,Int.toNat_natCast,eh];rfl)
  clear e3 ess hr3 hz3 hb3 h4 h5 hil eh hS eA hi
  go_enter Tryz.func134,Tryz.ntmps134
  go_wp2_with (first
   |(simp only[E1.out])
   |(simp only[E2.out])
   |(simp only[E3.out])
   |(refine ae (.tmp 9) ?_;refine wpList_load_mid rfl 66 (.tmp 9) rfl W1.heap.size 0 rfl ss _ HMS.out Tryz.underlying66 rfl HIS.out ?_)
   |(refine ai (.tmp 8) ?_;refine HST.out _ _ _ _ _ rfl rfl rfl rfl ?_;intro w9 H9;simp only[Pt]))
  refine bodyPost_ret (v:= .agg ss.toArray) (Hk.results_cell_row (fn:=Tryz.f134) (p:=8) (ty:=66) rfl _ _ (W.heap.size+3) 66 ss.toArray (0,0) _ rfl H9.out.1 Tryz.underlying66 rfl (by rw[HIS.out];simp)) rfl ?_
  exact FIN.out _ _ HEQ.out H9.out.2
 have b5:(o.1.kind==4)=false:=by simpa using h5
 have HEQ:Hid (rs=ah (m.again o.1 n.1 hs)):=h_ (by rw[ERS.out];unfold Mar.again;rw[b4,b5];rfl)
 have HMS:=h_ HR2.out.rg
 have HIS:=h_ (bV rs (by rw[ERS.out];rfl))
 have HST:=h_ (aU (es:=rs) HZ2.out rfl (by rw[ERS.out];rfl) (by rw[ERS.out];exact aB _) HB2.out (by omega) 8 30)
 clear h4 h5
 go_enter Tryz.func134,Tryz.ntmps134
 go_wp2_with (first
  |(simp only[E1.out])
  |(simp only[E2.out])
  |(refine ae (.tmp 9) ?_;refine wpList_load_mid rfl 66 (.tmp 9) rfl W1.heap.size 0 rfl rs _ HMS.out Tryz.underlying66 rfl HIS.out ?_)
  |(refine ai (.tmp 8) ?_;refine HST.out _ _ _ _ _ rfl rfl rfl rfl ?_;intro w9 H9;simp only[Pt]))
 refine bodyPost_ret (v:= .agg rs.toArray) (Hk.results_cell_row (fn:=Tryz.f134) (p:=8) (ty:=66) rfl _ _ (W.heap.size+3) 66 rs.toArray (0,0) _ rfl H9.out.1 Tryz.underlying66 rfl (by rw[HIS.out];simp)) rfl ?_
 exact FIN.out _ _ HEQ.out H9.out.2
end Go.Proofs.YtekfoaenomgjgaaGreatDoor
