/- Package migrate: migrated, walked. Condition: the contract, the patch and the state lie in memory; the state is well-formed; the patch can be applied. -/
import Derived.Test.YtekfoaenomgjgaaGreatDoorSyZ
set_option maxRecDepth 100000
set_option linter.all false
namespace Go.Proofs.YtekfoaenomgjgaaGreatDoor
open Go.RowKit Go.W32 Go.Blk Go.Cs Go.Lib Go.Opn Go.Mg Go.Cv

theorem updN{d:Nat->Option Value}{k j:Nat}{x:Value}(h:j≠k):Fre6.upd d k x j=d j:=by unfold Fre6.upd;rw[if_neg h]
theorem updE{d:Nat->Option Value}{k:Nat}{x:Value}:Fre6.upd d k x k=some x:=by unfold Fre6.upd;rw[if_pos rfl]
structure MgI (c:ConM) (p:Pat) (h:Hd) (s1:StaM) (W W3:World) (cs ps ss es ts:List Value) (be bt bc bp bh:Nat) (ms:List Mar) (w:World):Prop where
 b:MgB W cs ps ss w
 e:Row w be 27 es
 t:Row w bt 56 ts
 ch:ChB c p h s1.hA s1.hc s1.holders bc bp bh w
 own:StaOw W3.heap.size w (s1.withM ms)
 len:ms.length=s1.marks.length
 below:Below W3.heap.size W3 w
theorem MgI.grow{c:ConM}{p:Pat}{h:Hd}{s1:StaM}{W W3:World}{cs ps ss es ts:List Value}{be bt bc bp bh:Nat}{ms:List Mar}{w w':World}(a:MgI c p h s1 W W3 cs ps ss es ts be bt bc bp bh ms w)(hb:Below w.heap.size w w'):MgI c p h s1 W W3 cs ps ss es ts be bt bc bp bh ms w':=
 ⟨a.b.grow hb,a.e.below hb a.e.lt,a.t.below hb a.t.lt,a.ch.below hb,a.own.below hb,a.len,a.below.trans (hb.mono a.below.size)⟩
theorem MgI.put{c:ConM}{p:Pat}{h:Hd}{s1:StaM}{W W3:World}{cs ps ss es ts:List Value}{be bt bc bp bh:Nat}{ms ms':List Mar}{w w':World}{g:Nat}(a:MgI c p h s1 W W3 cs ps ss es ts be bt bc bp bh ms w)(hA:s1.mA=some ⟨g,0,none⟩)(hg:w.grownBy w' (some g))(hgl:W3.heap.size<=g)(hbe:be≠g)(hbt:bt≠g)(hbc:bc≠g)(hbp:bp≠g)(hbh:bh≠g)(hlo:W.heap.size+4<W3.heap.size)
  (hcon:ConAt w' c) (hr:w'.ownsRow W3.heap.size 66 5 (.slice (some ⟨g,0,none⟩) ms.length s1.mc) ms.length (ms'.flatMap ah)) (hl:ms'.length=ms.length):MgI c p h s1 W W3 cs ps ss es ts be bt bc bp bh ms' w':=by
 have hm:w.ownsRow W3.heap.size 66 5 (.slice s1.mA ms.length s1.mc) ms.length (ms.flatMap ah):=a.own.m
 have hgg:(Value.slice s1.mA ms.length s1.mc).ownBlock=some g:=by rw[hA];rfl
 have kp:∀ {b:Nat} {T:TypeId} {xs:List Value},Row w b T xs->b≠g->Row w' b T xs:=fun hr hn=>hr.keep (hg.block _ hr.lt (fun e=>hn (Option.some.inj e)))
 have ho:StaOw W3.heap.size w' (s1.withM ms'):=by
  refine⟨?_, ?_, ?_⟩
  ·exact owns_keep a.own.h fun k hk=>hg.block k (owns_lt a.own.h hk).2 (fun e=>cv a.own.h hm (by decide) hk (by rw[hgg,e]))
  ·exact owns_keep a.own.u fun k hk=>hg.block k (owns_lt a.own.u hk).2 (fun e=>cv a.own.u hm (by decide) hk (by rw[hgg,e]))
  ·show w'.ownsRow W3.heap.size 66 5 (.slice s1.mA ms'.length s1.mc) ms'.length (ms'.flatMap ah)
   rw[hA,hl];exact hr
 have hb:Below W3.heap.size W3 w':=a.below.trans (aj hg (fun k e=>by injection e with e;omega) a.below.size)
 refine⟨⟨kp a.b.rc (by omega),kp a.b.rp (by omega),kp a.b.rs (by omega),kp a.b.za (by omega),kp a.b.zb (by omega),a.b.below.trans (aj hg (fun k e=>by injection e with e;omega) a.b.below.size)⟩,kp a.e hbe,kp a.t hbt,⟨kp a.ch.rc hbc,kp a.ch.rp hbp,kp a.ch.rh hbh,hcon,ho.at_.h⟩,ho,by rw[hl,a.len],hb⟩
set_option maxHeartbeats 8000000 in
theorem mgd_any(c:ConM)(p:Pat)(h:Hd)(s:StaM)(d:Con)(W:World)(hc:ConAt W c)(hz:ConSz c)(hp:PatAt W p h)(hpk:bn p.kind)(hst:p.new.start.length<=1000000)(hs:StaAt W s)(hv:sysB c.con s.sta=true)(hd:bf c.con p=some d):
  Calls Tryz.prog 61 #[.agg (ak c).toArray, .agg (aw p h).toArray, .agg (aE s).toArray] W (MgPost c.con p s.sta d W):=by
 obtain⟨R,eR⟩:∃R,R=MgPost c.con p s.sta d W:=⟨_,rfl⟩
 rw[<-eR]
 have FIN:Hid (∀w' c' s',MgO c.con p s.sta d W.heap.size w' s'->Below W.heap.size W w'->R (.returned (.tuple #[.agg (ak c').toArray, .agg (aE s').toArray, .int .i64 0])) w'):=h_ fun w' c' s' h1 hb=>by rw[eR];exact⟨hb,c',s',rfl,h1⟩
 clear eR
 have HK:=h_ (mgK hv hd)
 obtain⟨cs,ecs⟩:∃cs,cs=ak c:=⟨_,rfl⟩
 obtain⟨ps,eps⟩:∃ps,ps=aw p h:=⟨_,rfl⟩
 obtain⟨ss,ess⟩:∃ss,ss=aE s:=⟨_,rfl⟩
 obtain⟨W1,e1,hB1⟩:=MgB.new W cs ps ss
 have E1:=h_ e1
 have HB1:=h_ hB1
 have HCON:Hid (∀w',Below W.heap.size W w'->ConAt w' c):=h_ fun w' hb=>hc.below hb (Nat.le_refl _)
 have HPAT:Hid (∀w',Below W.heap.size W w'->PatAt w' p h):=h_ fun w' hb=>hp.below hb (Nat.le_refl _)
 have HSTA:Hid (∀w',Below W.heap.size W w'->StaAt w' s):=h_ fun w' hb=>hs.below hb (Nat.le_refl _)
 have CA:=gZ c p h W1 (HCON.out _ hB1.below) hz (HPAT.out _ hB1.below) (by have:=HK.out.len;omega) hpk hst
 rw[<-ecs, <-eps]at CA
 have CA:=h_ CA
 have HMC:=h_ hB1.rc.rg
 have HMP:=h_ hB1.rp.rg
 have HIC:=h_ (aK cs (by rw[ecs];rfl))
 have HIP:Hid ((Tryz.prog.info? 47).map (·.size)=some ps.length):=h_ (by rw[eps];kernel_rfl)
 have HIS:=h_ (dc ss (by rw[ess];rfl))
 rw[<-ecs, <-eps, <-ess]
 have ECS:=h_ ecs
 have EPS:=h_ eps
 have ESS:=h_ ess
 have HD:=h_ hd
 clear e1 hB1 ecs eps ess hc hz hp hpk hst hs hv hd
 go_enter Tryz.func61,Tryz.ntmps61
 go_wp2_with (first
  |(simp only[E1.out])
  |(refine ae (.tmp 3) ?_;refine wpList_load_mid rfl 27 (.tmp 3) rfl W.heap.size 0 rfl cs _ HMC.out Tryz.underlying27 rfl HIC.out ?_)
  |(refine ae (.tmp 4) ?_;refine wpList_load_mid rfl 47 (.tmp 4) rfl (W.heap.size+1) 0 rfl ps _ HMP.out Tryz.underlying47 rfl HIP.out ?_))
 refine CA.out.mono ?_
 rintro e w2 ⟨hb2,c',n,rfl,hor⟩
 obtain⟨rfl,hcon,how⟩:n=0/\c'.con=d/\ConOw W1.heap.size w2 c':=by
  rcases hor with⟨a1,a2,a3⟩|⟨_,a2⟩
  ·exact⟨a1,by rw[HD.out]at a2;exact(Option.some.inj a2).symm,a3⟩
  ·rw[HD.out]at a2;cases a2
 obtain⟨es,ees⟩:∃es,es=ak c':=⟨_,rfl⟩
 rw[<-ees]
 obtain⟨W3,e3⟩:∃W3,W3=w2.alloc (.cells es.toArray 27):=⟨_,rfl⟩
 have hb3:Below w2.heap.size w2 W3:=by rw[e3];exact bel1 _ _
 have hB3:=(HB1.out.grow hb2).grow hb3
 have hE3:Row W3 w2.heap.size 27 es:=by rw[e3];exact Row.new _ _ _
 have how3:ConOw W1.heap.size W3 c':=how.keepAll fun g _ hg=>hb3.block g hg
 have HST3:=h_ (Sel.store_box (aK es (by rw[ees];rfl)) (by rw[ees];exact aX c') 9 20 w2 W3 _ rfl e3)
 have hnn:d.cls.length=c'.kls.length:=by rw[<-hcon];exact List.length_map _
 have herr:dx c'.con=0:=by rw[hcon];exact HK.out.err
 have hsh:=ci herr
 have hn4:s.marks.length<=c'.kls.length:=by have:=HK.out.marks;have:=HK.out.big;have h2:c.con.cls.length=c.kls.length:=List.length_map _;omega
 have CC:=cps_any s c'.kls.length W3 (HSTA.out _ hB3.below) HK.out.ch.hn HK.out.used hn4 (by have:=hsh.k;omega)
 rw[<-ESS.out]at CC
 have CC:=h_ CC
 have k4:=hE3.at (show es[4]? =some (.slice c'.kA c'.kls.length c'.kc) by rw[ees];rfl)
 have HMS3:=h_ hB3.rs.rg
 have HB3:=h_ hB3
 have HE3:=h_ hE3
 have HOW3:=h_ how3
 have EES:=h_ ees
 have HCN:=h_ hcon
 have HNN:=h_ hnn
 have HERR:=h_ herr
 have HSH:=h_ hsh
 have HES7:Hid (es.length=7):=h_ (by rw[ees];rfl)
 have HW12:Hid (W1.heap.size<=w2.heap.size):=h_ hb2.size
 clear hb2 hor how ees e3 hb3 hB3 hE3 how3 CA HMC HMP hcon hnn herr hsh hn4 E1
 go_wp2_with (first
  |(refine ai (.tmp 9) ?_;refine HST3.out _ _ _ _ _ rfl rfl rfl rfl _ (by simp[HES7.out]) ?_;simp only[Pt])
  |(refine ae (.tmp 5) ?_;refine wpList_load_mid rfl 56 (.tmp 5) rfl (W.heap.size+1+1) 0 rfl ss _ HMS3.out Tryz.underlying56 rfl HIS.out ?_))
 refine CC.out.mono ?_
 rintro e w4 ⟨hb4,s1,rfl,x1,x2,x3,x4,ho4⟩
 obtain⟨ts,ets⟩:∃ts,ts=aE s1:=⟨_,rfl⟩
 rw[<-ets]
 obtain⟨W5,e5⟩:∃W5,W5=w4.alloc (.cells ts.toArray 56):=⟨_,rfl⟩
 have hb5:Below w4.heap.size w4 W5:=by rw[e5];exact bel1 _ _
 have hb35:Below W3.heap.size W3 W5:=hb4.trans (hb5.mono hb4.size)
 have hB5:=HB3.out.grow hb35
 have hE5:=HE3.out.below hb35 HE3.out.lt
 have hT5:Row W5 w4.heap.size 56 ts:=by rw[e5];exact Row.new _ _ _
 have ho5:=ho4.below hb5
 have HST5:=h_ (Sel.store_box (dc ts (by rw[ets];rfl)) (by rw[ets];exact cB s1) 11 31 w4 W5 _ rfl e5)
 have CH:=change_any c p h s1.hA s1.hc s1.holders W5 (HCON.out _ hB5.below) ho5.at_.h (by rw[x2];exact HK.out.ch)
 rw[<-ECS.out, <-EPS.out]at CH
 have CH:=h_ CH
 have t1:=hT5.at (show ts[1]? =some (.slice s1.hA s1.holders.length s1.hc) by rw[ets];rfl)
 have HMC5:=h_ hB5.rc.rg
 have HMP5:=h_ hB5.rp.rg
 have HB5:=h_ hB5
 have HE5:=h_ hE5
 have HT5:=h_ hT5
 have HO5:=h_ ho5
 have HB35:=h_ hb35
 have ETS:=h_ ets
 have HG4:Hid (∀g,s1.mA=some ⟨g,0,none⟩->W3.heap.size<=g/\g<w4.heap.size):=h_ fun g e=>owns_lt ho4.m (g:=g) (by rw[e];rfl)
 have HGF:Hid (s1.mA=none\/∃g,s1.mA=some ⟨g,0,none⟩):=h_ (by
  rcases ho4.m.2 with⟨e,_⟩|⟨g,cap,cur,e,_⟩
  ·injection e with e _;exact .inl e
  ·injection e with e _;exact .inr ⟨g,e⟩)
 have HTS4:Hid (ts.length=4):=h_ (by rw[ets];rfl)
 have HZ54:Hid (w4.heap.size<W5.heap.size/\W3.heap.size<=w4.heap.size/\w2.heap.size<W3.heap.size/\W.heap.size+4<w2.heap.size):=h_ ⟨hT5.lt,hb4.size,HE3.out.lt,by have:=HB1.out.low;have:=HW12.out;omega⟩
 have HX2:=h_ x2
 have HX1:=h_ x1
 have HX3:=h_ x3
 have HX4:=h_ x4
 clear hb4 e5 hb5 hb35 hB5 hE5 hT5 ho5 ho4 ets x1 x2 x3 x4 CC HST3 HMS3 k4
 go_wp2_with (first
  |(refine ai (.tmp 11) ?_;refine HST5.out _ _ _ _ _ rfl rfl rfl rfl _ (by simp[HTS4.out]) ?_;simp only[Pt])
  |(refine ae (.tmp 3) ?_;refine wpList_load_mid rfl 27 (.tmp 3) rfl W.heap.size 0 rfl cs _ HMC5.out Tryz.underlying27 rfl HIC.out ?_)
  |(refine ae (.tmp 4) ?_;refine wpList_load_mid rfl 47 (.tmp 4) rfl (W.heap.size+1) 0 rfl ps _ HMP5.out Tryz.underlying47 rfl HIP.out ?_))
 refine CH.out.mono ?_
 rintro e w6 ⟨f,caps,bc,bp,bh,rfl,hf,hch,hge,hb6⟩
 have hI6:MgI c p h s1 W W3 cs ps ss es ts w2.heap.size w4.heap.size bc bp bh s1.marks w6:=⟨HB5.out.grow hb6,HE5.out.below hb6 HE5.out.lt,HT5.out.below hb6 HT5.out.lt,hch,HO5.out.below hb6,rfl,HB35.out.trans (hb6.mono HB35.out.size)⟩
 have p1:=hI6.b.rp.at (show ps[1]? =some (.slice h.A p.cl.length h.c) by rw[EPS.out];rfl)
 have p0:=hI6.b.rp.at (show ps[0]? =some (.int .i64 p.kind) by rw[EPS.out];rfl)
 have c4:=hI6.b.rc.at (show cs[4]? =some (.slice c.kA c.kls.length c.kc) by rw[ECS.out];rfl)
 have hsz6:W5.heap.size<=w6.heap.size:=hb6.size
 have HI6:=h_ hI6
 have HF:=h_ hf
 have HGE:Hid (w4.heap.size<bc/\w4.heap.size<bp/\w4.heap.size<bh/\w4.heap.size<w6.heap.size):=h_ (by have:=HZ54.out;omega)
 obtain⟨l,el⟩:∃l,l=du c.con.cls.length p:=⟨_,rfl⟩
 have EL:=h_ el
 clear hf hch hge hb6 hI6 CH t1 HMC5 HMP5 HST5 hsz6 el HB1 HB3 HE3 HB5 HE5 HT5 HO5 HB35
 by_cases hk:p.kind=1
 ·have b1:(p.kind==1)=true:=by simpa using hk
  have hl:l= [(c.kls.length:Int)]:=by rw[EL.out];unfold du;rw[b1,show c.con.cls.length=c.kls.length from List.length_map _];rfl
  obtain⟨W7,e7⟩:∃W7,W7=w6.alloc (.cells #[.int .i64 (c.kls.length:Int)] 3):=⟨_,rfl⟩
  have E7:Hid (w6.alloc (.cells #[.int .i64 (c.kls.length:Int)] 3)=W7):=h_ e7.symm
  have hb7:Below w6.heap.size w6 W7:=by rw[e7];exact bel1 _ _
  have hr7:Row W7 w6.heap.size 3 [.int .i64 (c.kls.length:Int)]:=by rw[e7];exact Row.new _ _ _
  obtain⟨lA,elA⟩:∃lA:Option Addr,lA=some ⟨w6.heap.size,0,none⟩:=⟨_,rfl⟩
  have hI7:=HI6.out.grow hb7
  have HI7:=h_ hI7
  have HLL:Hid (l.length=1):=h_ (by rw[hl];rfl)
  have HLB:Hid (l.length<=400):=h_ (by rw[hl];show 1<=400;decide)
  have HX0:Hid (w6.heap.size<W7.heap.size):=h_ hr7.lt
  have HSL:Hid (∀w' ms,MgI c p h s1 W W3 cs ps ss es ts w2.heap.size w4.heap.size bc bp bh ms w'->w'.heap[w6.heap.size]? =W7.heap[w6.heap.size]? ->SL w' 1 Cs.encI lA l):=h_ fun w' ms _ hx=>by
   have hr:Row w' w6.heap.size 3 [.int .i64 (c.kls.length:Int)]:=hx.trans hr7
   rw[elA,hl]
   refine⟨fun _=>⟨w6.heap.size,0,rfl,fun k x hk pp v hv=> ?_⟩⟩
   match k,hk with
   |0,hk=>
    cases hk
    match pp,hv with
    |0,hv=>cases hv;exact hr.at rfl
    |pp+1,hv=>simp[Cs.encI]at hv
   |k+1,hk=>simp at hk
  have HXR:Hid (∀w':World,w'.heap[w6.heap.size]? =W7.heap[w6.heap.size]? ->w6.heap.size<w'.heap.size):=h_ fun w' hx=>Row.lt (T:=3) (cs:= [.int .i64 (c.kls.length:Int)]) (show Row w' w6.heap.size 3 _ from hx.trans hr7)
  have ELA:=h_ elA
  clear e7 hb7 hr7 hI7 hl hk
  go_wp2_with (simp only[E7.out])
  rw[<-ELA.out]
  clear p0 c4 p1
  have HI0:Hid (MgI c p h s1 W W3 cs ps ss es ts w2.heap.size w4.heap.size bc bp bh (mgL c.con p s.holders l s1.marks 0) W7):=HI7
  go_loopw [48] (fun v wr=> ∃i:Nat,v= .int .i64 (i:Int)/\i<=l.length/\MgI c p h s1 W W3 cs ps ss es ts w2.heap.size w4.heap.size bc bp bh (mgL c.con p s.holders l s1.marks i) wr/\Hid (wr.heap[w6.heap.size]? =W7.heap[w6.heap.size]?)) (fun v _=>l.length- (RowKit.intOf v).toNat)
  case atStart=>exact⟨0,rfl,Nat.zero_le _,HI0.out,h_ rfl⟩
  case round=>
   clear HI0
   obtain⟨i,rfl,hi,hI,hX⟩:=hrel
   have hib:(i:Int)<=4000:=by have:=HLL.out;have:=HLB.out;omega
   rcases Nat.lt_or_eq_of_le hi with hil|hil
   ·have hki:(i:Int)<(1:Int):=by have:=HLL.out;omega
    have hi0:(0:Int)<=(i:Int):=by omega
    obtain⟨xx,exx⟩:∃x,l[i]? =some x:=⟨_,List.getElem?_eq_getElem hil⟩
    have hof:=HK.out.off
    rw[<-EL.out]at hof
    have hxr:=offF_nth hof exx
    obtain⟨n,hxn⟩:∃n:Nat,xx=(n:Int):=⟨xx.toNat,by omega⟩
    subst hxn
    have hsl:=HSL.out wr _ hI hX.out
    obtain⟨b,off,eA⟩:=aC hsl (by intro e;rw[e]at hil;simp at hil)
    rw[eA]at hsl⊢
    have cd:=bR hsl exx
    have hlen:(mgL c.con p s.holders l s1.marks i).length=s1.marks.length:=mgL_len _ _ _ _ _ _
    have hml:s1.marks.length=d.cls.length:=by rw[HX4.out,List.length_append,List.length_replicate];have:=HK.out.marks;have:=HK.out.big;have h2:c.con.cls.length=c.kls.length:=List.length_map _;have:=HNN.out;omega
    have hnl:n<s1.marks.length:=by omega
    obtain⟨m,em⟩:∃m,(mgL c.con p s.holders l s1.marks i)[n]? =some m:=⟨_,List.getElem?_eq_getElem (by omega)⟩
    have hleft:0<=m.left/\m.left<=400:=by
     have h0:=em
     rw[mgL_at hof exx,HX4.out]at h0
     exact HK.out.left n m (by rw[HNN.out];exact h0)
    have hkd:=HK.out.kind n (by rw[<-EL.out];exact List.mem_of_getElem? exx)
    obtain⟨g,eg⟩:∃g,s1.mA=some ⟨g,0,none⟩:=by
     rcases HGF.out with e|e
     ·have hm:=hI.own.m
      rcases hm.2 with⟨_,e2⟩|⟨g,cap,cur,e2,_⟩
      ·have e2:(mgL c.con p s.holders l s1.marks i).length=0:=e2
       omega
      ·injection e2 with e2 _;exact⟨g,e2⟩
     ·exact e
    obtain⟨mm,emm⟩:∃mm,mm=ah m:=⟨_,rfl⟩
    have HKW:Hid (∀w',Below wr.heap.size wr w'->w'.cell? ⟨w4.heap.size,3,none⟩=some (.slice (some ⟨g,0,none⟩) s1.marks.length s1.mc)/\w'.rangeAt g (n*5) mm/\ChB c p h s1.hA s1.hc s1.holders bc bp bh w'):=h_ fun w' hb=>by
     have h1:=hI.grow hb
     have t3:=h1.t.at (show ts[3]? =some (.slice s1.mA s1.marks.length s1.mc) by rw[ETS.out];rfl)
     rw[eg]at t3
     have hs:SL w' 5 ah s1.mA (mgL c.con p s.holders l s1.marks i):=h1.own.at_.m
     rw[eg]at hs
     have hr:=az hs em
     rw[Nat.zero_add]at hr
     exact⟨t3,by rw[emm];exact hr,h1.ch⟩
    obtain⟨q,eq⟩:∃q,q=chgM c.con.cls p s.holders (n:Int) m:=⟨_,rfl⟩
    have CQ:Hid (∀w',ChB c p h s1.hA s1.hc s1.holders bc bp bh w'->Calls Tryz.prog f (#[.int .i64 (n:Int), .agg mm.toArray]++caps) w' fun e w''=>e= .returned (.agg (ah q).toArray)/\Below w'.heap.size w' w''):=h_ fun w' hch=>by
     have h1:=HF.out.run w' hch n m hkd hleft.1 hleft.2
     rw[emm,eq, <-HX2.out];exact h1
    have hcf:=HF.out.enter
    have hnm:(n:Int)<(s1.marks.length:Int):=by omega
    have hn0:(0:Int)<=(n:Int):=by omega
    have HIM:=h_ (bV mm (by rw[emm];rfl))
    have HI:=h_ hI
    have EG:=h_ eg
    have EM:=h_ em
    have EQ:=h_ eq
    have EXX:=h_ exx
    have HGL:=h_ (HG4.out g eg)
    clear hof hxr hsl eA hlen hml hnl em hleft hkd eg emm eq exx hI hi
    go_wp2_with fail
    clear cd
    refine Free.wp_region_free 12 [(10, .det (.agg (ah q).toArray))] (fun w'=>Below wr.heap.size wr w') (by kernel_rfl) (by kernel_rfl) (Free.mono_det (fun j mk r hf=>by simp only[Free.find]at hf;repeat' (first|cases hf|split at hf))) (Below.refl _ _).drew (fun _ _ h g=>h.trans (Below.mono g h.size)) ?_
    simp only[List.take_succ_cons,List.take_zero]
    iterate 12 (first|(apply Free.chain_still (by first|exact Free.wanted_of rfl rfl rfl|rfl) rfl;(intro w' hB hA;exact Hk.exec_mid 66 (.tmp 60) rfl g (n*5) rfl mm _ (HKW.out w' hB).2.1 Tryz.underlying66 rfl HIM.out);simp only[Pt])|(apply Free.chain_det (by first|exact Free.wanted_of rfl rfl rfl|rfl) rfl;(intro w' hB hA;refine Free.opRun_call (f:=f) (args:= #[.int .i64 (n:Int), .agg mm.toArray]++caps) (by clear hB hA;go_simp<;>first|exact hcf _ _|rfl) ?_;refine(CQ.out w' (HKW.out w' hB).2.2).mono ?_;rintro e w3 ⟨rfl,hb3⟩;exact⟨_,rfl,hb3,rfl⟩);simp only[Pt])|(apply Free.chain_still (by first|exact Free.wanted_of rfl rfl rfl|rfl) rfl;(intro w' hB hA;have y1:=(HKW.out w' hB).1;clear hA hB;go_light;go_simp<;>rfl);(try simp only[Pt])))
    apply Free.chain_nil
    intro w7 hw7 _ _
    simp only[List.drop_succ_cons,List.drop_zero,List.drop_nil]
    have hI7:=HI.out.grow hw7
    have hX7:w7.heap[w6.heap.size]? =W7.heap[w6.heap.size]? :=(hw7.block _ (HXR.out _ hX.out)).trans hX.out
    have HSE:Hid (∀(Q:Exit->Act->World->Prop) (ops:Array Oper) (rest:List Oper) (o:Oper) (a:Act),o.guard=none->o.op= .store 66 (.tmp 63) (.tmp 62)->a.eval (.tmp 63)= .pointer (some ⟨g,n*5,none⟩)->a.eval (.tmp 62)= .agg (ah q).toArray->(∀w9,Hid (MgI c p h s1 W W3 cs ps ss es ts w2.heap.size w4.heap.size bc bp bh (mgL c.con p s.holders l s1.marks (i+1)) w9/\w9.heap[w6.heap.size]? =W7.heap[w6.heap.size]?)->wpList Tryz.prog ops Q rest (a.put o.dst undef) w9)->wpList Tryz.prog ops Q (o::rest) a w7):=h_ (by
     intro Q ops rest o a hgd ho hx hy hK
     have hrow:w7.ownsRow W3.heap.size 66 5 (.slice (some ⟨g,0,none⟩) (mgL c.con p s.holders l s1.marks i).length s1.mc) (mgL c.con p s.holders l s1.marks i).length ((mgL c.con p s.holders l s1.marks i).flatMap ah):=by
      have h2:w7.ownsRow W3.heap.size 66 5 (.slice s1.mA (mgL c.con p s.holders l s1.marks i).length s1.mc) (mgL c.con p s.holders l s1.marks i).length ((mgL c.con p s.holders l s1.marks i).flatMap ah):=hI7.own.m
      rw[EG.out]at h2;exact h2
     refine Sel.wpList_store_elem hgd 66 (.tmp 63) (.tmp 62) ho bI aB hrow n (List.getElem?_eq_some_iff.1 EM.out).1 q hx hy (by kernel_rfl) ?_
     intro w9 o9 g9 z9
     have hgg:=HGL.out
     have hz:=HZ54.out
     have hge:=HGE.out
     have hnx:=mgL_next EXX.out EM.out
     rw[<-EQ.out]at hnx
     have hbw:Below W.heap.size W w9:=hI7.b.below.trans (aj g9 (fun k e=>by injection e with e;omega) hI7.b.below.size)
     have hput:=hI7.put EG.out g9 hgg.1 (by omega) (by omega) (by omega) (by omega) (by omega) (by omega) (HCON.out w9 hbw) o9 (by rw[List.length_set])
     rw[hnx]at hput
     exact hK w9 (h_ ⟨hput,(g9.block _ (Nat.lt_of_lt_of_le (HXR.out _ hX.out) hw7.size) (fun e=>by injection e with e;omega)).trans hX7⟩))
    clear hI7 hX7 hw7 HI
    go_wp2_with (refine ai (.tmp 63) ?_;refine HSE.out _ _ _ _ _ rfl rfl rfl rfl ?_;intro w9 H9;simp only[Pt])
    go_roundw
    case rel=>exact⟨i+1,rfl,hil,H9.out.1,h_ H9.out.2⟩
    case measure=>simp[RowKit.intOf];omega
   ·have hki: ¬(i:Int)<(1:Int):=by have:=HLL.out;omega
    obtain⟨ms,ems⟩:∃ms,ms=mgL c.con p s.holders l s1.marks i:=⟨_,rfl⟩
    rw[<-ems]at hI
    have hnl:s1.marks.length=d.cls.length:=by rw[HX4.out,List.length_append,List.length_replicate];have:=HK.out.marks;have:=HK.out.big;have h2:c.con.cls.length=c.kls.length:=List.length_map _;have:=HNN.out;omega
    have hms:ms=migM c.con p s.sta d.cls.length:=by
     rw[ems];unfold mgL migM
     rw[List.take_of_length_le (by omega),EL.out,HX4.out,HNN.out];rfl
    have HCL:Hid (∀w',Below W3.heap.size wr w'->ConAt w' c'):=h_ fun w' hb=>(HOW3.out.keepAll fun k _ hk=>(hI.below.trans hb).block k hk).at
    have hlo:W3.heap.size<=wr.heap.size:=hI.below.size
    have CS:=start_any c' (s1.withM ms) W3.heap.size wr HCL.out HERR.out hI.own (by show ms.length=_;rw[hI.len,hnl,HNN.out]) (by show s1.holders.length=_;rw[HX2.out,HK.out.hold];have h1:=HK.out.dh;rw[<-HCN.out]at h1;exact h1.symm) hlo
    rw[de hI.len, <-EES.out, <-ETS.out]at CS
    have CS:=h_ CS
    have HME:=h_ hI.e.rg
    have HMT:=h_ hI.t.rg
    have HIE:=h_ (aK es HES7.out)
    have HIT:=h_ (dc ts HTS4.out)
    have HI:=h_ hI
    have HMS:=h_ hms
    clear hI hX ems hms hnl hlo hi hib hil
    go_wp2_with (first
     |(refine ae (.tmp 9) ?_;refine wpList_load_mid rfl 27 (.tmp 9) rfl w2.heap.size 0 rfl es _ HME.out Tryz.underlying27 rfl HIE.out ?_)
     |(refine ae (.tmp 11) ?_;refine wpList_load_mid rfl 56 (.tmp 11) rfl w4.heap.size 0 rfl ts _ HMT.out Tryz.underlying56 rfl HIT.out ?_))
    refine CS.out.mono ?_
    rintro e w8 ⟨rfl,hb8,hkp,ms2,hgr,hno,how⟩
    have hlow:=HZ54.out
    have za:=HI.out.b.za.below hb8 (by omega)
    have zb:=HI.out.b.zb.below hb8 (by omega)
    have he:=HI.out.e.below hb8 (by omega)
    have hne:w4.heap.size≠gOf s1.mA:=by
     rcases HGF.out with e|⟨g,e⟩
     ·rw[e];show w4.heap.size≠0;omega
     ·rw[e];show w4.heap.size≠g;have:=HG4.out g e;omega
    have ht:Row w8 w4.heap.size 56 ts:=HI.out.t.keep (hkp _ HI.out.t.lt hne)
    have hbw:Below W.heap.size W w8:=HI.out.b.below.trans (hb8.mono (by omega))
    have ho8:StaOw W3.heap.size w8 ((s1.withM ms).withM ms2):=how
    have hrs:aE ((s1.withM ms).withM ms2)=ts:=by
     rw[de (show ms2.length=(s1.withM ms).marks.length from hgr.len),de HI.out.len,ETS.out]
    have HMGO:Hid (∀w',StaOw W3.heap.size w' ((s1.withM ms).withM ms2)->MgO c.con p s.sta d W.heap.size w' ((s1.withM ms).withM ms2)):=h_ fun w' ho=>by
     refine⟨HX1.out,HX2.out,HX3.out, ?_, ?_,ho.mono (by omega)⟩
     ·have h1:Grew c'.con.cls s1.holders ms ms2:=hgr
      rw[HCN.out,HX2.out,HMS.out]at h1;exact h1
     ·have h1:=hno
      rw[HCN.out]at h1;exact h1
    have HRS:=h_ hrs
    have HB8:Hid (Row w8 w2.heap.size 27 es/\Row w8 w4.heap.size 56 ts/\StaOw W3.heap.size w8 ((s1.withM ms).withM ms2)/\Below W.heap.size W w8):=h_ ⟨he,ht,ho8,hbw⟩
    have HC8:Hid (Row w8 (W.heap.size+1+1+1) 27 (ak gF)/\Row w8 (W.heap.size+1+1+1+1) 56 zSt):=h_ ⟨za,zb⟩
    have HLW:=h_ hlow
    clear hb8 hkp hgr hno how hlow za zb he hne ht hbw ho8 hrs CS HI
    go_wp2_with fail
    letI:Fre2.Rel:=⟨RelX (W.heap.size+1+1+1) (W.heap.size+1+1+1+1),RelX.refl _ _,fun _ _ _ h g=>h.trans g⟩
    refine Fre6.wp_region_free 5 [(2, .det undef),(3, .det undef)] (fun w=>Row w w2.heap.size 27 es/\Row w w4.heap.size 56 ts/\StaOw W3.heap.size w ((s1.withM ms).withM ms2)/\Below W.heap.size W w)
     (fun dd w=>(dd 2=none->Row w (W.heap.size+1+1+1) 27 (ak gF))/\(dd 2≠none->Row w (W.heap.size+1+1+1) 27 es)/\(dd 3=none->Row w (W.heap.size+1+1+1+1) 56 zSt)/\(dd 3≠none->Row w (W.heap.size+1+1+1+1) 56 ts))
     (by kernel_rfl) (by kernel_rfl) ?_ ?_ ?_ ?_ (fun k x dd w hk hc=> ?_) ?_
    ·intro j mk r hf x w1 w3 _ _
     simp only[Fre6.find]at hf
     repeat' split at hf
     all_goals first|(cases hf;done)|(cases hf;trivial)
    ·have hb:=(Below.refl w8.heap.size w8).drew
     exact⟨HB8.out.1.below hb HB8.out.1.lt,HB8.out.2.1.below hb HB8.out.2.1.lt,HB8.out.2.2.1.below hb,HB8.out.2.2.2.trans (hb.mono HB8.out.2.2.2.size)⟩
    ·rintro w w' ⟨h1,h2,h3,h4⟩ hr
     have hlw:=HLW.out
     refine⟨hr.row h1 (by omega) (by omega),hr.row h2 (by omega) (by omega), ?_,⟨hr.os.trans h4.os,hr.tape.trans h4.tape,hr.output.trans h4.output,Nat.le_trans h4.size hr.size,fun k hk=>(hr.block k (by omega) (by omega) (Nat.lt_of_lt_of_le hk h4.size)).trans (h4.block k hk)⟩⟩
     exact⟨owns_keep h3.h fun g hg=>hr.block g (by have:=owns_lt h3.h hg;omega) (by have:=owns_lt h3.h hg;omega) (owns_lt h3.h hg).2,owns_keep h3.u fun g hg=>hr.block g (by have:=owns_lt h3.u hg;omega) (by have:=owns_lt h3.u hg;omega) (owns_lt h3.u hg).2,owns_keep h3.m fun g hg=>hr.block g (by have:=owns_lt h3.m hg;omega) (by have:=owns_lt h3.m hg;omega) (owns_lt h3.m hg).2⟩
    ·have hb:=(Below.refl w8.heap.size w8).drew
     exact⟨fun _=>HC8.out.1.below hb HC8.out.1.lt,fun n=>absurd rfl n,fun _=>HC8.out.2.below hb HC8.out.2.lt,fun n=>absurd rfl n⟩
    ·simp only[Fre6.find]at hk
     repeat' split at hk
     all_goals first|(cases hk;done)|skip
     rw[show Fre6.upd dd k x 2=dd 2 from updN (by omega),show Fre6.upd dd k x 3=dd 3 from updN (by omega)]
     exact hc
    intro u
    simp only[List.take_succ_cons,List.take_zero]
    iterate 5 (first|(apply Fre6.chain_still (by first|exact Free.wanted_of rfl rfl rfl|rfl) rfl;(intro w' hB hA;exact Hk.exec_mid 27 (.tmp 9) rfl w2.heap.size 0 rfl es _ hB.1.rg Tryz.underlying27 rfl HIE.out);simp only[Pt])|(apply Fre6.chain_still (by first|exact Free.wanted_of rfl rfl rfl|rfl) rfl;(intro w' hB hA;exact Hk.exec_mid 56 (.tmp 11) rfl w4.heap.size 0 rfl ts _ hB.2.1.rg Tryz.underlying56 rfl HIT.out);simp only[Pt])|(apply Fre6.chain_det (by first|exact Free.wanted_of rfl rfl rfl|rfl) rfl;(intro dd w' hu hd hc hB hA;have hrow:=hc.1 hd;refine Fre6.opRun_skip (aY 27 (.tmp 6) (.tmp 68) rfl (W.heap.size+1+1+1) es.toArray rfl rfl 27 (ak gF).toArray hrow (by rw[HIE.out];simp) (by rw[List.size_toArray,List.size_toArray,HES7.out];rfl) (all_oneCell_toArray (by rw[EES.out];exact aX _))) ⟨RelX.setRow (.inl rfl) _,fun z=> ?_,rfl⟩;rw[updE,updN (show 3≠2 by decide)];have ho:∀ {cs:List Value},Row w' (W.heap.size+1+1+1+1) 56 cs->Row (w'.setRow (W.heap.size+1+1+1) es.toArray) (W.heap.size+1+1+1+1) 56 cs:=fun h=>h.keep (setRow_other w' _ _ _ (by omega));exact⟨fun n=>(by cases n),fun _=>setRow_heap _ _ _ es.toArray _ _ hrow,fun n=>ho (hc.2.2.1 n),fun n=>ho (hc.2.2.2 n)⟩);simp only[Pt])|(apply Fre6.chain_det (by first|exact Free.wanted_of rfl rfl rfl|rfl) rfl;(intro dd w' hu hd hc hB hA;have hrow:=hc.2.2.1 hd;refine Fre6.opRun_skip (aY 56 (.tmp 7) (.tmp 69) rfl (W.heap.size+1+1+1+1) ts.toArray rfl rfl 56 zSt.toArray hrow (by rw[HIT.out];simp) (by rw[List.size_toArray,List.size_toArray,HTS4.out];rfl) (all_oneCell_toArray (by rw[ETS.out];exact cB _))) ⟨RelX.setRow (.inr rfl) _,fun z=> ?_,rfl⟩;rw[updE,updN (show 2≠3 by decide)];have ho:∀ {cs:List Value},Row w' (W.heap.size+1+1+1) 27 cs->Row (w'.setRow (W.heap.size+1+1+1+1) ts.toArray) (W.heap.size+1+1+1) 27 cs:=fun h=>h.keep (setRow_other w' _ _ _ (by omega));exact⟨fun n=>ho (hc.1 n),fun n=>ho (hc.2.1 n),fun n=>(by cases n),fun _=>setRow_heap _ _ _ ts.toArray _ _ hrow⟩);simp only[Pt])|(apply Fre6.chain_still (by first|exact Free.wanted_of rfl rfl rfl|rfl) rfl;(intro w' hB hA;clear hA hB;go_light;go_simp<;>rfl);(try simp only[Pt])))
    apply Fre6.chain_nil
    intro w9 hB9 hC9 _ _
    have r6:=hC9.2.1 (by simp)
    have r7:=hC9.2.2.2 (by simp)
    have HFF:=h_ (FIN.out w9 c' ((s1.withM ms).withM ms2) (HMGO.out w9 hB9.2.2.1) hB9.2.2.2)
    rw[HRS.out, <-EES.out]at HFF
    have R6:=h_ r6
    have R7:=h_ r7
    clear hB9 hC9 r6 r7
    simp only[List.drop_succ_cons,List.drop_zero,List.drop_nil]
    go_wp2_with fail
    refine bodyPost_ret (v:= .tuple #[.agg es.toArray, .agg ts.toArray, .int .i64 0]) (cH (fn:=Tryz.f61) (p:=6) (q:=7) (t:=8) (ty:=27) (tz:=56) rfl _ _ (W.heap.size+1+1+1) (W.heap.size+1+1+1+1) 27 56 es.toArray ts.toArray (0,0) (0,0) _ _ rfl R6.out Tryz.underlying27 rfl (by rw[HIE.out];simp) rfl R7.out Tryz.underlying56 rfl (by rw[HIT.out];simp) rfl) rfl ?_
    exact HFF.out
 ·have b1:(p.kind==1)=false:=by simpa using hk
  have hl:l=p.cl:=by rw[EL.out];unfold du;rw[b1];rfl
  have HLL:Hid (l.length=p.cl.length):=h_ (by rw[hl])
  have HLB:Hid (l.length<=400):=h_ (by rw[hl];exact HK.out.len)
  have HSL:Hid (∀w' ms,MgI c p h s1 W W3 cs ps ss es ts w2.heap.size w4.heap.size bc bp bh ms w'->w'.heap[w4.heap.size]? =w6.heap[w4.heap.size]? ->SL w' 1 Cs.encI h.A l):=h_ fun w' ms hm _=>by rw[hl];exact(HPAT.out w' hm.b.below).cl
  have HX0:Hid (w4.heap.size<w6.heap.size):=h_ HGE.out.2.2.2
  clear hl hk c4
  go_wp2_with fail
  clear p0 p1
  have HI0:Hid (MgI c p h s1 W W3 cs ps ss es ts w2.heap.size w4.heap.size bc bp bh (mgL c.con p s.holders l s1.marks 0) w6):=HI6
  go_loopw [48] (fun v wr=> ∃i:Nat,v= .int .i64 (i:Int)/\i<=l.length/\MgI c p h s1 W W3 cs ps ss es ts w2.heap.size w4.heap.size bc bp bh (mgL c.con p s.holders l s1.marks i) wr/\Hid (wr.heap[w4.heap.size]? =w6.heap[w4.heap.size]?)) (fun v _=>l.length- (RowKit.intOf v).toNat)
  case atStart=>exact⟨0,rfl,Nat.zero_le _,HI0.out,h_ rfl⟩
  case round=>
   clear HI0
   obtain⟨i,rfl,hi,hI,hX⟩:=hrel
   have hib:(i:Int)<=4000:=by have:=HLL.out;have:=HLB.out;omega
   rcases Nat.lt_or_eq_of_le hi with hil|hil
   ·have hki:(i:Int)<(p.cl.length:Int):=by have:=HLL.out;omega
    have hi0:(0:Int)<=(i:Int):=by omega
    obtain⟨xx,exx⟩:∃x,l[i]? =some x:=⟨_,List.getElem?_eq_getElem hil⟩
    have hof:=HK.out.off
    rw[<-EL.out]at hof
    have hxr:=offF_nth hof exx
    obtain⟨n,hxn⟩:∃n:Nat,xx=(n:Int):=⟨xx.toNat,by omega⟩
    subst hxn
    have hsl:=HSL.out wr _ hI hX.out
    obtain⟨b,off,eA⟩:=aC hsl (by intro e;rw[e]at hil;simp at hil)
    rw[eA]at hsl⊢
    have cd:=bR hsl exx
    have hlen:(mgL c.con p s.holders l s1.marks i).length=s1.marks.length:=mgL_len _ _ _ _ _ _
    have hml:s1.marks.length=d.cls.length:=by rw[HX4.out,List.length_append,List.length_replicate];have:=HK.out.marks;have:=HK.out.big;have h2:c.con.cls.length=c.kls.length:=List.length_map _;have:=HNN.out;omega
    have hnl:n<s1.marks.length:=by omega
    obtain⟨m,em⟩:∃m,(mgL c.con p s.holders l s1.marks i)[n]? =some m:=⟨_,List.getElem?_eq_getElem (by omega)⟩
    have hleft:0<=m.left/\m.left<=400:=by
     have h0:=em
     rw[mgL_at hof exx,HX4.out]at h0
     exact HK.out.left n m (by rw[HNN.out];exact h0)
    have hkd:=HK.out.kind n (by rw[<-EL.out];exact List.mem_of_getElem? exx)
    obtain⟨g,eg⟩:∃g,s1.mA=some ⟨g,0,none⟩:=by
     rcases HGF.out with e|e
     ·have hm:=hI.own.m
      rcases hm.2 with⟨_,e2⟩|⟨g,cap,cur,e2,_⟩
      ·have e2:(mgL c.con p s.holders l s1.marks i).length=0:=e2
       omega
      ·injection e2 with e2 _;exact⟨g,e2⟩
     ·exact e
    obtain⟨mm,emm⟩:∃mm,mm=ah m:=⟨_,rfl⟩
    have HKW:Hid (∀w',Below wr.heap.size wr w'->w'.cell? ⟨w4.heap.size,3,none⟩=some (.slice (some ⟨g,0,none⟩) s1.marks.length s1.mc)/\w'.rangeAt g (n*5) mm/\ChB c p h s1.hA s1.hc s1.holders bc bp bh w'):=h_ fun w' hb=>by
     have h1:=hI.grow hb
     have t3:=h1.t.at (show ts[3]? =some (.slice s1.mA s1.marks.length s1.mc) by rw[ETS.out];rfl)
     rw[eg]at t3
     have hs:SL w' 5 ah s1.mA (mgL c.con p s.holders l s1.marks i):=h1.own.at_.m
     rw[eg]at hs
     have hr:=az hs em
     rw[Nat.zero_add]at hr
     exact⟨t3,by rw[emm];exact hr,h1.ch⟩
    obtain⟨q,eq⟩:∃q,q=chgM c.con.cls p s.holders (n:Int) m:=⟨_,rfl⟩
    have CQ:Hid (∀w',ChB c p h s1.hA s1.hc s1.holders bc bp bh w'->Calls Tryz.prog f (#[.int .i64 (n:Int), .agg mm.toArray]++caps) w' fun e w''=>e= .returned (.agg (ah q).toArray)/\Below w'.heap.size w' w''):=h_ fun w' hch=>by
     have h1:=HF.out.run w' hch n m hkd hleft.1 hleft.2
     rw[emm,eq, <-HX2.out];exact h1
    have hcf:=HF.out.enter
    have hnm:(n:Int)<(s1.marks.length:Int):=by omega
    have hn0:(0:Int)<=(n:Int):=by omega
    have HIM:=h_ (bV mm (by rw[emm];rfl))
    have HI:=h_ hI
    have EG:=h_ eg
    have EM:=h_ em
    have EQ:=h_ eq
    have EXX:=h_ exx
    have HGL:=h_ (HG4.out g eg)
    clear hof hxr hsl eA hlen hml hnl em hleft hkd eg emm eq exx hI hi
    go_wp2_with fail
    clear cd
    refine Free.wp_region_free 12 [(10, .det (.agg (ah q).toArray))] (fun w'=>Below wr.heap.size wr w') (by kernel_rfl) (by kernel_rfl) (Free.mono_det (fun j mk r hf=>by simp only[Free.find]at hf;repeat' (first|cases hf|split at hf))) (Below.refl _ _).drew (fun _ _ h g=>h.trans (Below.mono g h.size)) ?_
    simp only[List.take_succ_cons,List.take_zero]
    iterate 12 (first|(apply Free.chain_still (by first|exact Free.wanted_of rfl rfl rfl|rfl) rfl;(intro w' hB hA;exact Hk.exec_mid 66 (.tmp 60) rfl g (n*5) rfl mm _ (HKW.out w' hB).2.1 Tryz.underlying66 rfl HIM.out);simp only[Pt])|(apply Free.chain_det (by first|exact Free.wanted_of rfl rfl rfl|rfl) rfl;(intro w' hB hA;refine Free.opRun_call (f:=f) (args:= #[.int .i64 (n:Int), .agg mm.toArray]++caps) (by clear hB hA;go_simp<;>first|exact hcf _ _|rfl) ?_;refine(CQ.out w' (HKW.out w' hB).2.2).mono ?_;rintro e w3 ⟨rfl,hb3⟩;exact⟨_,rfl,hb3,rfl⟩);simp only[Pt])|(apply Free.chain_still (by first|exact Free.wanted_of rfl rfl rfl|rfl) rfl;(intro w' hB hA;have y1:=(HKW.out w' hB).1;clear hA hB;go_light;go_simp<;>rfl);(try simp only[Pt])))
    apply Free.chain_nil
    intro w7 hw7 _ _
    simp only[List.drop_succ_cons,List.drop_zero,List.drop_nil]
    have hI7:=HI.out.grow hw7
    have hX7:w7.heap[w4.heap.size]? =w6.heap[w4.heap.size]? :=(hw7.block _ HI.out.t.lt).trans hX.out
    have HSE:Hid (∀(Q:Exit->Act->World->Prop) (ops:Array Oper) (rest:List Oper) (o:Oper) (a:Act),o.guard=none->o.op= .store 66 (.tmp 63) (.tmp 62)->a.eval (.tmp 63)= .pointer (some ⟨g,n*5,none⟩)->a.eval (.tmp 62)= .agg (ah q).toArray->(∀w9,Hid (MgI c p h s1 W W3 cs ps ss es ts w2.heap.size w4.heap.size bc bp bh (mgL c.con p s.holders l s1.marks (i+1)) w9/\w9.heap[w4.heap.size]? =w6.heap[w4.heap.size]?)->wpList Tryz.prog ops Q rest (a.put o.dst undef) w9)->wpList Tryz.prog ops Q (o::rest) a w7):=h_ (by
     intro Q ops rest o a hgd ho hx hy hK
     have hrow:w7.ownsRow W3.heap.size 66 5 (.slice (some ⟨g,0,none⟩) (mgL c.con p s.holders l s1.marks i).length s1.mc) (mgL c.con p s.holders l s1.marks i).length ((mgL c.con p s.holders l s1.marks i).flatMap ah):=by
      have h2:w7.ownsRow W3.heap.size 66 5 (.slice s1.mA (mgL c.con p s.holders l s1.marks i).length s1.mc) (mgL c.con p s.holders l s1.marks i).length ((mgL c.con p s.holders l s1.marks i).flatMap ah):=hI7.own.m
      rw[EG.out]at h2;exact h2
     refine Sel.wpList_store_elem hgd 66 (.tmp 63) (.tmp 62) ho bI aB hrow n (List.getElem?_eq_some_iff.1 EM.out).1 q hx hy (by kernel_rfl) ?_
     intro w9 o9 g9 z9
     have hgg:=HGL.out
     have hz:=HZ54.out
     have hge:=HGE.out
     have hnx:=mgL_next EXX.out EM.out
     rw[<-EQ.out]at hnx
     have hbw:Below W.heap.size W w9:=hI7.b.below.trans (aj g9 (fun k e=>by injection e with e;omega) hI7.b.below.size)
     have hput:=hI7.put EG.out g9 hgg.1 (by omega) (by omega) (by omega) (by omega) (by omega) (by omega) (HCON.out w9 hbw) o9 (by rw[List.length_set])
     rw[hnx]at hput
     exact hK w9 (h_ ⟨hput,(g9.block _ (Nat.lt_of_lt_of_le HI.out.t.lt hw7.size) (fun e=>by injection e with e;omega)).trans hX7⟩))
    clear hI7 hX7 hw7 HI
    go_wp2_with (refine ai (.tmp 63) ?_;refine HSE.out _ _ _ _ _ rfl rfl rfl rfl ?_;intro w9 H9;simp only[Pt])
    go_roundw
    case rel=>exact⟨i+1,rfl,hil,H9.out.1,h_ H9.out.2⟩
    case measure=>simp[RowKit.intOf];omega
   ·have hki: ¬(i:Int)<(p.cl.length:Int):=by have:=HLL.out;omega
    obtain⟨ms,ems⟩:∃ms,ms=mgL c.con p s.holders l s1.marks i:=⟨_,rfl⟩
    rw[<-ems]at hI
    have hnl:s1.marks.length=d.cls.length:=by rw[HX4.out,List.length_append,List.length_replicate];have:=HK.out.marks;have:=HK.out.big;have h2:c.con.cls.length=c.kls.length:=List.length_map _;have:=HNN.out;omega
    have hms:ms=migM c.con p s.sta d.cls.length:=by
     rw[ems];unfold mgL migM
     rw[List.take_of_length_le (by omega),EL.out,HX4.out,HNN.out];rfl
    have HCL:Hid (∀w',Below W3.heap.size wr w'->ConAt w' c'):=h_ fun w' hb=>(HOW3.out.keepAll fun k _ hk=>(hI.below.trans hb).block k hk).at
    have hlo:W3.heap.size<=wr.heap.size:=hI.below.size
    have CS:=start_any c' (s1.withM ms) W3.heap.size wr HCL.out HERR.out hI.own (by show ms.length=_;rw[hI.len,hnl,HNN.out]) (by show s1.holders.length=_;rw[HX2.out,HK.out.hold];have h1:=HK.out.dh;rw[<-HCN.out]at h1;exact h1.symm) hlo
    rw[de hI.len, <-EES.out, <-ETS.out]at CS
    have CS:=h_ CS
    have HME:=h_ hI.e.rg
    have HMT:=h_ hI.t.rg
    have HIE:=h_ (aK es HES7.out)
    have HIT:=h_ (dc ts HTS4.out)
    have HI:=h_ hI
    have HMS:=h_ hms
    clear hI hX ems hms hnl hlo hi hib hil
    go_wp2_with (first
     |(refine ae (.tmp 9) ?_;refine wpList_load_mid rfl 27 (.tmp 9) rfl w2.heap.size 0 rfl es _ HME.out Tryz.underlying27 rfl HIE.out ?_)
     |(refine ae (.tmp 11) ?_;refine wpList_load_mid rfl 56 (.tmp 11) rfl w4.heap.size 0 rfl ts _ HMT.out Tryz.underlying56 rfl HIT.out ?_))
    refine CS.out.mono ?_
    rintro e w8 ⟨rfl,hb8,hkp,ms2,hgr,hno,how⟩
    have hlow:=HZ54.out
    have za:=HI.out.b.za.below hb8 (by omega)
    have zb:=HI.out.b.zb.below hb8 (by omega)
    have he:=HI.out.e.below hb8 (by omega)
    have hne:w4.heap.size≠gOf s1.mA:=by
     rcases HGF.out with e|⟨g,e⟩
     ·rw[e];show w4.heap.size≠0;omega
     ·rw[e];show w4.heap.size≠g;have:=HG4.out g e;omega
    have ht:Row w8 w4.heap.size 56 ts:=HI.out.t.keep (hkp _ HI.out.t.lt hne)
    have hbw:Below W.heap.size W w8:=HI.out.b.below.trans (hb8.mono (by omega))
    have ho8:StaOw W3.heap.size w8 ((s1.withM ms).withM ms2):=how
    have hrs:aE ((s1.withM ms).withM ms2)=ts:=by
     rw[de (show ms2.length=(s1.withM ms).marks.length from hgr.len),de HI.out.len,ETS.out]
    have HMGO:Hid (∀w',StaOw W3.heap.size w' ((s1.withM ms).withM ms2)->MgO c.con p s.sta d W.heap.size w' ((s1.withM ms).withM ms2)):=h_ fun w' ho=>by
     refine⟨HX1.out,HX2.out,HX3.out, ?_, ?_,ho.mono (by omega)⟩
     ·have h1:Grew c'.con.cls s1.holders ms ms2:=hgr
      rw[HCN.out,HX2.out,HMS.out]at h1;exact h1
     ·have h1:=hno
      rw[HCN.out]at h1;exact h1
    have HRS:=h_ hrs
    have HB8:Hid (Row w8 w2.heap.size 27 es/\Row w8 w4.heap.size 56 ts/\StaOw W3.heap.size w8 ((s1.withM ms).withM ms2)/\Below W.heap.size W w8):=h_ ⟨he,ht,ho8,hbw⟩
    have HC8:Hid (Row w8 (W.heap.size+1+1+1) 27 (ak gF)/\Row w8 (W.heap.size+1+1+1+1) 56 zSt):=h_ ⟨za,zb⟩
    have HLW:=h_ hlow
    clear hb8 hkp hgr hno how hlow za zb he hne ht hbw ho8 hrs CS HI
    go_wp2_with fail
    letI:Fre2.Rel:=⟨RelX (W.heap.size+1+1+1) (W.heap.size+1+1+1+1),RelX.refl _ _,fun _ _ _ h g=>h.trans g⟩
    refine Fre6.wp_region_free 5 [(2, .det undef),(3, .det undef)] (fun w=>Row w w2.heap.size 27 es/\Row w w4.heap.size 56 ts/\StaOw W3.heap.size w ((s1.withM ms).withM ms2)/\Below W.heap.size W w)
     (fun dd w=>(dd 2=none->Row w (W.heap.size+1+1+1) 27 (ak gF))/\(dd 2≠none->Row w (W.heap.size+1+1+1) 27 es)/\(dd 3=none->Row w (W.heap.size+1+1+1+1) 56 zSt)/\(dd 3≠none->Row w (W.heap.size+1+1+1+1) 56 ts))
     (by kernel_rfl) (by kernel_rfl) ?_ ?_ ?_ ?_ (fun k x dd w hk hc=> ?_) ?_
    ·intro j mk r hf x w1 w3 _ _
     simp only[Fre6.find]at hf
     repeat' split at hf
     all_goals first|(cases hf;done)|(cases hf;trivial)
    ·have hb:=(Below.refl w8.heap.size w8).drew
     exact⟨HB8.out.1.below hb HB8.out.1.lt,HB8.out.2.1.below hb HB8.out.2.1.lt,HB8.out.2.2.1.below hb,HB8.out.2.2.2.trans (hb.mono HB8.out.2.2.2.size)⟩
    ·rintro w w' ⟨h1,h2,h3,h4⟩ hr
     have hlw:=HLW.out
     refine⟨hr.row h1 (by omega) (by omega),hr.row h2 (by omega) (by omega), ?_,⟨hr.os.trans h4.os,hr.tape.trans h4.tape,hr.output.trans h4.output,Nat.le_trans h4.size hr.size,fun k hk=>(hr.block k (by omega) (by omega) (Nat.lt_of_lt_of_le hk h4.size)).trans (h4.block k hk)⟩⟩
     exact⟨owns_keep h3.h fun g hg=>hr.block g (by have:=owns_lt h3.h hg;omega) (by have:=owns_lt h3.h hg;omega) (owns_lt h3.h hg).2,owns_keep h3.u fun g hg=>hr.block g (by have:=owns_lt h3.u hg;omega) (by have:=owns_lt h3.u hg;omega) (owns_lt h3.u hg).2,owns_keep h3.m fun g hg=>hr.block g (by have:=owns_lt h3.m hg;omega) (by have:=owns_lt h3.m hg;omega) (owns_lt h3.m hg).2⟩
    ·have hb:=(Below.refl w8.heap.size w8).drew
     exact⟨fun _=>HC8.out.1.below hb HC8.out.1.lt,fun n=>absurd rfl n,fun _=>HC8.out.2.below hb HC8.out.2.lt,fun n=>absurd rfl n⟩
    ·simp only[Fre6.find]at hk
     repeat' split at hk
     all_goals first|(cases hk;done)|skip
     rw[show Fre6.upd dd k x 2=dd 2 from updN (by omega),show Fre6.upd dd k x 3=dd 3 from updN (by omega)]
     exact hc
    intro u
    simp only[List.take_succ_cons,List.take_zero]
    iterate 5 (first|(apply Fre6.chain_still (by first|exact Free.wanted_of rfl rfl rfl|rfl) rfl;(intro w' hB hA;exact Hk.exec_mid 27 (.tmp 9) rfl w2.heap.size 0 rfl es _ hB.1.rg Tryz.underlying27 rfl HIE.out);simp only[Pt])|(apply Fre6.chain_still (by first|exact Free.wanted_of rfl rfl rfl|rfl) rfl;(intro w' hB hA;exact Hk.exec_mid 56 (.tmp 11) rfl w4.heap.size 0 rfl ts _ hB.2.1.rg Tryz.underlying56 rfl HIT.out);simp only[Pt])|(apply Fre6.chain_det (by first|exact Free.wanted_of rfl rfl rfl|rfl) rfl;(intro dd w' hu hd hc hB hA;have hrow:=hc.1 hd;refine Fre6.opRun_skip (aY 27 (.tmp 6) (.tmp 68) rfl (W.heap.size+1+1+1) es.toArray rfl rfl 27 (ak gF).toArray hrow (by rw[HIE.out];simp) (by rw[List.size_toArray,List.size_toArray,HES7.out];rfl) (all_oneCell_toArray (by rw[EES.out];exact aX _))) ⟨RelX.setRow (.inl rfl) _,fun z=> ?_,rfl⟩;rw[updE,updN (show 3≠2 by decide)];have ho:∀ {cs:List Value},Row w' (W.heap.size+1+1+1+1) 56 cs->Row (w'.setRow (W.heap.size+1+1+1) es.toArray) (W.heap.size+1+1+1+1) 56 cs:=fun h=>h.keep (setRow_other w' _ _ _ (by omega));exact⟨fun n=>(by cases n),fun _=>setRow_heap _ _ _ es.toArray _ _ hrow,fun n=>ho (hc.2.2.1 n),fun n=>ho (hc.2.2.2 n)⟩);simp only[Pt])|(apply Fre6.chain_det (by first|exact Free.wanted_of rfl rfl rfl|rfl) rfl;(intro dd w' hu hd hc hB hA;have hrow:=hc.2.2.1 hd;refine Fre6.opRun_skip (aY 56 (.tmp 7) (.tmp 69) rfl (W.heap.size+1+1+1+1) ts.toArray rfl rfl 56 zSt.toArray hrow (by rw[HIT.out];simp) (by rw[List.size_toArray,List.size_toArray,HTS4.out];rfl) (all_oneCell_toArray (by rw[ETS.out];exact cB _))) ⟨RelX.setRow (.inr rfl) _,fun z=> ?_,rfl⟩;rw[updE,updN (show 2≠3 by decide)];have ho:∀ {cs:List Value},Row w' (W.heap.size+1+1+1) 27 cs->Row (w'.setRow (W.heap.size+1+1+1+1) ts.toArray) (W.heap.size+1+1+1) 27 cs:=fun h=>h.keep (setRow_other w' _ _ _ (by omega));exact⟨fun n=>ho (hc.1 n),fun n=>ho (hc.2.1 n),fun n=>(by cases n),fun _=>setRow_heap _ _ _ ts.toArray _ _ hrow⟩);simp only[Pt])|(apply Fre6.chain_still (by first|exact Free.wanted_of rfl rfl rfl|rfl) rfl;(intro w' hB hA;clear hA hB;go_light;go_simp<;>rfl);(try simp only[Pt])))
    apply Fre6.chain_nil
    intro w9 hB9 hC9 _ _
    have r6:=hC9.2.1 (by simp)
    have r7:=hC9.2.2.2 (by simp)
    have HFF:=h_ (FIN.out w9 c' ((s1.withM ms).withM ms2) (HMGO.out w9 hB9.2.2.1) hB9.2.2.2)
    rw[HRS.out, <-EES.out]at HFF
    have R6:=h_ r6
    have R7:=h_ r7
    clear hB9 hC9 r6 r7
    simp only[List.drop_succ_cons,List.drop_zero,List.drop_nil]
    go_wp2_with fail
    refine bodyPost_ret (v:= .tuple #[.agg es.toArray, .agg ts.toArray, .int .i64 0]) (cH (fn:=Tryz.f61) (p:=6) (q:=7) (t:=8) (ty:=27) (tz:=56) rfl _ _ (W.heap.size+1+1+1) (W.heap.size+1+1+1+1) 27 56 es.toArray ts.toArray (0,0) (0,0) _ _ rfl R6.out Tryz.underlying27 rfl (by rw[HIE.out];simp) rfl R7.out Tryz.underlying56 rfl (by rw[HIT.out];simp) rfl) rfl ?_
    exact HFF.out
end Go.Proofs.YtekfoaenomgjgaaGreatDoor
