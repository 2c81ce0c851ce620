/- Package quantity: whether a table of units is valid. No condition. -/
import Derived.Test.YtekfoaenomgjgaaGreatDoorCvA
set_option maxRecDepth 100000
set_option linter.all false
namespace Go.Cv
structure Un where
 name:ByteArray
 kind:Int
 base:Int
 num:Int
 den:Int
def cL(u:Un):List Value:= [.string u.name, .int .i64 u.kind, .int .i64 u.base, .int .i64 u.num, .int .i64 u.den]
theorem encUn_len(u:Un):(cL u).length=5:=rfl
theorem gT(u:Un):∀v∈cL u,v.oneCell'=true:=fun v hv=>by
 simp only[cL,List.mem_cons,List.not_mem_nil,or_false]at hv
 rcases hv with rfl|rfl|rfl|rfl|rfl<;>rfl
def unB(us:List Un)(u:Un):Bool:=decide (0<=u.base)&&(match us[u.base.toNat]? with|some v=>decide (v.kind=u.kind)&&decide (v.base=u.base)|none=>false)
def dt(us:List Un)(i:Nat)(u:Un):Bool:=
 decide (i<20)&&(!decide (u.name=ByteArray.empty)&&((us.take i).all (fun o=> !decide (o.name=u.name))&&((decide (u.kind=1)||decide (u.kind=2))&&(ratV u.num u.den&&(decide (0<u.num)&&(unB us u&&(!decide (u.base=(i:Int))||(decide (u.num=1)&&decide (u.den=1)))))))))
def unitsV(us:List Un):Bool:=(List.range us.length).all fun i=>match us[i]? with|some u=>dt us i u|none=>true
end Go.Cv
namespace Go.Proofs.YtekfoaenomgjgaaGreatDoor
open Go.RowKit Go.W32 Go.Blk Go.Cs Go.Lib Go.Opn Go.Mg Go.Cv

theorem unwanted2{o:Oper}{ops:Array Oper}{a:Act}{j t:Nat}{b b':Bool}(hg:o.guard=some (j,b'))(hj:(ops[j]?).bind (·.dst)=some t)(ht:a.tmps[t]? =some (.bool b))(hne:(b==b')=false):Region.wanted o (yielded ops a.tmps)=false:=by
 unfold Region.wanted yielded
 rw[hg]
 simp only[hj,Option.bind_some,ht]
 simpa using hne
theorem aJ{o:Oper}{ops:Array Oper}{a:Act}{j t:Nat}{b':Bool}(hg:o.guard=some (j,b'))(hj:(ops[j]?).bind (·.dst)=some t)(ht:a.tmps[t]? =some undef):Region.wanted o (yielded ops a.tmps)=false:=by
 unfold Region.wanted yielded
 rw[hg]
 simp only[hj,Option.bind_some,ht]
 rfl
theorem eQ{P:Program}{ops:Array Oper}{rest:List Oper}{a:Act}{Q:Exit->Act->World->Prop}(t:TypeId){x y:Operand}{d:Option Tmp}{ty:TypeId}{ps:String}{af:Array Edge}{g:Option (Nat×Bool)}{w:World}
  (h:wpList P ops Q (⟨d, .binOp .eql t x y t,ty,ps,af,g⟩::rest) a w):wpList P ops Q (⟨d, .binOp .eql t x y t,ty,ps,af,g⟩::rest) a w:=h
theorem exec_rat1{ρ:Operand->Value}{op:Oper}{w:World}{x y:Operand}{n d:Int}(ho:op.op= .binOp .eql 43 x y 43)(hx:ρ x= .agg [.int .i64 n, .int .i64 d].toArray)(hy:ρ y= .agg #[.int .i64 1, .int .i64 1]):
  (execOp ρ op).run Tryz.prog w= .ok (.value (.bool (decide (n=1)&&decide (d=1)))) w:=by
 unfold execOp
 simp only[ho,hx,hy]
 by_cases h1:n=1<;>by_cases h2:d=1<;>(go_simp<;>simp[h1,h2])
theorem ix_any(A:Option Addr)(n c:Nat)(i:Int)(W:World):Calls Tryz.prog 184 #[.slice A n c, .int .i64 i] W fun e w'=>e= .returned (.bool (decide (0<=i)&&decide (i<(n:Int))))/\W=w':=by
 by_cases h:0<=i
 ·have hb:decide (0<=i)=true:=decide_eq_true h
  go_enter Tryz.func184,Tryz.ntmps184
  go_wp2_with fail
  go_ret
  exact⟨by rw[hb];rfl,rfl⟩
 ·have hb:decide (0<=i)=false:=decide_eq_false h
  go_enter Tryz.func184,Tryz.ntmps184
  go_wp2_with fail
  go_ret
  first
   |exact⟨rfl,rfl⟩
   |exact⟨by rw[hb];rfl,rfl⟩
theorem ix_below(A:Option Addr)(n c:Nat)(i:Int)(W:World):Calls Tryz.prog 184 #[.slice A n c, .int .i64 i] W fun e w'=>e= .returned (.bool (decide (0<=i)&&decide (i<(n:Int))))/\Below W.heap.size W w':=
 (ix_any A n c i W).mono fun _ _ ⟨h1,h2⟩=>⟨h1,by subst h2;exact Below.refl _ _⟩
theorem info_un(cs:List Value)(h:cs.length=5):(Tryz.prog.info? 96).map (·.size)=some cs.length:=by rw[h];kernel_rfl
theorem gQ(cs:List Value)(h:cs.length=2):(Tryz.prog.info? 43).map (·.size)=some cs.length:=by rw[h];kernel_rfl
theorem store_un{cs:List Value}(hcl:cs.length=5)(hc1:∀v∈cs,v.oneCell'=true)(s t:Nat)(W0 W1:World)(b:Nat)(hb:b=W0.heap.size)(e1:W1=W0.alloc (.cells cs.toArray 96))(Q:Exit->Act->World->Prop)(ops:Array Oper)(rest:List Oper)(o:Oper)(a:Act)(hgd:o.guard=none)(ho:o.op= .store 96 (.tmp s) (.tmp t))(hx:a.eval (.tmp s)= .pointer (some ⟨b,0,none⟩))(hy:a.eval (.tmp t)= .agg cs.toArray)(old:Array Value)(hold:old.size=5)(hk:wpList Tryz.prog ops Q rest (a.put o.dst undef) W1):wpList Tryz.prog ops Q (o::rest) a (W0.alloc (.cells old 96)):=by
 rw[e1]at hk
 exact Hk.wpList_store_fresh hgd 96 (.tmp s) (.tmp t) ho b _ hx hy old 96 hb (by rw[info_un cs hcl];simp) (by rw[hold];simp[hcl]) (all_oneCell_toArray hc1) hk
structure UnC (w:World) (b:Nat) (u:Un):Prop where
 q0:w.cell? ⟨b,0,none⟩=some (.string u.name)
 q1:w.cell? ⟨b,1,none⟩=some (.int .i64 u.kind)
 q2:w.cell? ⟨b,2,none⟩=some (.int .i64 u.base)
 q3:w.cell? ⟨b,3,none⟩=some (.int .i64 u.num)
 q4:w.cell? ⟨b,4,none⟩=some (.int .i64 u.den)
theorem UnC.of{w:World}{b:Nat}{T:TypeId}{u:Un}(h:Row w b T (cL u)):UnC w b u:=⟨h.at rfl,h.at rfl,h.at rfl,h.at rfl,h.at rfl⟩
def UnR(W1:World)(us:List Un)(u:Un)(n:Nat)(v:Value)(wr:World):Prop:=∃k:Nat,v= .int .i64 (k:Int)/\k<=n/\(us.take k).all (fun o=> !decide (o.name=u.name))=true/\Below W1.heap.size W1 wr
theorem beq_ba(X Y:ByteArray):(X.toList==Y.toList)=decide (X=Y):=by
 rw[Bool.eq_iff_iff]
 simp only[beq_iff_eq,decide_eq_true_eq,ByteArray.toList_eq]
 exact⟨fun h=>ba_ext h,fun h=>by rw[h]⟩
set_option maxHeartbeats 4000000 in
theorem tv_any(A:Option Addr)(c:Nat)(us:List Un)(i:Nat)(u:Un)(W:World)(hu:us[i]? =some u)(hl:SL W 5 cL A us)(hc:us.length<=c)(hn:us.length<=1000):
  Calls Tryz.prog 161 #[.slice A us.length c, .int .i64 (i:Int)] W fun e w'=>e= .returned (.bool (dt us i u))/\Below W.heap.size W w':=by
 obtain⟨R,eR⟩:∃R:Ending->World->Prop,R=fun e w'=>e= .returned (.bool (dt us i u))/\Below W.heap.size W w':=⟨_,rfl⟩
 rw[<-eR]
 have FIN:Hid (∀w' v,v=dt us i u->Below W.heap.size W w'->R (.returned (.bool v)) w'):=h_ fun w' v h hb=>by rw[eR,h];exact⟨rfl,hb⟩
 clear eR
 have hil:i<us.length:=(List.getElem?_eq_some_iff.1 hu).1
 have hii:(i:Int)<(us.length:Int):=by omega
 obtain⟨b,off,rfl⟩:=aC hl (by rintro rfl;simp at hil)
 obtain⟨cs,ecs⟩:∃cs,cs=cL u:=⟨_,rfl⟩
 have hcl:cs.length=5:=by rw[ecs];rfl
 have HM:Hid (W.rangeAt b (off+i*5) cs):=h_ (by rw[ecs];exact az hl hu)
 have HI:=h_ (info_un cs hcl)
 obtain⟨W1,e1⟩:∃W1,W1=W.alloc (.cells cs.toArray 96):=⟨_,rfl⟩
 have hr1:Row W1 W.heap.size 96 cs:=by rw[e1];exact Row.new _ _ _
 have hb1:Below W.heap.size W W1:=by rw[e1];exact(Below.refl _ _).alloc (Nat.le_refl _) _
 have HST:=h_ (store_un hcl (by rw[ecs];exact gT u) 5 11 W W1 _ rfl e1)
 have HQ:Hid (∀w',Below W1.heap.size W1 w'->UnC w' W.heap.size u):=h_ fun w' hb=>UnC.of (T:=96) (by rw[<-ecs];exact hr1.below hb hr1.lt)
 have HL:Hid (∀w',Below W1.heap.size W1 w'->SL w' 5 cL (some ⟨b,off,none⟩) us):=h_ fun w' hb=>hl.below (hb1.trans (hb.mono hb1.size)) (Nat.le_refl _)
 have HB1:=h_ hb1
 have HU:=h_ hu
 obtain⟨q0,q1,q2,q3,q4⟩:=HQ.out W1 (Below.refl _ _)
 have hic:(i:Int)<=(c:Int):=by omega
 have hi0:(0:Int)<=(i:Int):=by omega
 clear e1 hr1 hb1 hl hu hcl ecs
 by_cases h20:i<20
 rotate_left
 ·have h20i: ¬(i:Int)<20:=by omega
  have h20b:decide ((20:Int)<=(i:Int))=true:=decide_eq_true (by omega)
  have HF:=h_ (FIN.out W1 false (by unfold dt;rw[decide_eq_false h20];rfl) HB1.out)
  clear FIN q1 q2 q3 q4
  go_enter Tryz.func161,Tryz.ntmps161
  go_wp2_with (first
   |(refine ae (.tmp 10) ?_;refine wpList_load_mid rfl 96 (.tmp 10) rfl b (off+i*5) rfl cs _ HM.out Tryz.underlying96 rfl HI.out ?_)
   |(refine ai (.tmp 5) ?_;refine HST.out _ _ _ _ _ rfl rfl rfl rfl _ (by simp) ?_;simp only[Pt]))
  exact HF.out
 have h20b:decide ((20:Int)<=(i:Int))=false:=decide_eq_false (by omega)
 have h20i:(i:Int)<20:=by omega
 have V1:Hid (dt us i u=(!decide (u.name=ByteArray.empty)&&((us.take i).all (fun o=> !decide (o.name=u.name))&&((decide (u.kind=1)||decide (u.kind=2))&&(ratV u.num u.den&&(decide (0<u.num)&&(unB us u&&(!decide (u.base=(i:Int))||(decide (u.num=1)&&decide (u.den=1)))))))))):=h_ (by unfold dt;rw[decide_eq_true h20];rfl)
 by_cases hE:u.name=ByteArray.empty
 ·have hE0:u.name.toList= []:=List.isEmpty_iff.1 ((fO u.name).trans (decide_eq_true hE))
  have HF:=h_ (FIN.out W1 false (by rw[V1.out,decide_eq_true hE];rfl) HB1.out)
  clear FIN hE V1
  go_enter Tryz.func161,Tryz.ntmps161
  go_wp2_with (first
   |(refine ae (.tmp 10) ?_;refine wpList_load_mid rfl 96 (.tmp 10) rfl b (off+i*5) rfl cs _ HM.out Tryz.underlying96 rfl HI.out ?_)
   |(refine ai (.tmp 5) ?_;refine HST.out _ _ _ _ _ rfl rfl rfl rfl _ (by simp) ?_;simp only[Pt]))
  exact HF.out
 have hE1:u.name.toList.isEmpty=false:=(fO u.name).trans (decide_eq_false hE)
 have hE0:u.name.toList≠ []:=fun h=>by rw[h]at hE1;cases hE1
 have V2:Hid (dt us i u=((us.take i).all (fun o=> !decide (o.name=u.name))&&((decide (u.kind=1)||decide (u.kind=2))&&(ratV u.num u.den&&(decide (0<u.num)&&(unB us u&&(!decide (u.base=(i:Int))||(decide (u.num=1)&&decide (u.den=1))))))))):=h_ (by rw[V1.out,decide_eq_false hE];rfl)
 have HS0:Hid (UnR W1 us u i (.int .i64 0) W1):=h_ ⟨0,rfl,Nat.zero_le _,rfl,Below.refl _ _⟩
 have HIL:=h_ hil
 clear hE V1 hil
 go_enter Tryz.func161,Tryz.ntmps161
 go_wp2_with (first
  |(refine ae (.tmp 10) ?_;refine wpList_load_mid rfl 96 (.tmp 10) rfl b (off+i*5) rfl cs _ HM.out Tryz.underlying96 rfl HI.out ?_)
  |(refine ai (.tmp 5) ?_;refine HST.out _ _ _ _ _ rfl rfl rfl rfl _ (by simp) ?_;simp only[Pt]))
 go_loopw [23] (fun v wr=>UnR W1 us u i v wr) (fun v _=>(i:Int).toNat- (RowKit.intOf v).toNat)
 case atStart=>exact HS0.out
 case round=>
  clear HS0
  obtain⟨k,rfl,hk,hal,hbw⟩:=hrel
  have hkb:(k:Int)<=1000:=by have:=HIL.out;omega
  rcases Nat.lt_or_eq_of_le hk with hkl|hkl
  ·have hki:(k:Int)<(i:Int):=by omega
   obtain⟨o,eo⟩:∃x,us[k]? =some x:=⟨_,List.getElem?_eq_getElem (by have:=HIL.out;omega)⟩
   obtain⟨ds,eds⟩:∃ds,ds=cL o:=⟨_,rfl⟩
   have hdl:ds.length=5:=by rw[eds];rfl
   have HMk:Hid (wr.rangeAt b (off+k*5) ds):=h_ (by rw[eds];exact az (HL.out wr hbw) eo)
   have HIk:=h_ (info_un ds hdl)
   obtain⟨Wk,ek⟩:∃Wk,Wk=wr.alloc (.cells ds.toArray 96):=⟨_,rfl⟩
   have hrk:Row Wk wr.heap.size 96 ds:=by rw[ek];exact Row.new _ _ _
   have hbk:Below wr.heap.size wr Wk:=by rw[ek];exact(Below.refl _ _).alloc (Nat.le_refl _) _
   have HSk:=h_ (store_un hdl (by rw[eds];exact gT o) 7 26 wr Wk _ rfl ek)
   have hbwk:=hbw.trans (hbk.mono hbw.size)
   obtain⟨p0,p1,p2,p3,p4⟩:=HQ.out Wk hbwk
   obtain⟨o0,o1,o2,o3,o4⟩:=UnC.of (T:=96) (by rw[<-eds];exact hrk)
   have HBk:=h_ hbwk
   have HAL:=h_ hal
   have EO:=h_ eo
   clear eds hdl ek hrk hbk hal eo hbw hbwk p1 p2 p3 p4 o1 o2 o3 o4 hk
   by_cases hne:o.name=u.name
   ·have hnb:(o.name.toList==u.name.toList)=true:=by rw[beq_ba];exact decide_eq_true hne
    have HF:=h_ (FIN.out Wk false (by
     rw[V2.out]
     have:(us.take i).all (fun o=> !decide (o.name=u.name))=false:=by
      rw[List.all_eq_false]
      exact⟨o,List.mem_of_getElem? (by rw[List.getElem?_take_of_lt (by omega)];exact EO.out:(us.take i)[k]? =some o),by simp[hne]⟩
     rw[this];rfl) (HB1.out.trans (HBk.out.mono HB1.out.size)))
    rw[hne]at o0
    clear FIN hne V2
    go_wp2_with (first
     |(refine ae (.tmp 25) ?_;refine wpList_load_mid rfl 96 (.tmp 25) rfl b (off+k*5) rfl ds _ HMk.out Tryz.underlying96 rfl HIk.out ?_)
     |(refine ai (.tmp 7) ?_;refine HSk.out _ _ _ _ _ rfl rfl rfl rfl _ (by simp) ?_;simp only[Pt]))
    exact HF.out
   ·have hnb:(o.name.toList==u.name.toList)=false:=by rw[beq_ba];exact decide_eq_false hne
    have HN:Hid (UnR W1 us u i (.int .i64 ((k:Int)+1)) Wk):=h_ ⟨k+1,rfl,hkl,ct EO.out HAL.out (by simp[hne]),HBk.out⟩
    clear hne
    go_wp2_with (first
     |(refine ae (.tmp 25) ?_;refine wpList_load_mid rfl 96 (.tmp 25) rfl b (off+k*5) rfl ds _ HMk.out Tryz.underlying96 rfl HIk.out ?_)
     |(refine ai (.tmp 7) ?_;refine HSk.out _ _ _ _ _ rfl rfl rfl rfl _ (by simp) ?_;simp only[Pt]))
    go_roundw
    case rel=>exact HN.out
    case measure=>simp[RowKit.intOf];omega
  ·have hki: ¬(k:Int)<(i:Int):=by omega
   subst hkl
   have hwm:=h_ hbw
   have V3:Hid (dt us k u=((decide (u.kind=1)||decide (u.kind=2))&&(ratV u.num u.den&&(decide (0<u.num)&&(unB us u&&(!decide (u.base=(k:Int))||(decide (u.num=1)&&decide (u.den=1)))))))):=h_ (by rw[V2.out,hal];rfl)
   obtain⟨q0,q1,q2,q3,q4⟩:=HQ.out wr hbw
   obtain⟨fs,efs⟩:∃fs:List Value,fs= [.int .i64 u.num, .int .i64 u.den]:=⟨_,rfl⟩
   have HFS:Hid (∀w',Below W1.heap.size W1 w'->w'.rangeAt W.heap.size 3 fs):=h_ fun w' hb=>by
    obtain⟨a0,a1,a2,a3,a4⟩:=HQ.out w' hb
    rw[efs]
    intro j v hj
    match j,hj with
    |0,hj=>cases hj;exact a3
    |1,hj=>cases hj;exact a4
    |j+2,hj=>simp at hj
   have HMF:=h_ (HFS.out wr hbw)
   have HIF:=h_ (gQ fs (by rw[efs];rfl))
   have CR:=h_ (rat_any u.num u.den wr)
   rw[show(#[.int .i64 u.num, .int .i64 u.den]:Array Value)=fs.toArray by rw[efs]]at CR
   obtain⟨RV,eRV⟩:∃RV,RV=ratV u.num u.den:=⟨_,rfl⟩
   rw[<-eRV]at CR V3
   have EFS:=h_ efs
   clear V2 hal hbw hk efs eRV HM HST
   generalize k=i at*
   by_cases k0:u.kind=1\/u.kind=2
   ·have V4:Hid (dt us i u=(RV&&(decide (0<u.num)&&(unB us u&&(!decide (u.base=(i:Int))||(decide (u.num=1)&&decide (u.den=1))))))):=h_ (by rw[V3.out];rcases k0 with k|k<;>simp[k])
    have kk:((u.kind==1)=true/\(u.kind !=1)=false)\/((u.kind==1)=false/\(u.kind !=1)=true/\(u.kind==2)=true/\(u.kind !=2)=false):=by rcases k0 with k|k<;>simp[k]
    clear V3 k0
    rcases kk with⟨kb1,kn1⟩|⟨kb1,kn1,kb2,kn2⟩
    all_goals
     go_wp2_with (refine ae (.tmp 42) ?_;refine Row.still (by first|exact Free.wanted_of rfl rfl rfl|rfl) (Hk.exec_mid 43 (.tmp 42) rfl W.heap.size 3 rfl fs _ HMF.out Tryz.underlying43 rfl HIF.out) ?_;simp only[Pt])
     refine CR.out.mono ?_
     rintro e wl ⟨rfl,hbl⟩
     have hwl:=h_ (hwm.out.trans (hbl.mono hwm.out.size))
     obtain⟨q0,q1,q2,q3,q4⟩:=HQ.out wl hwl.out
     clear hbl CR
     cases RV with
     |false=>
      have HF:=h_ (FIN.out wl false (by rw[V4.out];rfl) (HB1.out.trans (hwl.out.mono HB1.out.size)))
      clear FIN
      go_wp2_with fail
      exact HF.out
     |true=>
     by_cases hpos:0<u.num
     rotate_left
     ·have hpb:decide (u.num<=0)=true:=decide_eq_true (by omega)
      have HF:=h_ (FIN.out wl false (by rw[V4.out,decide_eq_false hpos];rfl) (HB1.out.trans (hwl.out.mono HB1.out.size)))
      clear FIN
      go_wp2_with fail
      exact HF.out
     have hpb:decide (u.num<=0)=false:=decide_eq_false (by omega)
     have V5:Hid (dt us i u=(unB us u&&(!decide (u.base=(i:Int))||(decide (u.num=1)&&decide (u.den=1))))):=h_ (by rw[V4.out,decide_eq_true hpos];rfl)
     have CIX:=h_ (fun w=>ix_below (some ⟨b,off,none⟩) us.length c u.base w)
     obtain⟨IB,eIB⟩:∃IB,IB=(decide (0<=u.base)&&decide (u.base<(us.length:Int))):=⟨_,rfl⟩
     rw[<-eIB]at CIX
     have HIB:=h_ eIB
     clear eIB V4 hpos
     cases IB with
     |false=>
      have HF:Hid (∀w',Below wl.heap.size wl w'->R (.returned (.bool false)) w'):=h_ fun w' hb=>FIN.out w' false (by
       rw[V5.out]
       have:unB us u=false:=by
        unfold unB
        have h:=HIB.out
        by_cases h0:0<=u.base
        ·rw[decide_eq_true h0,Bool.true_and]at h
         have h1:=of_decide_eq_false h.symm
         rw[List.getElem?_eq_none (by omega)];simp
        ·rw[decide_eq_false h0];rfl
       rw[this];rfl) (HB1.out.trans ((hwl.out.trans (hb.mono hwl.out.size)).mono HB1.out.size))
      clear FIN
      go_wp2_with fail
      refine Free.wp_region_free 27 [(3, .det (.bool false))] (fun w'=>Below wl.heap.size wl w') (by kernel_rfl) (by kernel_rfl) (Free.mono_det (fun j mk r hf=>by simp only[Free.find]at hf;repeat' (first|cases hf|split at hf))) (Below.refl _ _).drew (fun _ _ h g=>h.trans (Below.mono g h.size)) ?_
      simp only[List.take_succ_cons,List.take_zero]
      iterate 27 (first|(apply Free.chain_skip (by first|exact unwanted2 rfl rfl rfl rfl|exact aJ rfl rfl rfl);simp only[Pt])|(apply Free.chain_det (by first|exact Free.wanted_of rfl rfl rfl|rfl) rfl;(intro w' hB hA;refine Free.opRun_call (f:=184) (args:= #[.slice (some ⟨b,off,none⟩) us.length c, .int .i64 u.base]) (by clear hB hA;go_simp<;>rfl) ?_;refine(CIX.out _).mono ?_;rintro e w3 ⟨rfl,hb3⟩;exact⟨_,rfl,hb3,rfl⟩);simp only[Pt])|(apply Free.chain_still (by first|exact Free.wanted_of rfl rfl rfl|rfl) rfl;(intro w' hB hA;obtain⟨q0,q1,q2,q3,q4⟩:=HQ.out w' (hwl.out.trans (hB.mono hwl.out.size));clear hA;go_light;go_simp<;>rfl);(try simp only[Pt])))
      apply Free.chain_nil
      intro w6 hw6 _ _
      simp only[List.drop_succ_cons,List.drop_zero]
      have HF2:=h_ (HF.out w6 hw6)
      clear hw6 HF
      go_wp2_with fail
      exact HF2.out
     |true=>
     obtain⟨j,hj⟩:∃j:Nat,u.base=(j:Int):=⟨u.base.toNat,by have h:=HIB.out;have:=of_decide_eq_true (Bool.and_eq_true_iff.1 h.symm).1;omega⟩
     have hjl:j<us.length:=by have h:=HIB.out;have:=of_decide_eq_true (Bool.and_eq_true_iff.1 h.symm).2;omega
     obtain⟨v,ev⟩:∃x,us[j]? =some x:=⟨_,List.getElem?_eq_getElem hjl⟩
     have V6:Hid (dt us i u=((decide (v.kind=u.kind)&&decide (v.base=u.base))&&(!decide (u.base=(i:Int))||(decide (u.num=1)&&decide (u.den=1))))):=h_ (by
      rw[V5.out]
      unfold unB
      have h0:decide (0<=u.base)=true:=decide_eq_true (by omega)
      have h1:us[u.base.toNat]? =some v:=by rw[hj,Int.toNat_natCast];exact ev
      rw[h0,h1];rfl)
     have HE2:Hid (∀w',Below wl.heap.size wl w'->w'.cell? ⟨b,off+j*5+1,none⟩=some (.int .i64 v.kind)/\w'.cell? ⟨b,off+j*5+2,none⟩=some (.int .i64 v.base)):=h_ fun w' hb=>by
      have h:=az (HL.out w' (hwl.out.trans (hb.mono hwl.out.size))) ev
      exact⟨h 1 _ rfl,h 2 _ rfl⟩
     have hji:(j:Int)<(us.length:Int):=by omega
     have hj0:(0:Int)<=(j:Int):=by omega
     have hj1:((j:Int)).toNat=j:=by omega
     have HUB:=h_ hj
     have HQ2:Hid (∀w',Below W1.heap.size W1 w'->w'.cell? ⟨W.heap.size,0,none⟩=some (.string u.name)/\w'.cell? ⟨W.heap.size,1,none⟩=some (.int .i64 u.kind)/\w'.cell? ⟨W.heap.size,2,none⟩=some (.int .i64 (j:Int))/\w'.cell? ⟨W.heap.size,3,none⟩=some (.int .i64 u.num)/\w'.cell? ⟨W.heap.size,4,none⟩=some (.int .i64 u.den)):=h_ fun w' hb=>by
      obtain⟨a0,a1,a2,a3,a4⟩:=HQ.out w' hb
      rw[hj]at a2
      exact⟨a0,a1,a2,a3,a4⟩
     rw[hj]at q2 CIX
     rw[hj]at V6
     have FF:Hid (∀w' v,v=dt us i u->Below wl.heap.size wl w'->R (.returned (.bool v)) w'):=h_ fun w' v h hb=>FIN.out w' v h (HB1.out.trans ((hwl.out.trans (hb.mono hwl.out.size)).mono HB1.out.size))
     clear V5 hj ev hjl FIN HQ HIB
     by_cases hk:v.kind=u.kind
     rotate_left
     ·have hkb:(v.kind==u.kind)=false:=by simpa using hk
      have hkn:(v.kind !=u.kind)=true:=by simpa using hk
      have HV:Hid (dt us i u=false):=h_ (by rw[V6.out,decide_eq_false hk];rfl)
      clear hk V6
      go_wp2_with fail
      refine Free.wp_region_free 27 [(3, .det (.bool true))] (fun w'=>Below wl.heap.size wl w') (by kernel_rfl) (by kernel_rfl) (Free.mono_det (fun j mk r hf=>by simp only[Free.find]at hf;repeat' (first|cases hf|split at hf))) (Below.refl _ _).drew (fun _ _ h g=>h.trans (Below.mono g h.size)) ?_
      simp only[List.take_succ_cons,List.take_zero]
      iterate 27 (first|(apply Free.chain_skip (by first|exact unwanted2 rfl rfl rfl rfl|exact aJ rfl rfl rfl);simp only[Pt])|(apply Free.chain_det (by first|exact Free.wanted_of rfl rfl rfl|rfl) rfl;(intro w' hB hA;refine Free.opRun_call (f:=184) (args:= #[.slice (some ⟨b,off,none⟩) us.length c, .int .i64 (j:Int)]) (by clear hB hA;go_simp<;>rfl) ?_;refine(CIX.out _).mono ?_;rintro e w3 ⟨rfl,hb3⟩;exact⟨_,rfl,hb3,rfl⟩);simp only[Pt])|(apply Free.chain_still (by first|exact Free.wanted_of rfl rfl rfl|rfl) rfl;(intro w' hB hA;obtain⟨q0,q1,q2,q3,q4⟩:=HQ2.out w' (hwl.out.trans (hB.mono hwl.out.size));cases HE2.out w' hB;clear hA;go_light;go_simp<;>rfl);(try simp only[Pt])))
      apply Free.chain_nil
      intro w6 hw6 _ _
      simp only[List.drop_succ_cons,List.drop_zero]
      have HF2:=h_ (FF.out w6 false HV.out.symm hw6)
      clear hw6 FF
      go_wp2_with fail
      exact HF2.out
     have hkb:(v.kind==u.kind)=true:=by simpa using hk
     have hkn:(v.kind !=u.kind)=false:=by simpa using hk
     by_cases hba:v.base=(j:Int)
     rotate_left
     ·have hbb:(v.base==(j:Int))=false:=by simpa using hba
      have hbn:(v.base !=(j:Int))=true:=by simpa using hba
      have HV:Hid (dt us i u=false):=h_ (by rw[V6.out,decide_eq_false hba,Bool.and_false];rfl)
      clear hk hba V6
      go_wp2_with fail
      refine Free.wp_region_free 27 [(3, .det (.bool true))] (fun w'=>Below wl.heap.size wl w') (by kernel_rfl) (by kernel_rfl) (Free.mono_det (fun j mk r hf=>by simp only[Free.find]at hf;repeat' (first|cases hf|split at hf))) (Below.refl _ _).drew (fun _ _ h g=>h.trans (Below.mono g h.size)) ?_
      simp only[List.take_succ_cons,List.take_zero]
      iterate 27 (first|(apply Free.chain_det (by first|exact Free.wanted_of rfl rfl rfl|rfl) rfl;(intro w' hB hA;refine Free.opRun_call (f:=184) (args:= #[.slice (some ⟨b,off,none⟩) us.length c, .int .i64 (j:Int)]) (by clear hB hA;go_simp<;>rfl) ?_;refine(CIX.out _).mono ?_;rintro e w3 ⟨rfl,hb3⟩;exact⟨_,rfl,hb3,rfl⟩);simp only[Pt])|(apply Free.chain_still (by first|exact Free.wanted_of rfl rfl rfl|rfl) rfl;(intro w' hB hA;obtain⟨q0,q1,q2,q3,q4⟩:=HQ2.out w' (hwl.out.trans (hB.mono hwl.out.size));cases HE2.out w' hB;clear hA;go_light;go_simp<;>rfl);(try simp only[Pt])))
      apply Free.chain_nil
      intro w6 hw6 _ _
      simp only[List.drop_succ_cons,List.drop_zero]
      have HF2:=h_ (FF.out w6 false HV.out.symm hw6)
      clear hw6 FF
      go_wp2_with fail
      exact HF2.out
     have hbb:(v.base==(j:Int))=true:=by simpa using hba
     have hbn:(v.base !=(j:Int))=false:=by simpa using hba
     have V7:Hid (dt us i u=(!decide ((j:Int)=(i:Int))||(decide (u.num=1)&&decide (u.den=1)))):=h_ (by rw[V6.out,decide_eq_true hk,decide_eq_true hba];rfl)
     clear hk hba V6
     go_wp2_with fail
     refine Free.wp_region_free 27 [(3, .det (.bool true))] (fun w'=>Below wl.heap.size wl w') (by kernel_rfl) (by kernel_rfl) (Free.mono_det (fun j mk r hf=>by simp only[Free.find]at hf;repeat' (first|cases hf|split at hf))) (Below.refl _ _).drew (fun _ _ h g=>h.trans (Below.mono g h.size)) ?_
     simp only[List.take_succ_cons,List.take_zero]
     iterate 27 (first|(apply Free.chain_det (by first|exact Free.wanted_of rfl rfl rfl|rfl) rfl;(intro w' hB hA;refine Free.opRun_call (f:=184) (args:= #[.slice (some ⟨b,off,none⟩) us.length c, .int .i64 (j:Int)]) (by clear hB hA;go_simp<;>rfl) ?_;refine(CIX.out _).mono ?_;rintro e w3 ⟨rfl,hb3⟩;exact⟨_,rfl,hb3,rfl⟩);simp only[Pt])|(apply Free.chain_still (by first|exact Free.wanted_of rfl rfl rfl|rfl) rfl;(intro w' hB hA;obtain⟨q0,q1,q2,q3,q4⟩:=HQ2.out w' (hwl.out.trans (hB.mono hwl.out.size));cases HE2.out w' hB;clear hA;go_light;go_simp<;>rfl);(try simp only[Pt])))
     apply Free.chain_nil
     intro w6 hw6 _ _
     simp only[List.drop_succ_cons,List.drop_zero]
     obtain⟨s0,s1,s2,s3,s4⟩:=HQ2.out w6 (hwl.out.trans (hw6.mono hwl.out.size))
     have HFF:Hid (∀w' v,v=dt us i u->w'=w6->R (.returned (.bool v)) w'):=h_ fun w' v h e=>FF.out w' v h (by rw[e];exact hw6)
     have HMF6:Hid (w6.rangeAt W.heap.size 3 fs):=h_ (HFS.out w6 (hwl.out.trans (hw6.mono hwl.out.size)))
     clear hw6 FF HQ2 HE2 q0 q1 q2 q3 q4
     by_cases hji2:(j:Int)=(i:Int)
     rotate_left
     ·have hc1:((j:Int)==(i:Int))=false:=by simpa using hji2
      have hc2:((j:Int) !=(i:Int))=true:=by simpa using hji2
      have HF2:=h_ (HFF.out w6 true (by rw[V7.out,decide_eq_false hji2];rfl) rfl)
      clear hji2 HFF
      go_wp2_with fail
      exact HF2.out
     have hc1:((j:Int)==(i:Int))=true:=by simpa using hji2
     have hc2:((j:Int) !=(i:Int))=false:=by simpa using hji2
     have HRE:Hid (∀ {ρ:Operand->Value} {op:Oper} {x y:Operand},op.op= .binOp .eql 43 x y 43->ρ x= .agg fs.toArray->ρ y= .agg #[.int .i64 1, .int .i64 1]->(execOp ρ op).run Tryz.prog w6= .ok (.value (.bool (decide (u.num=1)&&decide (u.den=1)))) w6):=h_ fun ho hx hy=>by rw[EFS.out]at hx;exact exec_rat1 ho hx hy
     have HF2:=h_ (HFF.out w6 (decide (u.num=1)&&decide (u.den=1)) (by rw[V7.out,decide_eq_true hji2];rfl) rfl)
     clear hji2 HFF
     obtain⟨Z,eZ⟩:∃Z,Z=(decide (u.num=1)&&decide (u.den=1)):=⟨_,rfl⟩
     rw[<-eZ]at HRE HF2
     clear eZ V7
     go_wp2_with (first
      |(refine ae (.tmp 85) ?_;refine Row.still (by first|exact Free.wanted_of rfl rfl rfl|rfl) (Hk.exec_mid 43 (.tmp 85) rfl W.heap.size 3 rfl fs _ HMF6.out Tryz.underlying43 rfl HIF.out) ?_;simp only[Pt])
      |(refine eQ 43 ?_;refine Row.still (by first|exact Free.wanted_of rfl rfl rfl|rfl) (HRE.out rfl rfl rfl) ?_;simp only[Pt]))
     exact HF2.out
   ·have k1: ¬u.kind=1:=fun e=>k0 (.inl e)
    have k2: ¬u.kind=2:=fun e=>k0 (.inr e)
    have kb1:(u.kind==1)=false:=by simp[k1]
    have kn1:(u.kind !=1)=true:=by simp[k1]
    have kb2:(u.kind==2)=false:=by simp[k2]
    have kn2:(u.kind !=2)=true:=by simp[k2]
    have HF:=h_ (FIN.out wr false (by rw[V3.out,decide_eq_false k1,decide_eq_false k2];rfl) (HB1.out.trans (hwm.out.mono HB1.out.size)))
    clear V3 k0 k1 k2 FIN
    go_wp2_with fail
    exact HF.out
end Go.Proofs.YtekfoaenomgjgaaGreatDoor
