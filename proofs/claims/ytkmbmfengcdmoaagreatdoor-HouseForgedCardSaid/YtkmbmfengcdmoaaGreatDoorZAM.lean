/- Package contract: contracts in memory; small functions on them. Condition: the contract lies in memory. -/
import Derived.Test.YtkmbmfengcdmoaaGreatDoorZAF
import Derived.Test.YtkmbmfengcdmoaaGreatDoorZAL
set_option maxRecDepth 100000
set_option linter.all false
namespace Go.Cv
theorem uR(s:ByteArray):s.toList.isEmpty=decide (s=ByteArray.empty):=by
 rw[Px,uD,List.isEmpty_iff,ByteArray.toList_eq];constructor
 ·intro h;apply Sl;apply M5;rw[h];rfl
 ·intro h;rw[h];rfl
structure Un where
 name:ByteArray
 kind:Int
 base:Int
 num:Int
 den:Int
def lp(u:Un):List Value:= [.string u.name, .int .i64 u.kind, .int .i64 u.base, .int .i64 u.num, .int .i64 u.den]
theorem uS(u:Un):∀v∈lp u,v.oneCell'=true:=λv hv=>by
 simp only[lp,lC,DR,DW]at hv;rcases hv with rfl|rfl|rfl|rfl|rfl<;>rfl
def MV(us:List Un)(u:Un):Bool:=decide (0<=u.base)&&(match us[u.base.toNat]? with|some v=>decide (v.kind=u.kind)&&decide (v.base=u.base)|none=>false)
def fV(us:List Un)(i:Nat)(u:Un):Bool:=
 decide (i<20)&&(!decide (u.name=ByteArray.empty)&&((us.take i).all (λo=> !decide (o.name=u.name))&&((decide (u.kind=1)||decide (u.kind=2))&&(mZ u.num u.den&&(decide (0<u.num)&&(MV us u&&(!decide (u.base=(i:Int))||(decide (u.num=1)&&decide (u.den=1)))))))))
def tR(us:List Un):Bool:=(List.range us.length).all λi=>match us[i]? with|some u=>fV us i u|none=>true
end Go.Cv
namespace Go.Proofs.YtkmbmfengcdmoaaGreatDoor
open Go.RowKit Go.W32 Go.ay Go.Cs Go.Lib Go.Opn Go.Mg Go.Cv

theorem mQ{o:Oper}{ops:Array Oper}{a:Act}{j t:Nat}{b':Bool}(hg:o.guard=some (j,b'))(hj:(ops[j]?).bind (·.dst)=some t)(ht:a.tmps[t]? =some undef):Region.wanted o (yielded ops a.tmps)=false:=by unfold Region.wanted yielded;rw[hg];simp only[hj,Option.bind_some,ht];rfl
theorem Qo{P:Program}{ops:Array Oper}{rest:List Oper}{a:Act}{Q:Exit->Act->World->Prop}(t:TypeId){x y:Operand}{d:Option Tmp}{ty:TypeId}{ps:String}{af:Array Edge}{g:Option (Nat×Bool)}{w:World}
  (h:wpList P ops Q (⟨d, .binOp .eql t x y t,ty,ps,af,g⟩::rest) a w):wpList P ops Q (⟨d, .binOp .eql t x y t,ty,ps,af,g⟩::rest) a w:=h
theorem Ex{ρ:Operand->Value}{op:Oper}{w:World}{x y:Operand}{n d:Int}(ho:op.op= .binOp .eql 32 x y 32)(hx:ρ x= .agg [.int .i64 n, .int .i64 d].toArray)(hy:ρ y= .agg #[.int .i64 1, .int .i64 1]):
  (execOp ρ op).run Tryz.prog w= .ok (.value (.bool (decide (n=1)&&decide (d=1)))) w:=by
 unfold execOp;simp only[ho,hx,hy];by_cases h1:n=1<;>by_cases h2:d=1<;>(go_simp<;>simp[h1,h2])
theorem OQ(A:Option Addr)(n c:Nat)(i:Int)(W:World):Calls Tryz.prog 259 #[.slice A n c, .int .i64 i] W λe w'=>e= .returned (.bool (decide (0<=i)&&decide (i<(n:Int))))/\W=w':=by
 by_cases h:0<=i
 ·have hb:decide (0<=i)=true:=dt h;go_enter Tryz.func259,Tryz.ntmps259;go_wp2_with fail;go_ret;exact⟨by rw[hb];rfl,rfl⟩
 ·have hb:decide (0<=i)=false:=dy h;go_enter Tryz.func259,Tryz.ntmps259;go_wp2_with fail;go_ret;first
   |exact⟨rfl,rfl⟩
   |exact⟨by rw[hb];rfl,rfl⟩
theorem IV(A:Option Addr)(n c:Nat)(i:Int)(W:World):Calls Tryz.prog 259 #[.slice A n c, .int .i64 i] W λe w'=>e= .returned (.bool (decide (0<=i)&&decide (i<(n:Int))))/\Below W.heap.size W w':=
 (OQ A n c i W).mono λ_ _ ⟨h1,h2⟩=>⟨h1,by subst h2;exact Below.refl _ _⟩
theorem wG(cs:List Value)(h:cs.length=5):(Tryz.prog.info? 262).map (·.size)=some cs.length:=by rw[h];kernel_rfl
theorem rL(cs:List Value)(h:cs.length=2):(Tryz.prog.info? 32).map (·.size)=some cs.length:=by rw[h];kernel_rfl
theorem zJ{cs:List Value}(hcl:cs.length=5)(hc1:∀v∈cs,v.oneCell'=true)(s t:Nat)(W0 W1:World)(b:Nat)(hb:b=W0.heap.size)(e1:W1=W0.alloc (.cells cs.toArray 262))(Q:Exit->Act->World->Prop)(ops:Array Oper)(rest:List Oper)(o:Oper)(a:Act)(hgd:o.guard=none)(ho:o.op= .store 262 (.tmp s) (.tmp t))(hx:a.eval (.tmp s)= .pointer (some ⟨b,0,none⟩))(hy:a.eval (.tmp t)= .agg cs.toArray)(ju:Array Value)(hold:ju.size=5)(hk:wpList Tryz.prog ops Q rest (a.put o.dst undef) W1):wpList Tryz.prog ops Q (o::rest) a (W0.alloc (.cells ju 262)):=by rw[e1]at hk;exact Hk.aD hgd 262 (.tmp s) (.tmp t) ho b _ hx hy ju 262 hb (by rw[wG cs hcl];simp) (by rw[hold];simp[hcl]) (all_oneCell_toArray hc1) hk
structure Qj (w:World) (b:Nat) (u:Un):Prop where
 q0:w.cell? ⟨b,0,none⟩=some (.string u.name)
 q1:w.cell? ⟨b,1,none⟩=some (.int .i64 u.kind)
 q2:w.cell? ⟨b,2,none⟩=some (.int .i64 u.base)
 q3:w.cell? ⟨b,3,none⟩=some (.int .i64 u.num)
 q4:w.cell? ⟨b,4,none⟩=some (.int .i64 u.den)
theorem Qj.of{w:World}{b:Nat}{T:TypeId}{u:Un}(h:Row w b T (lp u)):Qj w b u:=⟨h.at rfl,h.at rfl,h.at rfl,h.at rfl,h.at rfl⟩
def SJ(W1:World)(us:List Un)(u:Un)(n:Nat)(v:Value)(wr:World):Prop:=∃k:Nat,v= .int .i64 (k:Int)/\k<=n/\(us.take k).all (λo=> !decide (o.name=u.name))=true/\Below W1.heap.size W1 wr
theorem Hm(X Y:ByteArray):(X.toList==Y.toList)=decide (X=Y):=by rw[Px];simp only[beq_iff_eq,uD,ByteArray.toList_eq];exact⟨λh=>wh h,λh=>by rw[h]⟩
set_option maxHeartbeats 4000000 in
theorem Pm(A:Option Addr)(c:Nat)(us:List Un)(i:Nat)(u:Un)(W:World)(hu:us[i]? =some u)(hl:SL W 5 lp A us)(hc:us.length<=c)(hn:us.length<=1000):
  Calls Tryz.prog 221 #[.slice A us.length c, .int .i64 (i:Int)] W λe w'=>e= .returned (.bool (fV us i u))/\Below W.heap.size W w':=by
 obtain⟨R,eR⟩:=x_ (λe w'=>e= .returned (.bool (fV us i u))/\Below W.heap.size W w':Ending->World->Prop)
 rw[<-eR];have FIN:Hid (∀w' v,v=fV us i u->Below W.heap.size W w'->R (.returned (.bool v)) w'):=h_ λw' v h hb=>by rw[eR,h];exact⟨rfl,hb⟩
 clear eR;have hil:i<us.length:=(jS.1 hu).1;have hii:(i:Int)<(us.length:Int):=by omega
 obtain⟨b,off,rfl⟩:=cG hl (by rintro rfl;simp at hil);obtain⟨cs,ecs⟩:=x_ (lp u)
 have hcl:cs.length=5:=by rw[ecs];rfl
 have HM:Hid (W.rangeAt b (off+i*5) cs):=h_ (by rw[ecs];exact dq hl hu);have HI:=h_ (wG cs hcl);obtain⟨W1,e1⟩:=x_ (W.alloc (.cells cs.toArray 262))
 have hr1:Row W1 W.heap.size 262 cs:=by rw[e1];exact Row.new _ _ _
 have hb1:Below W.heap.size W W1:=by rw[e1];exact(Below.refl _ _).alloc (aL _) _
 have HST:=h_ (zJ hcl (by rw[ecs];exact uS u) 5 11 W W1 _ rfl e1);have HQ:Hid (∀w',Below W1.heap.size W1 w'->Qj w' W.heap.size u):=h_ λw' hb=>Qj.of (T:=262) (by rw[<-ecs];exact hr1.below hb hr1.lt)
 have HL:Hid (∀w',Below W1.heap.size W1 w'->SL w' 5 lp (some ⟨b,off,none⟩) us):=h_ λw' hb=>hl.below (hb1.trans (hb.mono hb1.size)) (aL _)
 have HB1:=h_ hb1;have HU:=h_ hu;obtain⟨q0,q1,q2,q3,q4⟩:=HQ.out W1 (Below.refl _ _);have hic:(i:Int)<=(c:Int):=by omega
 have hi0:(0:Int)<=(i:Int):=by omega
 clear e1 hr1 hb1 hl hu hcl ecs;by_cases h20:i<20;rotate_left
 ·have h20i: ¬(i:Int)<20:=by omega
  have h20b:decide ((20:Int)<=(i:Int))=true:=dt (by omega);have HF:=h_ (FIN.out W1 false (by unfold fV;rw[dy h20];rfl) HB1.out);clear FIN q1 q2 q3 q4;go_enter Tryz.func221,Tryz.ntmps221;go_wp2_with (first
   |(refine aH (.tmp 10) ?_;refine wpList_load_mid rfl 262 (.tmp 10) rfl b (off+i*5) rfl cs _ HM.out Tryz.underlying262 rfl HI.out ?_)
   |(refine aN (.tmp 5) ?_;refine HST.out _ _ _ _ _ rfl rfl rfl rfl _ (by simp) ?_;simp only[Pt]))
  exact HF.out
 have h20b:decide ((20:Int)<=(i:Int))=false:=dy (by omega);have h20i:(i:Int)<20:=by omega
 have V1:Hid (fV us i u=(!decide (u.name=ByteArray.empty)&&((us.take i).all (λo=> !decide (o.name=u.name))&&((decide (u.kind=1)||decide (u.kind=2))&&(mZ u.num u.den&&(decide (0<u.num)&&(MV us u&&(!decide (u.base=(i:Int))||(decide (u.num=1)&&decide (u.den=1)))))))))):=h_ (by unfold fV;rw[dt h20];rfl);by_cases hE:u.name=ByteArray.empty
 ·have hE0:u.name.toList= []:=List.isEmpty_iff.1 ((uR u.name).trans (dt hE));have HF:=h_ (FIN.out W1 false (by rw[V1.out,dt hE];rfl) HB1.out);clear FIN hE V1;go_enter Tryz.func221,Tryz.ntmps221;go_wp2_with (first
   |(refine aH (.tmp 10) ?_;refine wpList_load_mid rfl 262 (.tmp 10) rfl b (off+i*5) rfl cs _ HM.out Tryz.underlying262 rfl HI.out ?_)
   |(refine aN (.tmp 5) ?_;refine HST.out _ _ _ _ _ rfl rfl rfl rfl _ (by simp) ?_;simp only[Pt]))
  exact HF.out
 have OJ:u.name.toList.isEmpty=false:=(uR u.name).trans (dy hE);have hE0:u.name.toList≠ []:=λh=>by rw[h]at OJ;cases OJ
 have V2:Hid (fV us i u=((us.take i).all (λo=> !decide (o.name=u.name))&&((decide (u.kind=1)||decide (u.kind=2))&&(mZ u.num u.den&&(decide (0<u.num)&&(MV us u&&(!decide (u.base=(i:Int))||(decide (u.num=1)&&decide (u.den=1))))))))):=h_ (by rw[V1.out,dy hE];rfl);have HS0:Hid (SJ W1 us u i (.int .i64 0) W1):=h_ ⟨0,rfl,gu _,rfl,Below.refl _ _⟩;have HIL:=h_ hil;clear hE V1 hil;go_enter Tryz.func221,Tryz.ntmps221;go_wp2_with (first
  |(refine aH (.tmp 10) ?_;refine wpList_load_mid rfl 262 (.tmp 10) rfl b (off+i*5) rfl cs _ HM.out Tryz.underlying262 rfl HI.out ?_)
  |(refine aN (.tmp 5) ?_;refine HST.out _ _ _ _ _ rfl rfl rfl rfl _ (by simp) ?_;simp only[Pt]))
 go_loopw [23] (λv wr=>SJ W1 us u i v wr) (λv _=>(i:Int).toNat- (RowKit.intOf v).toNat)
 case atStart=>exact HS0.out
 case round=>
  clear HS0;obtain⟨k,rfl,hk,hal,hbw⟩:=hrel;have hkb:(k:Int)<=1000:=by have:=HIL.out;omega
  rcases pC hk with hkl|hkl
  ·have hki:(k:Int)<(i:Int):=by omega
   obtain⟨o,eo⟩:∃x,us[k]? =some x:=⟨_,eH (by have:=HIL.out;omega)⟩
   obtain⟨ds,eds⟩:=x_ (lp o)
   have hdl:ds.length=5:=by rw[eds];rfl
   have HMk:Hid (wr.rangeAt b (off+k*5) ds):=h_ (by rw[eds];exact dq (HL.out wr hbw) eo);have HIk:=h_ (wG ds hdl);obtain⟨Wk,ek⟩:=x_ (wr.alloc (.cells ds.toArray 262))
   have hrk:Row Wk wr.heap.size 262 ds:=by rw[ek];exact Row.new _ _ _
   have hbk:Below wr.heap.size wr Wk:=by rw[ek];exact(Below.refl _ _).alloc (aL _) _
   have HSk:=h_ (zJ hdl (by rw[eds];exact uS o) 7 26 wr Wk _ rfl ek);have hbwk:=hbw.trans (hbk.mono hbw.size);obtain⟨p0,p1,p2,p3,p4⟩:=HQ.out Wk hbwk;obtain⟨o0,o1,o2,o3,o4⟩:=Qj.of (T:=262) (by rw[<-eds];exact hrk);have HBk:=h_ hbwk;have HAL:=h_ hal;have EO:=h_ eo;clear eds hdl ek hrk hbk hal eo hbw hbwk p1 p2 p3 p4 o1 o2 o3 o4 hk;by_cases hne:o.name=u.name
   ·have hnb:(o.name.toList==u.name.toList)=true:=by rw[Hm];exact dt hne
    have HF:=h_ (FIN.out Wk false (by
     rw[V2.out]
     have:(us.take i).all (λo=> !decide (o.name=u.name))=false:=by rw[List.all_eq_false];exact⟨o,ue (by rw[Sj (by omega)];exact EO.out:(us.take i)[k]? =some o),by simp[hne]⟩
     rw[this];rfl) (HB1.out.trans (HBk.out.mono HB1.out.size)))
    rw[hne]at o0;clear FIN hne V2;go_wp2_with (first
     |(refine aH (.tmp 25) ?_;refine wpList_load_mid rfl 262 (.tmp 25) rfl b (off+k*5) rfl ds _ HMk.out Tryz.underlying262 rfl HIk.out ?_)
     |(refine aN (.tmp 7) ?_;refine HSk.out _ _ _ _ _ rfl rfl rfl rfl _ (by simp) ?_;simp only[Pt]))
    exact HF.out
   ·have hnb:(o.name.toList==u.name.toList)=false:=by rw[Hm];exact dy hne
    have HN:Hid (SJ W1 us u i (.int .i64 ((k:Int)+1)) Wk):=h_ ⟨k+1,rfl,hkl,lI EO.out HAL.out (by simp[hne]),HBk.out⟩;clear hne;go_wp2_with (first
     |(refine aH (.tmp 25) ?_;refine wpList_load_mid rfl 262 (.tmp 25) rfl b (off+k*5) rfl ds _ HMk.out Tryz.underlying262 rfl HIk.out ?_)
     |(refine aN (.tmp 7) ?_;refine HSk.out _ _ _ _ _ rfl rfl rfl rfl _ (by simp) ?_;simp only[Pt]))
    go_roundw
    case rel=>exact HN.out
    case measure=>simp[RowKit.intOf];omega
  ·have hki: ¬(k:Int)<(i:Int):=by omega
   subst hkl;have hwm:=h_ hbw;have V3:Hid (fV us k u=((decide (u.kind=1)||decide (u.kind=2))&&(mZ u.num u.den&&(decide (0<u.num)&&(MV us u&&(!decide (u.base=(k:Int))||(decide (u.num=1)&&decide (u.den=1)))))))):=h_ (by rw[V2.out,hal];rfl);obtain⟨q0,q1,q2,q3,q4⟩:=HQ.out wr hbw;obtain⟨fs,efs⟩:=x_ ([.int .i64 u.num, .int .i64 u.den]:List Value)
   have HFS:Hid (∀w',Below W1.heap.size W1 w'->w'.rangeAt W.heap.size 3 fs):=h_ λw' hb=>by
    obtain⟨a0,a1,a2,a3,a4⟩:=HQ.out w' hb;rw[efs];intro j v hj
    match j,hj with
    |0,hj=>cases hj;exact a3
    |1,hj=>cases hj;exact a4
    |j+2,hj=>simp at hj
   have HMF:=h_ (HFS.out wr hbw);have HIF:=h_ (rL fs (by rw[efs];rfl));have CR:=h_ (Dv u.num u.den wr);rw[show(#[.int .i64 u.num, .int .i64 u.den]:Array Value)=fs.toArray by rw[efs]]at CR;obtain⟨RV,eRV⟩:=x_ (mZ u.num u.den)
   rw[<-eRV]at CR V3;have EFS:=h_ efs;clear V2 hal hbw hk efs eRV HM HST;generalize k=i at*;by_cases k0:u.kind=1\/u.kind=2
   ·have V4:Hid (fV us i u=(RV&&(decide (0<u.num)&&(MV us u&&(!decide (u.base=(i:Int))||(decide (u.num=1)&&decide (u.den=1))))))):=h_ (by rw[V3.out];rcases k0 with k|k<;>simp[k]);have kk:((u.kind==1)=true/\(u.kind !=1)=false)\/((u.kind==1)=false/\(u.kind !=1)=true/\(u.kind==2)=true/\(u.kind !=2)=false):=by rcases k0 with k|k<;>simp[k]
    clear V3 k0;rcases kk with⟨kb1,kn1⟩|⟨kb1,kn1,kb2,kn2⟩
    all_goals
     go_wp2_with (refine aH (.tmp 42) ?_;refine Row.still (Free.wq rfl) (Hk.aU 32 (.tmp 42) rfl W.heap.size 3 rfl fs _ HMF.out Tryz.underlying32 rfl HIF.out) ?_;simp only[Pt])
     refine CR.out.mono ?_;rintro e wl ⟨rfl,hbl⟩;have hwl:=h_ (hwm.out.trans (hbl.mono hwm.out.size));obtain⟨q0,q1,q2,q3,q4⟩:=HQ.out wl hwl.out;clear hbl CR;cases RV with
     |false=>have HF:=h_ (FIN.out wl false (by rw[V4.out];rfl) (HB1.out.trans (hwl.out.mono HB1.out.size)));clear FIN;go_wp2_with fail;exact HF.out
     |true=>
     by_cases hpos:0<u.num;rotate_left
     ·have hpb:decide (u.num<=0)=true:=dt (by omega);have HF:=h_ (FIN.out wl false (by rw[V4.out,dy hpos];rfl) (HB1.out.trans (hwl.out.mono HB1.out.size)));clear FIN;go_wp2_with fail;exact HF.out
     have hpb:decide (u.num<=0)=false:=dy (by omega);have V5:Hid (fV us i u=(MV us u&&(!decide (u.base=(i:Int))||(decide (u.num=1)&&decide (u.den=1))))):=h_ (by rw[V4.out,dt hpos];rfl);have CIX:=h_ (λw=>IV (some ⟨b,off,none⟩) us.length c u.base w);obtain⟨IB,eIB⟩:=x_ ((decide (0<=u.base)&&decide (u.base<(us.length:Int))))
     rw[<-eIB]at CIX;have HIB:=h_ eIB;clear eIB V4 hpos;cases IB with
     |false=>
      have HF:Hid (∀w',Below wl.heap.size wl w'->R (.returned (.bool false)) w'):=h_ λw' hb=>FIN.out w' false (by
       rw[V5.out]
       have:MV us u=false:=by
        unfold MV;have h:=HIB.out;by_cases h0:0<=u.base
        ·rw[dt h0,M8]at h;have h1:=of_decide_eq_false h.symm;rw[pz (by omega)];simp
        ·rw[dy h0];rfl
       rw[this];rfl) (HB1.out.trans ((hwl.out.trans (hb.mono hwl.out.size)).mono HB1.out.size))
      clear FIN;go_wp2_with fail;refine Free.ai 27 [(3, .det (.bool false))] (λw'=>Below wl.heap.size wl w') (by kernel_rfl) (by kernel_rfl) (Free.aW (λj mk r hf=>by simp only[Free.find]at hf;repeat' (first|cases hf|split at hf))) (Below.refl _ _).drew (λ_ _ h g=>h.trans (Below.mono g h.size)) ?_;simp only[eJ,dT];iterate 27 (first|(apply Free.dw (by first|exact fk rfl rfl rfl rfl|exact mQ rfl rfl rfl);simp only[Pt])|(apply Free.aC (Free.wq rfl) rfl;(intro w' hB hA;refine Free.au (f:=259) (args:= #[.slice (some ⟨b,off,none⟩) us.length c, .int .i64 u.base]) (by clear hB hA;go_simp<;>rfl) ?_;refine(CIX.out _).mono ?_;rintro e w3 ⟨rfl,hb3⟩;exact⟨_,rfl,hb3,rfl⟩);simp only[Pt])|(apply Free.ae (Free.wq rfl) rfl;(intro w' hB hA;obtain⟨q0,q1,q2,q3,q4⟩:=HQ.out w' (hwl.out.trans (hB.mono hwl.out.size));clear hA;go_light;go_simp<;>rfl);(try simp only[Pt])))
      apply Free.ax;intro w6 hw6 _ _;simp only[fm,fo];have HF2:=h_ (HF.out w6 hw6);clear hw6 HF;go_wp2_with fail;exact HF2.out
     |true=>
     obtain⟨j,hj⟩:∃j:Nat,u.base=(j:Int):=⟨u.base.toNat,by have h:=HIB.out;have:=Sc (Bool.and_eq_true_iff.1 h.symm).1;omega⟩
     have hjl:j<us.length:=by have h:=HIB.out;have:=Sc (Bool.and_eq_true_iff.1 h.symm).2;omega
     obtain⟨v,ev⟩:∃x,us[j]? =some x:=⟨_,eH hjl⟩
     have V6:Hid (fV us i u=((decide (v.kind=u.kind)&&decide (v.base=u.base))&&(!decide (u.base=(i:Int))||(decide (u.num=1)&&decide (u.den=1))))):=h_ (by
      rw[V5.out];unfold MV;have h0:decide (0<=u.base)=true:=dt (by omega);have h1:us[u.base.toNat]? =some v:=by rw[hj,tZ];exact ev
      rw[h0,h1];rfl)
     have HE2:Hid (∀w',Below wl.heap.size wl w'->w'.cell? ⟨b,off+j*5+1,none⟩=some (.int .i64 v.kind)/\w'.cell? ⟨b,off+j*5+2,none⟩=some (.int .i64 v.base)):=h_ λw' hb=>by
      have h:=dq (HL.out w' (hwl.out.trans (hb.mono hwl.out.size))) ev;exact⟨h 1 _ rfl,h 2 _ rfl⟩
     have hji:(j:Int)<(us.length:Int):=by omega
     have hj0:(0:Int)<=(j:Int):=by omega
     have hj1:((j:Int)).toNat=j:=by omega
     have HUB:=h_ hj;have HQ2:Hid (∀w',Below W1.heap.size W1 w'->w'.cell? ⟨W.heap.size,0,none⟩=some (.string u.name)/\w'.cell? ⟨W.heap.size,1,none⟩=some (.int .i64 u.kind)/\w'.cell? ⟨W.heap.size,2,none⟩=some (.int .i64 (j:Int))/\w'.cell? ⟨W.heap.size,3,none⟩=some (.int .i64 u.num)/\w'.cell? ⟨W.heap.size,4,none⟩=some (.int .i64 u.den)):=h_ λw' hb=>by
      obtain⟨a0,a1,a2,a3,a4⟩:=HQ.out w' hb;rw[hj]at a2;exact⟨a0,a1,a2,a3,a4⟩
     rw[hj]at q2 CIX;rw[hj]at V6;have FF:Hid (∀w' v,v=fV us i u->Below wl.heap.size wl w'->R (.returned (.bool v)) w'):=h_ λw' v h hb=>FIN.out w' v h (HB1.out.trans ((hwl.out.trans (hb.mono hwl.out.size)).mono HB1.out.size))
     clear V5 hj ev hjl FIN HQ HIB;by_cases hk:v.kind=u.kind;rotate_left
     ·have hkb:(v.kind==u.kind)=false:=by simpa using hk
      have hkn:(v.kind !=u.kind)=true:=by simpa using hk
      have HV:Hid (fV us i u=false):=h_ (by rw[V6.out,dy hk];rfl);clear hk V6;go_wp2_with fail;refine Free.ai 27 [(3, .det (.bool true))] (λw'=>Below wl.heap.size wl w') (by kernel_rfl) (by kernel_rfl) (Free.aW (λj mk r hf=>by simp only[Free.find]at hf;repeat' (first|cases hf|split at hf))) (Below.refl _ _).drew (λ_ _ h g=>h.trans (Below.mono g h.size)) ?_;simp only[eJ,dT];iterate 27 (first|(apply Free.dw (by first|exact fk rfl rfl rfl rfl|exact mQ rfl rfl rfl);simp only[Pt])|(apply Free.aC (Free.wq rfl) rfl;(intro w' hB hA;refine Free.au (f:=259) (args:= #[.slice (some ⟨b,off,none⟩) us.length c, .int .i64 (j:Int)]) (by clear hB hA;go_simp<;>rfl) ?_;refine(CIX.out _).mono ?_;rintro e w3 ⟨rfl,hb3⟩;exact⟨_,rfl,hb3,rfl⟩);simp only[Pt])|(apply Free.ae (Free.wq rfl) rfl;(intro w' hB hA;obtain⟨q0,q1,q2,q3,q4⟩:=HQ2.out w' (hwl.out.trans (hB.mono hwl.out.size));cases HE2.out w' hB;clear hA;go_light;go_simp<;>rfl);(try simp only[Pt])))
      apply Free.ax;intro w6 hw6 _ _;simp only[fm,fo];have HF2:=h_ (FF.out w6 false HV.out.symm hw6);clear hw6 FF;go_wp2_with fail;exact HF2.out
     have hkb:(v.kind==u.kind)=true:=by simpa using hk
     have hkn:(v.kind !=u.kind)=false:=by simpa using hk
     by_cases hba:v.base=(j:Int)
     rotate_left
     ·have hbb:(v.base==(j:Int))=false:=by simpa using hba
      have hbn:(v.base !=(j:Int))=true:=by simpa using hba
      have HV:Hid (fV us i u=false):=h_ (by rw[V6.out,dy hba,R5];rfl);clear hk hba V6;go_wp2_with fail;refine Free.ai 27 [(3, .det (.bool true))] (λw'=>Below wl.heap.size wl w') (by kernel_rfl) (by kernel_rfl) (Free.aW (λj mk r hf=>by simp only[Free.find]at hf;repeat' (first|cases hf|split at hf))) (Below.refl _ _).drew (λ_ _ h g=>h.trans (Below.mono g h.size)) ?_;simp only[eJ,dT];iterate 27 (first|(apply Free.aC (Free.wq rfl) rfl;(intro w' hB hA;refine Free.au (f:=259) (args:= #[.slice (some ⟨b,off,none⟩) us.length c, .int .i64 (j:Int)]) (by clear hB hA;go_simp<;>rfl) ?_;refine(CIX.out _).mono ?_;rintro e w3 ⟨rfl,hb3⟩;exact⟨_,rfl,hb3,rfl⟩);simp only[Pt])|(apply Free.ae (Free.wq rfl) rfl;(intro w' hB hA;obtain⟨q0,q1,q2,q3,q4⟩:=HQ2.out w' (hwl.out.trans (hB.mono hwl.out.size));cases HE2.out w' hB;clear hA;go_light;go_simp<;>rfl);(try simp only[Pt])))
      apply Free.ax;intro w6 hw6 _ _;simp only[fm,fo];have HF2:=h_ (FF.out w6 false HV.out.symm hw6);clear hw6 FF;go_wp2_with fail;exact HF2.out
     have hbb:(v.base==(j:Int))=true:=by simpa using hba
     have hbn:(v.base !=(j:Int))=false:=by simpa using hba
     have V7:Hid (fV us i u=(!decide ((j:Int)=(i:Int))||(decide (u.num=1)&&decide (u.den=1)))):=h_ (by rw[V6.out,dt hk,dt hba];rfl);clear hk hba V6;go_wp2_with fail;refine Free.ai 27 [(3, .det (.bool true))] (λw'=>Below wl.heap.size wl w') (by kernel_rfl) (by kernel_rfl) (Free.aW (λj mk r hf=>by simp only[Free.find]at hf;repeat' (first|cases hf|split at hf))) (Below.refl _ _).drew (λ_ _ h g=>h.trans (Below.mono g h.size)) ?_;simp only[eJ,dT];iterate 27 (first|(apply Free.aC (Free.wq rfl) rfl;(intro w' hB hA;refine Free.au (f:=259) (args:= #[.slice (some ⟨b,off,none⟩) us.length c, .int .i64 (j:Int)]) (by clear hB hA;go_simp<;>rfl) ?_;refine(CIX.out _).mono ?_;rintro e w3 ⟨rfl,hb3⟩;exact⟨_,rfl,hb3,rfl⟩);simp only[Pt])|(apply Free.ae (Free.wq rfl) rfl;(intro w' hB hA;obtain⟨q0,q1,q2,q3,q4⟩:=HQ2.out w' (hwl.out.trans (hB.mono hwl.out.size));cases HE2.out w' hB;clear hA;go_light;go_simp<;>rfl);(try simp only[Pt])))
     apply Free.ax;intro w6 hw6 _ _;simp only[fm,fo];obtain⟨s0,s1,s2,s3,s4⟩:=HQ2.out w6 (hwl.out.trans (hw6.mono hwl.out.size));have HFF:Hid (∀w' v,v=fV us i u->w'=w6->R (.returned (.bool v)) w'):=h_ λw' v h e=>FF.out w' v h (by rw[e];exact hw6)
     have HMF6:Hid (w6.rangeAt W.heap.size 3 fs):=h_ (HFS.out w6 (hwl.out.trans (hw6.mono hwl.out.size)));clear hw6 FF HQ2 HE2 q0 q1 q2 q3 q4;by_cases hji2:(j:Int)=(i:Int)
     rotate_left
     ·have hc1:((j:Int)==(i:Int))=false:=by simpa using hji2
      have hc2:((j:Int) !=(i:Int))=true:=by simpa using hji2
      have HF2:=h_ (HFF.out w6 true (by rw[V7.out,dy hji2];rfl) rfl);clear hji2 HFF;go_wp2_with fail;exact HF2.out
     have hc1:((j:Int)==(i:Int))=true:=by simpa using hji2
     have hc2:((j:Int) !=(i:Int))=false:=by simpa using hji2
     have HRE:Hid (∀ {ρ:Operand->Value} {op:Oper} {x y:Operand},op.op= .binOp .eql 32 x y 32->ρ x= .agg fs.toArray->ρ y= .agg #[.int .i64 1, .int .i64 1]->(execOp ρ op).run Tryz.prog w6= .ok (.value (.bool (decide (u.num=1)&&decide (u.den=1)))) w6):=h_ λho hx hy=>by rw[EFS.out]at hx;exact Ex ho hx hy
     have HF2:=h_ (HFF.out w6 (decide (u.num=1)&&decide (u.den=1)) (by rw[V7.out,dt hji2];rfl) rfl);clear hji2 HFF;obtain⟨Z,eZ⟩:=x_ ((decide (u.num=1)&&decide (u.den=1)))
     rw[<-eZ]at HRE HF2;clear eZ V7;go_wp2_with (first
      |(refine aH (.tmp 85) ?_;refine Row.still (Free.wq rfl) (Hk.aU 32 (.tmp 85) rfl W.heap.size 3 rfl fs _ HMF6.out Tryz.underlying32 rfl HIF.out) ?_;simp only[Pt])
      |(refine Qo 32 ?_;refine Row.still (Free.wq rfl) (HRE.out rfl rfl rfl) ?_;simp only[Pt]))
     exact HF2.out
   ·have k1: ¬u.kind=1:=λe=>k0 (.inl e)
    have k2: ¬u.kind=2:=λe=>k0 (.inr e)
    have kb1:(u.kind==1)=false:=by simp[k1]
    have kn1:(u.kind !=1)=true:=by simp[k1]
    have kb2:(u.kind==2)=false:=by simp[k2]
    have kn2:(u.kind !=2)=true:=by simp[k2]
    have HF:=h_ (FIN.out wr false (by rw[V3.out,dy k1,dy k2];rfl) (HB1.out.trans (hwm.out.mono HB1.out.size)));clear V3 k0 k1 k2 FIN;go_wp2_with fail;exact HF.out
theorem tC{p:Nat->Bool}{n k:Nat}(h:(List.range k).all p=true)(hp:p k=true)(_hk:k<n):(List.range (k+1)).all p=true:=by rw[RX,RZ,h];simp[hp]
theorem tB{p:Nat->Bool}{n k:Nat}(hk:k<n)(hp:p k=false):(List.range n).all p=false:=by rw[List.all_eq_false];exact⟨k,R2.2 hk,by simp[hp]⟩
def Mx(us:List Un)(i:Nat):Bool:=match us[i]? with|some u=>fV us i u|none=>true
theorem My{us:List Un}{i:Nat}{u:Un}(h:us[i]? =some u):Mx us i=fV us i u:=by unfold Mx;rw[h]
def zZ(us:List Un)(W:World)(e:Ending)(w':World):Prop:=(∃i:Int,e= .returned (.tuple #[.int .i64 i, .bool (tR us)]))/\Below W.heap.size W w'
set_option maxHeartbeats 1000000 in
theorem Pb(A:Option Addr)(c:Nat)(us:List Un)(W:World)(hl:SL W 5 lp A us)(hc:us.length<=c)(hn:us.length<=1000):Calls Tryz.prog 155 #[.slice A us.length c] W (zZ us W):=by
 obtain⟨R,eR⟩:=x_ (zZ us W)
 rw[<-eR];have FIN:Hid (∀w' i v,v=(List.range us.length).all (Mx us)->Below W.heap.size W w'->R (.returned (.tuple #[.int .i64 i, .bool v])) w'):=h_ λw' i v h hb=>by rw[eR,h];exact⟨⟨i,rfl⟩,hb⟩
 clear eR;have CT:Hid (∀(i:Nat) u w',us[i]? =some u->Below W.heap.size W w'->Calls Tryz.prog 221 #[.slice A us.length c, .int .i64 (i:Int)] w' λe w''=>e= .returned (.bool (fV us i u))/\Below w'.heap.size w' w''):=h_ λi u w' h hb=>Pm A c us i u w' h (hl.below hb (aL _)) hc hn
 have HN:=h_ hn;clear hl hc hn;go_enter Tryz.func155,Tryz.ntmps155;go_wp2_with fail
 go_loopw [7] (λv wr=> ∃k:Nat,v= .int .i64 (k:Int)/\k<=us.length/\Hid ((List.range k).all (Mx us)=true)/\Below W.heap.size W wr) (λv _=>(us.length:Int).toNat- (RowKit.intOf v).toNat)
 case atStart=>exact⟨0,rfl,gu _,h_ rfl,Below.refl _ _⟩
 case round=>
  obtain⟨k,rfl,hk,hal,hbw⟩:=hrel;have hkb:(k:Int)<=1000:=by have:=HN.out;omega
  rcases pC hk with hkl|hkl
  ·have hki:(k:Int)<(us.length:Int):=by omega
   obtain⟨u,eu⟩:∃x,us[k]? =some x:=⟨_,eH hkl⟩
   have CT1:=h_ (CT.out k u wr eu hbw);have HQ:=h_ (My eu);have HBW:=h_ hbw;obtain⟨v,ev⟩:=x_ (fV us k u)
   rw[<-ev]at CT1 HQ;clear eu hbw ev hk;go_wp2_with fail;refine CT1.out.mono ?_;rintro e w2 ⟨rfl,hb2⟩;have HB2:=h_ (HBW.out.trans (hb2.mono HBW.out.size));clear hb2 CT1;cases v with
   |true=>
    go_wp2_with fail
    go_roundw
    case rel=>exact⟨k+1,rfl,hkl,h_ (tC hal.out HQ.out hkl),HB2.out⟩
    case measure=>simp[RowKit.intOf];omega
   |false=>have HF:=h_ (FIN.out w2 (k:Int) false (tB hkl HQ.out).symm HB2.out);clear FIN;go_wp2_with fail;exact HF.out
  ·have hki: ¬(k:Int)<(us.length:Int):=by omega
   have HF:=h_ (FIN.out wr (-1) true (by rw[<-hkl];exact hal.out.symm) hbw);clear hbw hal FIN hk;go_wp2_with fail;exact HF.out
end Go.Proofs.YtkmbmfengcdmoaaGreatDoor
namespace Go.Cv
open Go Go.Cs Go.Opn Go.RowKit
structure zY where
 kind:Int
 role:Int
 rq:Int
 dest:Int
 unit:Int
 num:Int
 den:Int
def ln(a:zY):List Value:= [.int .i64 a.kind, .int .i64 a.role, .int .i64 a.rq, .int .i64 a.dest, .int .i64 a.unit, .int .i64 a.num, .int .i64 a.den]
abbrev Kl:=mT×(Option Addr×Nat)
def oz(k:Kl):List Value:=nA k.1 (.slice k.2.1 k.1.start.length k.2.2)
structure NV where
 aj:Int
 aE:List Int
 bP:List Un
 bQ:List zY
 cls:List mT
 days:Int
 off:List Int
structure cZ where
 aj:Int
 aE:List Int
 bP:List Un
 bQ:List zY
 iH:List Kl
 days:Int
 off:List Int
 hA:Option Addr
 hc:Nat
 uA:Option Addr
 uc:Nat
 aA:Option Addr
 ac:Nat
 kA:Option Addr
 kc:Nat
 oA:Option Addr
 oc:Nat
def cZ.iU(c:cZ):NV:=⟨c.aj,c.aE,c.bP,c.bQ,c.iH.map Prod.fst,c.days,c.off⟩
def cD(c:cZ):List Value:= [.int .i64 c.aj, .slice c.hA c.aE.length c.hc, .slice c.uA c.bP.length c.uc, .slice c.aA c.bQ.length c.ac, .slice c.kA c.iH.length c.kc, .int .i64 c.days, .slice c.oA c.off.length c.oc]
theorem Au(c:cZ):∀v∈cD c,v.oneCell'=true:=λv hv=>by
 simp only[cD,lC,DR,DW]at hv;rcases hv with rfl|rfl|rfl|rfl|rfl|rfl|rfl<;>rfl
structure dV (w:World) (c:cZ):Prop where
 h:SL w 1 Cs.encI c.hA c.aE
 u:SL w 5 lp c.uA c.bP
 a:SL w 7 ln c.aA c.bQ
 k:SL w 16 oz c.kA c.iH
 o:SL w 1 Cs.encI c.oA c.off
 st:∀k∈c.iH,SL w 2 fX k.2.1 k.1.start
theorem dV.below{w w':World}{c:cZ}{B:Nat}(h:dV w c)(hb:Below B w w')(hB:w.heap.size<=B):dV w' c:=
 ⟨h.h.below hb hB,h.u.below hb hB,h.a.below hb hB,h.k.below hb hB,h.o.below hb hB,λk hk=>(h.st k hk).below hb hB⟩
structure lk (c:cZ):Prop where
 h:c.aE.length<=9223372036854775807
 u:c.bP.length<=9223372036854775807
 a:c.bQ.length<=9223372036854775807
 k:c.iH.length<=9223372036854775807
 o:c.off.length<=9223372036854775807
 uc:c.bP.length<=c.uc
 st:∀k∈c.iH,k.1.start.length<=9223372036854775807
def ja(n:Nat)(i:Int):Bool:=decide (0<=i)&&decide (i<(n:Int))
def rB(num den:Int):Bool:=decide (0<num)&&mZ num den
def lz(acs:List zY)(i:Int):Bool:=ja acs.length i&&(match acs[i.toNat]? with|some a=>decide (a.kind=1)&&decide (a.role= -1)|none=>false)
end Go.Cv
namespace Go.Proofs.YtkmbmfengcdmoaaGreatDoor
open Go.RowKit Go.W32 Go.ay Go.Cs Go.Lib Go.Opn Go.Mg Go.Cv
structure SA (W W1:World) (c:cZ) (cs:List Value):Prop where
 row:Row W1 W.heap.size 27 cs
 below:Below W.heap.size W W1
 e:W.alloc (.cells cs.toArray 27)=W1
 cs:cs=cD c
theorem uh(W:World)(c:cZ):∃W1 cs,SA W W1 c cs:=⟨_,_,Row.new _ _ _,(Below.refl _ _).alloc (aL _) _,rfl,rfl⟩
structure jK (w:World) (b:Nat) (c:cZ):Prop where
 k0:w.cell? ⟨b,0,none⟩=some (.int .i64 c.aj)
 k1:w.cell? ⟨b,1,none⟩=some (.slice c.hA c.aE.length c.hc)
 k2:w.cell? ⟨b,2,none⟩=some (.slice c.uA c.bP.length c.uc)
 k3:w.cell? ⟨b,3,none⟩=some (.slice c.aA c.bQ.length c.ac)
 k4:w.cell? ⟨b,4,none⟩=some (.slice c.kA c.iH.length c.kc)
 k5:w.cell? ⟨b,5,none⟩=some (.int .i64 c.days)
 k6:w.cell? ⟨b,6,none⟩=some (.slice c.oA c.off.length c.oc)
theorem jK.of{w:World}{b:Nat}{T:TypeId}{c:cZ}(h:Row w b T (cD c)):jK w b c:=⟨h.at rfl,h.at rfl,h.at rfl,h.at rfl,h.at rfl,h.at rfl,h.at rfl⟩
theorem ig(cs:List Value)(h:cs.length=7):(Tryz.prog.info? 27).map (·.size)=some cs.length:=by rw[h];kernel_rfl
theorem wP(c:cZ)(i:Int)(W:World):Calls Tryz.prog 161 #[.agg (cD c).toArray, .int .i64 i] W λe w'=>e= .returned (.bool (ja c.aE.length i))/\Below W.heap.size W w':=by
 obtain⟨R,eR⟩:=x_ (λe w'=>e= .returned (.bool (ja c.aE.length i))/\Below W.heap.size W w':Ending->World->Prop)
 rw[<-eR];have FIN:Hid (∀w' v,v=ja c.aE.length i->Below W.heap.size W w'->R (.returned (.bool v)) w'):=h_ λw' v h hb=>by rw[eR,h];exact⟨rfl,hb⟩
 clear eR;obtain⟨W1,cs,hx⟩:=uh W c;have hq:=jK.of (T:=27) (b:=W.heap.size) (w:=W1) (c:=c) (by rw[<-hx.cs];exact hx.row);obtain⟨k0,k1,k2,k3,k4,k5,k6⟩:=hq;have E1:=h_ hx.e;have HB1:=h_ hx.below;rw[<-hx.cs];clear hx k0 k2 k3 k4 k5 k6;by_cases h:0<=i
 ·have hb:decide (0<=i)=true:=dt h;by_cases h2:i<(c.aE.length:Int)
  ·have hb2:decide (i<(c.aE.length:Int))=true:=dt h2;have HF:=h_ (FIN.out W1 true (by unfold ja;rw[hb,hb2];rfl) HB1.out);clear FIN;go_enter Tryz.func161,Tryz.ntmps161;go_wp2_with (simp only[E1.out])
   exact HF.out
  ·have hb2:decide (i<(c.aE.length:Int))=false:=dy h2;have HF:=h_ (FIN.out W1 false (by unfold ja;rw[hb,hb2];rfl) HB1.out);clear FIN;go_enter Tryz.func161,Tryz.ntmps161;go_wp2_with (simp only[E1.out])
   exact HF.out
 ·have hb:decide (0<=i)=false:=dy h;have HF:=h_ (FIN.out W1 false (by unfold ja;rw[hb];rfl) HB1.out);clear FIN;go_enter Tryz.func161,Tryz.ntmps161;go_wp2_with (simp only[E1.out])
  exact HF.out
theorem sV(W:World):Calls Tryz.prog 159 #[] W λe w'=>e= .returned (.agg #[.int .i64 0, .int .i64 1])/\Below W.heap.size W w':=by go_enter Tryz.func159,Tryz.ntmps159;go_wp2_with fail;exact bodyPost_ret (v:= .agg #[.int .i64 0, .int .i64 1]) (by simp[results,Tryz.results159,go_sem]) rfl ⟨rfl,(Below.refl _ _).alloc (aL _) _⟩
theorem Ds(num den:Int)(W:World):Calls Tryz.prog 160 #[.agg #[.int .i64 num, .int .i64 den]] W λe w'=>e= .returned (.bool (rB num den))/\Below W.heap.size W w':=by
 obtain⟨R,eR⟩:=x_ (λe w'=>e= .returned (.bool (rB num den))/\Below W.heap.size W w':Ending->World->Prop)
 rw[<-eR];have FIN:Hid (∀w' v,v=rB num den->Below W.heap.size W w'->R (.returned (.bool v)) w'):=h_ λw' v h hb=>by rw[eR,h];exact⟨rfl,hb⟩
 clear eR;obtain⟨fs,efs⟩:=x_ ([.int .i64 num, .int .i64 den]:List Value)
 obtain⟨W1,e1⟩:=x_ (W.alloc (.cells fs.toArray 32))
 have hr1:Row W1 W.heap.size 32 fs:=by rw[e1];exact Row.new _ _ _
 have HB1:Hid (Below W.heap.size W W1):=h_ (by rw[e1];exact(Below.refl _ _).alloc (aL _) _);have E1:Hid (W.alloc (.cells fs.toArray 32)=W1):=h_ e1.symm;have c0:=hr1.at (show fs[0]? =some (.int .i64 num) by rw[efs];rfl);have HM:=h_ (hr1.range λj v hj=>(show fs[0+j]? =some v by rw[nW];exact hj));have HI:=h_ (rL fs (by rw[efs];rfl));have CR:=h_ (Dv num den W1);rw[show(#[.int .i64 num, .int .i64 den]:Array Value)=fs.toArray by rw[efs]]at CR⊢;obtain⟨V,eV⟩:=x_ (mZ num den)
 have HV:Hid (rB num den=(decide (0<num)&&V)):=h_ (by unfold rB;rw[eV]);rw[<-eV]at CR;clear e1 hr1 efs eV;by_cases h:0<num
 ·have HV2:Hid (V=rB num den):=h_ (by rw[HV.out,dt h];rfl);go_enter Tryz.func160,Tryz.ntmps160;go_wp2_with (first
   |(simp only[E1.out])
   |(refine aH (.tmp 1) ?_;refine Row.still (Free.wq rfl) (Hk.aU 32 (.tmp 1) rfl W.heap.size 0 rfl fs _ HM.out Tryz.underlying32 rfl HI.out) ?_;simp only[Pt]))
  refine CR.out.mono ?_;rintro e w2 ⟨rfl,hb2⟩;have HF:=h_ (FIN.out w2 V HV2.out (HB1.out.trans (hb2.mono HB1.out.size)));clear hb2 CR FIN;go_wp2_with fail;exact HF.out
 ·have HF:=h_ (FIN.out W1 false (by rw[HV.out,dy h];rfl) HB1.out);clear FIN;go_enter Tryz.func160,Tryz.ntmps160;go_wp2_with (simp only[E1.out])
  exact HF.out
end Go.Proofs.YtkmbmfengcdmoaaGreatDoor
